/-
  Coded of spec and impl come to one and the same. No condition but a text's greatest length.
-/
import Derived.Test.YtfckiehbpgbpcaaP0
import Derived.Test.YtfckiehbpgbpcaaPimplCoded
import Derived.Test.YtfckiehbpgbpcaaPspecCoded
import Derived.Test.YtfckiehbpgbpcaaPspecl3Coded
import Derived.Test.YtfckiehbpgbpcaaQ0
import Derived.Test.YtfckiehbpgbpcaaQall
namespace Go.Proofs.Ytfckiehbpgbpcaa.Q
set_option linter.unusedVariables false
set_option linter.unusedSimpArgs false
open Go.RowKit Go.Proofs.Ytfckiehbpgbpcaa.P Go.Proofs.YtfckiehbpgbpcaaW.PrintWords Go.Proofs.YtfckiehbpgbpcaaW.PrintLast Go.Proofs.YtfckiehbpgbpcaaW.PrintMore

/-- A digit of sixteen. -/
def capV (c : Int) : Int := bt (⟨#[48, 49, 50, 51, 52, 53, 54, 55, 56, 57, 65, 66, 67, 68, 69, 70]⟩ : ByteArray) c
/-- What a byte is coded as. -/
def codeB (c : Int) : List Int := if plaB c = true then [c] else [37, capV (Int.tdiv c 16 % 256), capV (Int.tmod c 16)]
theorem codeB_length (c : Int) : (codeB c).length ≤ 3 := by unfold codeB; split <;> simp
theorem code_div (c : Int) (h0 : 0 ≤ c) (h1 : c ≤ 255) : 0 ≤ Int.tdiv c 16 % 256 ∧ Int.tdiv c 16 % 256 < 16 ∧ 0 ≤ Int.tmod c 16 ∧ Int.tmod c 16 < 16 := by
  rw [Int.tdiv_eq_ediv_of_nonneg h0, Int.tmod_eq_emod_of_nonneg h0]
  omega
def coded (s : ByteArray) : ByteArray := if s.size ≤ 200 then strOfNums ((bytesOf s).flatMap codeB) else ⟨#[]⟩
theorem spec_l3Coded_ev (s : ByteArray) (hs : s.size ≤ 1048576) : Ev (fun k => spec_l3Coded.f k s) (strOfNums ((bytesOf s).flatMap codeB)) := by
  unfold spec_l3Coded.f
  have h := ev_run (σ := List Int) (β := ByteArray) s (fun st i => st.length ≤ 3 * i) (fun st c => .inl (st ++ codeB c)) strOfNums (fun k st i => spec_l3Coded.l0 k s st i) 0
    (fun k st i _ hi hI => ⟨fun st' e => by
      obtain rfl := Sum.inl.inj e
      have hr := bt_range s i
      have hd := code_div (bt s i) hr.1 hr.2
      have hl := codeB_length (bt s i)
      refine ⟨?_, by rw [List.length_append]; omega⟩
      simp only [spec_l3Coded.l0]
      rw [if_pos (by omega), if_pos (by omega), spec_l3Plain_is _ hr.1 hr.2]
      simp only [Option.bind_some]
      unfold codeB
      by_cases hp : plaB (bt s i) = true
      · rw [if_pos hp, if_pos hp, if_pos (by omega), wrap_next hi (by omega)]
      · rw [if_neg hp, if_neg hp, if_pos hd.1, if_pos hd.2.1, if_pos hd.2.2.1, if_pos hd.2.2.2, if_pos (by simp only [List.length_cons, List.length_nil]; omega), wrap_next hi (by omega)]
        rfl, fun b e => by cases e⟩)
    (fun k st _ hI => by simp only [spec_l3Coded.l0]; rw [if_neg (by omega)]) [] (Nat.le_refl _)
  rw [runL_flat, List.nil_append] at h
  exact h
theorem spec_Coded_ev (s : ByteArray) (hs : s.size ≤ 1048576) : Ev (fun k => spec_Coded.f k s) (coded s) := by
  unfold spec_Coded.f coded
  by_cases h : (s.size : Int) > 200
  · simp only [if_pos h]
    rw [if_neg (by omega)]
    exact Ev.now _
  · simp only [if_neg h]
    rw [if_pos (by omega)]
    exact Ev.bind (spec_l3Coded_ev s hs) (Ev.now _)
theorem impl_Coded_ev (s : ByteArray) (hs : s.size ≤ 1048576) : Ev (fun k => impl_Coded.f k s) (coded s) := by
  unfold impl_Coded.f coded
  by_cases h : (s.size : Int) > 200
  · simp only [if_pos h]
    rw [if_neg (by omega)]
    exact Ev.now _
  · simp only [if_neg h]
    rw [if_pos (by omega)]
    have h := ev_run (σ := List Int) (β := ByteArray) s (fun st i => st.length ≤ 3 * i) (fun st c => .inl (st ++ codeB c)) strOfNums (fun k st i => impl_Coded.l0 k s st (s.size : Int) i) 0
      (fun k st i _ hi hI => ⟨fun st' e => by
        obtain rfl := Sum.inl.inj e
        have hr := bt_range s i
        have hd := code_div (bt s i) hr.1 hr.2
        have hl := codeB_length (bt s i)
        refine ⟨?_, by rw [List.length_append]; omega⟩
        simp only [impl_Coded.l0]
        rw [if_pos (by omega), if_pos (by omega), if_pos (by omega), impl_isPlain_is _ hr.1 hr.2]
        simp only [Option.bind_some]
        unfold codeB
        by_cases hp : plaB (bt s i) = true
        · rw [if_pos hp, if_pos hp, if_pos (by omega), wrap_next hi (by omega)]
        · rw [if_neg hp, if_neg hp, if_pos hd.1, if_pos hd.2.1, if_pos hd.2.2.1, if_pos hd.2.2.2, if_pos (by simp only [List.length_cons, List.length_nil]; omega), wrap_next hi (by omega)]
          rfl, fun b e => by cases e⟩)
      (fun k st _ hI => by simp only [impl_Coded.l0]; rw [if_neg (by omega)]) [] (Nat.le_refl _)
    rw [runL_flat, List.nil_append] at h
    exact h
end Go.Proofs.Ytfckiehbpgbpcaa.Q
