/- Functions of the Go program as Lean functions, and proofs about them, merged out of this session's texts by its program bundle.py; conditions: those that each theorem states. -/
import Derived.Below
import Derived.ChangeOld
import Derived.LaidMore
import Derived.Laws.BitsLemmas
import Derived.Laws.BytesArg
import Derived.Laws.Externs
import Derived.Laws.IdiomCopy
import Derived.Lay
import Derived.Lib.AppendStr
import Derived.Lib.Builder
import Derived.Lib.Hide
import Derived.Lib.LaidTab
import Derived.Lib.UnsafeStr
import Derived.OpenShut
import Derived.ProofKit
import Derived.SevenTiedAt
import Derived.ShutString
import Derived.SizedLaws
import Derived.Stop.Joined
import Derived.Test.YtfbgpjhnjdhpcaaDoorBFnPaths1
import Derived.Test.YtfbgpjhnjdhpcaaDoorCards
import Derived.Test.YtfbgpjhnjdhpcaaDoorGJoin
import Derived.Test.YtfbgpjhnjdhpcaaDoorGspecl1Bend
import Derived.Test.YtfbgpjhnjdhpcaaDoorP0
import Derived.Test.YtfbgpjhnjdhpcaaDoorPimplDotless
import Derived.Test.YtfbgpjhnjdhpcaaDoorPspecDotless
import Derived.Test.YtfbgpjhnjdhpcaaDoorPspecUncoded
import Derived.Test.YtfbgpjhnjdhpcaaDoorPspecl1Below
import Derived.Test.YtfbgpjhnjdhpcaaDoorPspecl1Byte
import Derived.Test.YtfbgpjhnjdhpcaaDoorPspecl1DrawText
import Derived.Test.YtfbgpjhnjdhpcaaDoorPspecl1New
import Derived.Test.YtfbgpjhnjdhpcaaDoorPspecl1Once
import Derived.Test.YtfbgpjhnjdhpcaaDoorPspecl3Coded
import Derived.Test.YtfbgpjhnjdhpcaaDoorPspecl3Path
import Derived.Test.YtfbgpjhnjdhpcaaDoorRows
import Derived.Test.YtfbgpjhnjdhpcaaDoorShelf
import Derived.Test.YtfbgpjhnjdhpcaaDoorTie
import Derived.Test.YtfbgpjhnjdhpcaaDoorWSized
import Derived.Test.YtfbgpjhnjdhpcaaDoorXA
import Derived.Test.YtfbgpjhnjdhpcaaDoorXW
import Derived.WalkKit
namespace Go.Proofs.YtfbgpjhnjdhpcaaDoor.Q
set_option linter.unusedVariables false
set_option linter.unusedSimpArgs false
open Go.RowKit Go.Proofs.YtfbgpjhnjdhpcaaDoor.P Go.Proofs.YtfbgpjhnjdhpcaaDoorW.PrintWords Go.Proofs.YtfbgpjhnjdhpcaaDoorW.PrintLast Go.Proofs.YtfbgpjhnjdhpcaaDoorW.PrintMore

theorem mn_is (a b : Int) : mn a b = if a ≤ b then a else b := by
  unfold mn
  split <;> split <;> omega
theorem hexPair (c d : Int) : numOk 16 13 hexB (strOfNums [c, d]) = numOk 16 13 hexB (strOfNums [c, d]) := rfl
theorem numOk_two {t : ByteArray} {c d : Int} (h : bytesOf t = [c, d]) : numOk 16 13 hexB t = if hexB c = true ∧ hexB d = true then (16 * hexV c + hexV d, true) else (0, false) := by
  have hz : t.size = 2 := by rw [← bytesOf_length, h]; rfl
  unfold numOk
  rw [h]
  by_cases a : hexB c = true ∧ hexB d = true
  · rw [if_pos a, if_pos ⟨by omega, by omega, by simp [a]⟩]
    refine Prod.ext ?_ rfl
    show (0 * 16 + dgt c) * 16 + dgt d = _
    rw [dgt_hex, dgt_hex]
    omega
  · rw [if_neg a, if_neg]
    intro ⟨_, _, e⟩
    simp at e
    exact a e
theorem uncoded_both (s : ByteArray) (hs : s.size ≤ 200) : ∀ (n i : Nat) (acc : List Int), i + n = s.size → acc.length ≤ i →
    ∃ r : ByteArray × Bool, Ev (fun k => spec_Uncoded.l0 k s acc (i : Int)) r ∧ Ev (fun k => impl_Uncoded.l0 k s acc (i : Int)) r ∧ r.1.size ≤ s.size := by
  intro n
  induction n using Nat.strongRecOn with
  | _ n ih =>
    intro i acc hd ha
    by_cases hn : n = 0
    · subst hn
      refine ⟨(strOfNums acc, true), Ev.step (f := fun _ => some (strOfNums acc, true)) (fun k => ?_) (Ev.now _), Ev.step (f := fun _ => some (strOfNums acc, true)) (fun k => ?_) (Ev.now _), ?_⟩
      · simp only [spec_Uncoded.l0]
        rw [if_neg (by omega)]
      · simp only [impl_Uncoded.l0]
        rw [if_neg (by omega)]
      · show (strOfNums acc).size ≤ s.size
        have : (strOfNums acc).size = acc.length := by
          unfold strOfNums
          simp [ByteArray.size]
        omega
    · have h1 : (i : Int) < (s.size : Int) := by omega
      have w1 : wrap64 ((i : Int) + 1) = ((i + 1 : Nat) : Int) := by rw [wrap_in (by omega) (by omega)]; omega
      have w2 : wrap64 ((i : Int) + 2) = ((i + 2 : Nat) : Int) := by rw [wrap_in (by omega) (by omega)]; omega
      have w3 : wrap64 ((i : Int) + 3) = ((i + 3 : Nat) : Int) := by rw [wrap_in (by omega) (by omega)]; omega
      have w21 : wrap64 (((i + 2 : Nat) : Int) + 1) = ((i + 3 : Nat) : Int) := by rw [wrap_in (by omega) (by omega)]; omega
      have hl : acc.length < 140737488355328 := by omega
      by_cases hp : bt s (i : Int) = 37
      · by_cases h3 : i + 3 ≤ s.size
        · have hb1 := bt_range s ((i + 1 : Nat) : Int)
          have hb2 := bt_range s ((i + 2 : Nat) : Int)
          have e2 := numOk_two (bytes_two s (i + 1) (by omega))
          have n1 := hexV_neg (bt s ((i + 1 : Nat) : Int))
          have n2 := hexV_neg (bt s ((i + 2 : Nat) : Int))
          have l1 := hexV_lt (bt s ((i + 1 : Nat) : Int))
          have l2 := hexV_lt (bt s ((i + 2 : Nat) : Int))
          have impl0 : ∀ k, impl_Uncoded.l0 (k + 1) s acc (i : Int) = if hexB (bt s ((i + 1 : Nat) : Int)) = true ∧ hexB (bt s ((i + 2 : Nat) : Int)) = true then impl_Uncoded.l0 k s (acc ++ [(16 * hexV (bt s ((i + 1 : Nat) : Int)) + hexV (bt s ((i + 2 : Nat) : Int))) % 256]) ((i + 3 : Nat) : Int) else some ((⟨#[]⟩ : ByteArray), false) := by
            intro k
            simp only [impl_Uncoded.l0]
            rw [if_pos h1, if_pos (by omega), if_pos hp, w1, w2, w3, w21, mn_is, if_pos (by omega), if_pos (by omega), if_pos (by omega), if_pos (by omega), Int.toNat_natCast, Int.toNat_natCast, show i + 3 = i + 1 + 2 from rfl, impl_HexDigits_is, e2]
            simp only [Option.bind_some]
            by_cases a : hexB (bt s ((i + 1 : Nat) : Int)) = true ∧ hexB (bt s ((i + 1 + 1 : Nat) : Int)) = true
            · rw [if_pos a]
              simp only [if_true]
              rw [if_neg (by omega), if_pos hl, if_pos a]
            · rw [if_neg a]
              simp only [Bool.false_eq_true, if_false]
              rw [if_neg a]
          by_cases a1 : hexB (bt s ((i + 1 : Nat) : Int)) = true
          · by_cases a2 : hexB (bt s ((i + 2 : Nat) : Int)) = true
            · rw [a1] at n1
              rw [a2] at n2
              have p1 : 0 ≤ hexV (bt s ((i + 1 : Nat) : Int)) := by have : ¬ hexV (bt s ((i + 1 : Nat) : Int)) < 0 := by simpa using n1
                                                                    omega
              have p2 : 0 ≤ hexV (bt s ((i + 2 : Nat) : Int)) := by have : ¬ hexV (bt s ((i + 2 : Nat) : Int)) < 0 := by simpa using n2
                                                                    omega
              obtain ⟨r, hr1, hr2, hr3⟩ := ih (n - 3) (by omega) (i + 3) (acc ++ [(16 * hexV (bt s ((i + 1 : Nat) : Int)) + hexV (bt s ((i + 2 : Nat) : Int))) % 256]) (by omega) (by rw [List.length_append]; simp; omega)
              obtain ⟨K1, e1⟩ := hr1
              refine ⟨r, ⟨K1 + 10, fun k hk => ?_⟩, Ev.step (f := fun k => impl_Uncoded.l0 k s (acc ++ [(16 * hexV (bt s ((i + 1 : Nat) : Int)) + hexV (bt s ((i + 2 : Nat) : Int))) % 256]) ((i + 3 : Nat) : Int)) (fun k => by rw [impl0, if_pos ⟨a1, a2⟩]) hr2, hr3⟩
              obtain ⟨k, rfl⟩ : ∃ z, k = z + 2 := ⟨k - 2, by omega⟩
              have e1' := e1 k (by omega)
              simp only [spec_Uncoded.l0, spec_Uncoded.j1]
              rw [if_pos h1, if_pos (by omega), if_pos hp, w1, w2, w21, if_neg (by omega), if_pos (by omega), if_pos (by omega), spec_l1Hex_is _ hb1.1 hb1.2 (k + 1) (by omega), spec_l1Hex_is _ hb2.1 hb2.2 (k + 1) (by omega), spec_l1Hex_is _ hb1.1 hb1.2 k (by omega), spec_l1Hex_is _ hb2.1 hb2.2 k (by omega)]
              simp only [Option.bind_some]
              rw [if_neg (by omega), if_pos (by omega), if_pos (by omega), if_neg (by rw [decide_eq_true_eq]; omega), if_pos (by omega), if_pos (by omega), if_pos (by omega), if_pos (by omega), if_pos hl, wrap_in (i := 16 * hexV (bt s ((i + 1 : Nat) : Int))) (by omega) (by omega), wrap_in (by omega) (by omega)]
              exact e1'
            · refine ⟨((⟨#[]⟩ : ByteArray), false), ⟨10, fun k hk => ?_⟩, Ev.step (f := fun _ => some ((⟨#[]⟩ : ByteArray), false)) (fun k => by rw [impl0, if_neg (fun h => a2 h.2)]) (Ev.now _), Nat.zero_le _⟩
              obtain ⟨k, rfl⟩ : ∃ z, k = z + 2 := ⟨k - 2, by omega⟩
              rw [a1] at n1
              rw [Bool.not_eq_true] at a2
              rw [a2] at n2
              have p1 : ¬ hexV (bt s ((i + 1 : Nat) : Int)) < 0 := by simpa using n1
              have p2 : hexV (bt s ((i + 2 : Nat) : Int)) < 0 := by simpa using n2
              simp only [spec_Uncoded.l0, spec_Uncoded.j1]
              rw [if_pos h1, if_pos (by omega), if_pos hp, w1, w2, if_neg (by omega), if_pos (by omega), if_pos (by omega), spec_l1Hex_is _ hb1.1 hb1.2 (k + 1) (by omega), spec_l1Hex_is _ hb2.1 hb2.2 (k + 1) (by omega)]
              simp only [Option.bind_some]
              rw [if_neg p1, if_pos (by omega), if_pos (by omega), if_pos (decide_eq_true p2)]
          · refine ⟨((⟨#[]⟩ : ByteArray), false), ⟨10, fun k hk => ?_⟩, Ev.step (f := fun _ => some ((⟨#[]⟩ : ByteArray), false)) (fun k => by rw [impl0, if_neg (fun h => a1 h.1)]) (Ev.now _), Nat.zero_le _⟩
            obtain ⟨k, rfl⟩ : ∃ z, k = z + 2 := ⟨k - 2, by omega⟩
            rw [Bool.not_eq_true] at a1
            rw [a1] at n1
            have p1 : hexV (bt s ((i + 1 : Nat) : Int)) < 0 := by simpa using n1
            simp only [spec_Uncoded.l0, spec_Uncoded.j1]
            rw [if_pos h1, if_pos (by omega), if_pos hp, w1, w2, if_neg (by omega), if_pos (by omega), if_pos (by omega), spec_l1Hex_is _ hb1.1 hb1.2 (k + 1) (by omega)]
            simp only [Option.bind_some]
            rw [if_pos p1]
            simp
        · refine ⟨((⟨#[]⟩ : ByteArray), false), ⟨10, fun k hk => ?_⟩, Ev.step (f := fun _ => some ((⟨#[]⟩ : ByteArray), false)) (fun k => ?_) (Ev.now _), Nat.zero_le _⟩
          · obtain ⟨k, rfl⟩ : ∃ z, k = z + 2 := ⟨k - 2, by omega⟩
            simp only [spec_Uncoded.l0, spec_Uncoded.j1]
            rw [if_pos h1, if_pos (by omega), if_pos hp, w2, if_pos (by omega)]
            simp
          · simp only [impl_Uncoded.l0]
            rw [if_pos h1, if_pos (by omega), if_pos hp, w1, w3, mn_is, if_neg (show ¬ ((i + 3 : Nat) : Int) ≤ (s.size : Int) by omega), if_pos (by omega), if_pos (by omega), if_pos (by omega), impl_HexDigits_is]
            simp only [Option.bind_some]
            by_cases a : (numOk 16 13 hexB (s.extract ((i + 1 : Nat) : Int).toNat (s.size : Int).toNat)).2 = true
            · rw [if_pos a, if_pos (by omega)]
            · rw [if_neg a]
      · obtain ⟨r, hr1, hr2, hr3⟩ := ih (n - 1) (by omega) (i + 1) (acc ++ [bt s (i : Int)]) (by omega) (by rw [List.length_append]; simp; omega)
        refine ⟨r, Ev.step (fun k => ?_) hr1, Ev.step (fun k => ?_) hr2, hr3⟩
        · simp only [spec_Uncoded.l0]
          rw [if_pos h1, if_pos (by omega), if_neg hp, if_pos hl, w1]
        · simp only [impl_Uncoded.l0]
          rw [if_pos h1, if_pos (by omega), if_neg hp, if_pos hl, w1]
theorem Uncoded_both (s : ByteArray) : ∃ r : ByteArray × Bool, Ev (fun k => spec_Uncoded.f k s) r ∧ Ev (fun k => impl_Uncoded.f k s) r ∧ r.1.size ≤ s.size := by
  unfold spec_Uncoded.f impl_Uncoded.f
  by_cases h : (s.size : Int) > 200
  · simp only [if_pos h]
    exact ⟨((⟨#[]⟩ : ByteArray), false), Ev.now _, Ev.now _, Nat.zero_le _⟩
  · simp only [if_neg h]
    exact uncoded_both s (by omega) s.size 0 [] (by omega) (Nat.le_refl _)
def cd (s : ByteArray) : ByteArray := strOfNums ((bytesOf s).flatMap codeB)
theorem coded_cd {s : ByteArray} (h : s.size ≤ 200) : coded s = cd s := by unfold coded cd; rw [if_pos h]
theorem ev_j {α : Type} {g : Nat → Option α} {r : α} (h : Ev g r) {f : Nat → Option α} (e : ∀ k, f (k + 1) = g k) : Ev f r := by
  obtain ⟨K, h⟩ := h
  refine ⟨K + 1, fun k hk => ?_⟩
  obtain ⟨k, rfl⟩ : ∃ z, k = z + 1 := ⟨k - 1, by omega⟩
  rw [e]
  exact h k (by omega)
def normalR (s : ByteArray) (u : ByteArray × Bool) : ByteArray × Bool := if u.2 = true ∧ pathB s = true ∧ pathB (cd u.1) = true then (dotless (cd u.1), true) else (⟨#[]⟩, false)
theorem NormalPath_u (s : ByteArray) : ∃ u : ByteArray × Bool, Ev (fun k => impl_Uncoded.f k s) u ∧ u.1.size ≤ s.size ∧ Ev (fun k => spec_NormalPath.f k s) (normalR s u) ∧ Ev (fun k => impl_NormalPath.f k s) (normalR s u) := by
  obtain ⟨u, h1, h2, hu⟩ := Uncoded_both s
  refine ⟨u, h2, hu, ?_, ?_⟩
  · unfold spec_NormalPath.f
    refine Ev.bind h1 ?_
    unfold normalR
    by_cases c1 : u.2 = true
    · simp only [if_pos c1]
      rw [spec_l3Path_is]
      simp only [Option.bind_some]
      by_cases c2 : pathB s = true
      · have hs : s.size ≤ 200 := by unfold pathB at c2; rw [decide_eq_true_eq] at c2; exact c2.2.2
        rw [c2]
        simp only [Bool.not_true]
        refine ev_j (g := fun k => (spec_l3Coded.f k u.1).bind fun t104 => (spec_l3Path.f t104).bind fun t105 => if t105 = true then (spec_Dotless.f k t104).bind fun t106 => some (t106, true) else some (⟨#[]⟩, false)) ?_ (fun k => by simp only [spec_NormalPath.j0]; rw [if_neg (by simp)])
        refine Ev.bind (spec_l3Coded_ev u.1 (by omega)) ?_
        simp only [spec_l3Path_is, Option.bind_some]
        by_cases c3 : pathB (cd u.1) = true
        · have c4 := c3
          unfold cd at c4
          simp only [if_pos c4]
          rw [if_pos ⟨c1, trivial, c3⟩]
          exact Ev.bind (spec_Dotless_ev _) (Ev.now _)
        · have c4 := c3
          unfold cd at c4
          simp only [if_neg c4]
          rw [if_neg (fun x => c3 x.2.2)]
          exact Ev.now _
      · rw [if_neg (fun x => c2 x.2.1), Bool.not_eq_true] at *
        rw [c2]
        simp only [Bool.not_false]
        exact ev_j (g := fun k => some (⟨#[]⟩, false)) (Ev.now _) (fun k => by simp only [spec_NormalPath.j0]; rw [if_pos trivial])
    · simp only [if_neg c1]
      rw [if_neg (fun x => c1 x.1)]
      exact ev_j (g := fun k => some (⟨#[]⟩, false)) (Ev.now _) (fun k => by simp only [spec_NormalPath.j0]; rw [if_pos trivial])
  · unfold impl_NormalPath.f
    refine Ev.bind h2 ?_
    unfold normalR
    by_cases c1 : u.2 = true
    · simp only [if_pos c1]
      rw [impl_isPath_is]
      simp only [Option.bind_some]
      by_cases c2 : pathB s = true
      · have hs : s.size ≤ 200 := by unfold pathB at c2; rw [decide_eq_true_eq] at c2; exact c2.2.2
        have hc : coded u.1 = cd u.1 := coded_cd (by omega)
        have hev := impl_Coded_ev u.1 (by omega)
        rw [hc] at hev
        simp only [if_pos c2]
        refine Ev.bind hev ?_
        simp only [impl_isPath_is, Option.bind_some]
        by_cases c3 : pathB (cd u.1) = true
        · rw [c3, if_pos ⟨c1, c2, rfl⟩]
          simp only [Bool.not_true]
          refine ev_j (g := fun k => (impl_Coded.f k u.1).bind fun t106 => (impl_Dotless.f k t106).bind fun t107 => some (t107, true)) ?_ (fun k => by simp only [impl_NormalPath.j0]; rw [if_neg (by simp)])
          exact Ev.bind hev (Ev.bind (impl_Dotless_ev _) (Ev.now _))
        · rw [if_neg (fun x => c3 x.2.2)]
          rw [Bool.not_eq_true] at c3
          rw [c3]
          simp only [Bool.not_false]
          exact ev_j (g := fun k => some (⟨#[]⟩, false)) (Ev.now _) (fun k => by simp only [impl_NormalPath.j0]; rw [if_pos trivial])
      · simp only [if_neg c2]
        rw [if_neg (fun x => c2 x.2.1)]
        exact ev_j (g := fun k => some (⟨#[]⟩, false)) (Ev.now _) (fun k => by simp only [impl_NormalPath.j0]; rw [if_pos trivial])
    · simp only [if_neg c1]
      rw [if_neg (fun x => c1 x.1)]
      exact ev_j (g := fun k => some (⟨#[]⟩, false)) (Ev.now _) (fun k => by simp only [impl_NormalPath.j0]; rw [if_pos trivial])
theorem NormalPath_both (s : ByteArray) : ∃ r : ByteArray × Bool, Ev (fun k => spec_NormalPath.f k s) r ∧ Ev (fun k => impl_NormalPath.f k s) r := by
  obtain ⟨u, _, _, h1, h2⟩ := NormalPath_u s
  exact ⟨_, h1, h2⟩
/-- From some number of rounds on it answers, and the answer is as told. -/
def TotP {α : Type} (g : Nat → Option α) (P : α → Prop) : Prop := ∃ r, Ev g r ∧ P r
theorem TotP.bind {α β : Type} {g : Nat → Option α} {f : Nat → α → Option β} {P : α → Prop} {Q : β → Prop} (h : TotP g P) (k : ∀ a, P a → TotP (fun n => f n a) Q) : TotP (fun n => (g n).bind (f n)) Q := by
  obtain ⟨a, ha, pa⟩ := h
  obtain ⟨b, hb, qb⟩ := k a pa
  exact ⟨b, Ev.bind ha hb, qb⟩
theorem TotP.of {α : Type} {x : Option α} {P : α → Prop} (h : ∃ r, x = some r ∧ P r) : TotP (fun _ => x) P := by
  obtain ⟨r, e, p⟩ := h
  exact ⟨r, ev_const e, p⟩
theorem TotP.now {α : Type} {r : α} {P : α → Prop} (p : P r) : TotP (fun _ => some r) P := ⟨r, Ev.now r, p⟩
theorem TotP.imp {α : Type} {g : Nat → Option α} {P Q : α → Prop} (h : TotP g P) (pq : ∀ r, P r → Q r) : TotP g Q := by
  obtain ⟨r, e, p⟩ := h
  exact ⟨r, e, pq r p⟩
theorem TotP.step {α : Type} {g f : Nat → Option α} {P : α → Prop} (h : ∀ k, g (k + 1) = f k) (t : TotP f P) : TotP g P := by
  obtain ⟨r, e, p⟩ := t
  exact ⟨r, Ev.step h e, p⟩
theorem TotP.ite {α : Type} {c : Prop} [Decidable c] {f g : Nat → Option α} {P : α → Prop} (hf : c → TotP f P) (hg : ¬ c → TotP g P) : TotP (fun k => if c then f k else g k) P := by
  by_cases h : c
  · simp only [if_pos h]; exact hf h
  · simp only [if_neg h]; exact hg h
theorem bindOf {α β : Type} {x : Option α} {f : α → Option β} {P : α → Prop} {Q : β → Prop} (h : ∃ r, x = some r ∧ P r) (k : ∀ a, P a → ∃ r, f a = some r ∧ Q r) : ∃ r, x.bind f = some r ∧ Q r := by
  obtain ⟨a, rfl, p⟩ := h
  exact k a p

theorem and255 (a : Int) : 0 ≤ Go.bits .and .i64 a 255 ∧ Go.bits .and .i64 a 255 ≤ 255 := by
  unfold Go.bits
  have h : ((BitVec.ofInt IntKind.i64.bits a) &&& (BitVec.ofInt IntKind.i64.bits 255)).toNat ≤ 255 := by
    rw [BitVec.toNat_and]
    exact Nat.le_trans Nat.and_le_right (by decide)
  show 0 ≤ IntKind.i64.wrap ((((BitVec.ofInt IntKind.i64.bits a) &&& (BitVec.ofInt IntKind.i64.bits 255)).toNat : Nat) : Int) ∧ IntKind.i64.wrap ((((BitVec.ofInt IntKind.i64.bits a) &&& (BitVec.ofInt IntKind.i64.bits 255)).toNat : Nat) : Int) ≤ 255
  generalize ((BitVec.ofInt IntKind.i64.bits a) &&& (BitVec.ofInt IntKind.i64.bits 255)).toNat = n at h ⊢
  rw [IntKind.wrap_i64]
  omega
/-- The cursor's place is no negative number. -/
theorem byte_ok (b : List Int) (i h : Int) (h0 : 0 ≤ i) (hb : b.length ≤ 140737488351232) : ∃ r : Int × Int × Int, spec_l1Byte.f b i h = some r ∧ (0 ≤ r.1 ∧ r.1 ≤ 255 ∧ 0 ≤ r.2.1) := by
  unfold spec_l1Byte.f
  by_cases hi : i < (b.length : Int)
  · rw [if_pos hi, if_pos h0]
    exact ⟨_, rfl, (and255 _).1, (and255 _).2, by show 0 ≤ wrap64 (i + 1); rw [wrap_in (by omega) (by omega)]; omega⟩
  · rw [if_neg hi]
    exact ⟨_, rfl, (and255 _).1, (and255 _).2, h0⟩
theorem below_ok (b : List Int) (i h n : Int) (h0 : 0 ≤ i) (hb : b.length ≤ 140737488351232) :
    ∃ r : Int × Int × Int, spec_l1Below.f b i h n = some r ∧ (0 ≤ r.1 ∧ (0 < n → r.1 < n) ∧ (n ≤ 0 → r.1 = 0) ∧ 0 ≤ r.2.1) := by
  unfold spec_l1Below.f
  by_cases hn : n ≤ 0
  · rw [if_pos hn]
    exact ⟨_, rfl, by show (0 : Int) ≤ 0; omega, fun h => by omega, fun _ => rfl, h0⟩
  · rw [if_neg hn]
    by_cases h2 : n ≤ 256
    · rw [if_pos h2]
      refine bindOf (byte_ok b i h h0 hb) fun r ⟨r0, r1, r2⟩ => ?_
      rw [if_neg (by omega)]
      refine ⟨_, rfl, ?_, fun _ => ?_, fun h => by omega, r2⟩
      · show 0 ≤ Int.tmod r.1 n
        rw [Int.tmod_eq_emod_of_nonneg r0]; exact Int.emod_nonneg _ (by omega)
      · show Int.tmod r.1 n < n
        rw [Int.tmod_eq_emod_of_nonneg r0]; exact Int.emod_lt_of_pos _ (by omega)
    · rw [if_neg h2]
      refine bindOf (byte_ok b i h h0 hb) fun r ⟨r0, r1, r2⟩ => ?_
      refine bindOf (byte_ok b _ _ r2 hb) fun s ⟨s0, s1, s2⟩ => ?_
      refine bindOf (byte_ok b _ _ s2 hb) fun t ⟨t0, t1, t2⟩ => ?_
      refine bindOf (byte_ok b _ _ t2 hb) fun u ⟨u0, u1, u2⟩ => ?_
      rw [if_neg (by omega)]
      rw [wrap_in (i := r.1 * 16777216) (by omega) (by omega), wrap_in (i := s.1 * 65536) (by omega) (by omega), wrap_in (i := r.1 * 16777216 + s.1 * 65536) (by omega) (by omega), wrap_in (i := t.1 * 256) (by omega) (by omega), wrap_in (i := r.1 * 16777216 + s.1 * 65536 + t.1 * 256) (by omega) (by omega), wrap_in (i := r.1 * 16777216 + s.1 * 65536 + t.1 * 256 + u.1) (by omega) (by omega)]
      refine ⟨_, rfl, ?_, fun _ => ?_, fun h => by omega, u2⟩
      · show 0 ≤ Int.tmod _ n
        rw [Int.tmod_eq_emod_of_nonneg (by omega)]; exact Int.emod_nonneg _ (by omega)
      · show Int.tmod _ n < n
        rw [Int.tmod_eq_emod_of_nonneg (by omega)]; exact Int.emod_lt_of_pos _ (by omega)
theorem once_ok (b : List Int) (i h n : Int) (h0 : 0 ≤ i) (hb : b.length ≤ 140737488351232) :
    ∃ r : Bool × Int × Int, spec_l1Once.f b i h n = some r ∧ 0 ≤ r.2.1 := by
  unfold spec_l1Once.f
  exact bindOf (below_ok b i h n h0 hb) fun r ⟨_, _, _, r3⟩ => ⟨_, rfl, r3⟩
theorem new_loop (b : List Int) (hb : b.length ≤ 140737488351232) (d : Nat) : ∀ (i : Nat) (x : Int), i + d = b.length → ∃ h, ∀ k, d < k → spec_l1New.l0 k b x (i : Int) = some (b, 0, h) := by
  induction d with
  | zero =>
    intro i x hd
    refine ⟨x, fun k hk => ?_⟩
    obtain ⟨k, rfl⟩ : ∃ z, k = z + 1 := ⟨k - 1, by omega⟩
    simp only [spec_l1New.l0]
    rw [if_neg (by omega)]
  | succ d ih =>
    intro i x hd
    obtain ⟨h, hh⟩ := ih (i + 1) (Go.bits .and .i64 (wrap64 ((wrap64 ((wrap64 (x * 137)) + (wrap64 (rd b (i : Int))))) + 11)) 1073741823) (by omega)
    refine ⟨h, fun k hk => ?_⟩
    obtain ⟨k, rfl⟩ : ∃ z, k = z + 1 := ⟨k - 1, by omega⟩
    simp only [spec_l1New.l0]
    rw [if_pos (by omega), if_pos (by omega), wrap_in (i := (i : Int) + 1) (by omega) (by omega)]
    exact hh k (by omega)
theorem new_ok (b : List Int) (hb : b.length ≤ 140737488351232) : TotP (fun k => spec_l1New.f k b) (fun r => r.1 = b ∧ 0 ≤ r.2.1) := by
  obtain ⟨h, hh⟩ := new_loop b hb b.length 0 (wrap64 (109013 + (b.length : Int))) (by omega)
  refine ⟨(b, 0, h), ⟨b.length + 1, fun k hk => ?_⟩, rfl, by show (0 : Int) ≤ 0; omega⟩
  unfold spec_l1New.f
  exact hh k (by omega)
end Go.Proofs.YtfbgpjhnjdhpcaaDoor.Q
namespace Go.Proofs.YtfbgpjhnjdhpcaaDoor.P
open Go.RowKit Go.Proofs.YtfbgpjhnjdhpcaaDoorW.PrintWords Go.Proofs.YtfbgpjhnjdhpcaaDoorW.PrintLast Go.Proofs.YtfbgpjhnjdhpcaaDoorW.PrintMore
attribute [local go_sem] max2_int min2_int max_two min_two max_three min_three max_four min_four   -- for this text's walks alone
set_option linter.unusedVariables false
set_option linter.unusedSimpArgs false

/-! ### laws_pick: function 25 -/
def laws_pick.l0 : Nat → List Int → Int → Int → Int → Int → Option (Int)
 | 0, _, _, _, _, _ => none
 | k + 1, x0, x1, x2, x7, x8 => if x8 < (x0.length : Int) then (if 0 ≤ x8 then (laws_pick.l0 k x0 x1 x2 (Int.tmod (wrap64 ((wrap64 ((wrap64 (x7 * 113)) + (wrap64 (rd x0 x8)))) + x1)) 1000003) (wrap64 (x8 + 1))) else (none)) else (if x2 = 0 then (none) else (some (Int.tmod x7 x2)))
def laws_pick.f (k : Nat) (l0 : List Int) (a1 : Int) (a2 : Int) : Option (Int) := laws_pick.l0 k l0 a1 a2 (wrap64 ((l0.length : Int) + (wrap64 (7919 * a1)))) 0
theorem laws_pick.mono_l : ∀ k, (∀ y0 y1 y2 y3 y4, LeO (laws_pick.l0 k y0 y1 y2 y3 y4) (laws_pick.l0 (k + 1) y0 y1 y2 y3 y4))
 | 0 => fun _ _ _ _ _ r h => by simp [laws_pick.l0] at h
 | k + 1 => by
  have ih0 := laws_pick.mono_l k
  ·
   intro y0 y1 y2 y3 y4
   unfold laws_pick.l0
   repeat' first
   | (with_reducible exact ih0 _ _ _ _ _)
   | (with_reducible exact LeO.refl _)
   | (with_reducible exact LeO.none _)
   | (with_reducible refine LeO.ite ?_ ?_)
   | (with_reducible refine LeO.bind ?_ (fun _ => ?_))
   | exact ih0 _ _ _ _ _
   | exact LeO.none _
   | refine LeO.ite ?_ ?_
   | refine LeO.bind ?_ (fun _ => ?_)
theorem laws_pick.mono : ∀ a0 a1 a2 k, LeO (laws_pick.f k a0 a1 a2) (laws_pick.f (k + 1) a0 a1 a2) := by
 intro a0 a1 a2 k
 have ih0 := laws_pick.mono_l k
 unfold laws_pick.f
 repeat' first
   | (with_reducible exact ih0 _ _ _ _ _)
   | (with_reducible exact LeO.refl _)
   | (with_reducible exact LeO.none _)
   | (with_reducible refine LeO.ite ?_ ?_)
   | (with_reducible refine LeO.bind ?_ (fun _ => ?_))
   | exact ih0 _ _ _ _ _
   | exact LeO.none _
   | refine LeO.ite ?_ ?_
   | refine LeO.bind ?_ (fun _ => ?_)
set_option maxHeartbeats 8000000 in
set_option maxRecDepth 100000 in
theorem laws_pick.calls (k : Nat) (A0 : Option Addr) (c0 : Nat) (l0 : List Int) (a1 : Int) (a2 : Int) (r : Int) (w : World) (hr0 : Kd.C (Kd.int .u8) w A0 l0.length l0) (hc0 : l0.length ≤ c0) (h : laws_pick.f k l0 a1 a2 = some r) :
  Calls Tryd.prog 25 #[.slice A0 l0.length c0, .int .i64 a1, .int .i64 a2] w fun e w' => e = .returned (.int .i64 r) ∧ Drawn0 w w' := by
 have HR0 := Aside0.mk hr0
 have HC0 := Aside0.mk hc0
 clear hr0 hc0
 have H : (laws_pick.l0 k l0 a1 a2 (wrap64 ((l0.length : Int) + (wrap64 (7919 * a1)))) 0) = some r := h
 clear h
 have H' := Aside0.mk H
 clear H
 go_enter Tryd.func25, Tryd.ntmps25
 go_wp2
 go_loopg [7, 8] k (fun kq v7 v8 w' => ∃ (x7_1 : Int) (x8_1 : Int), v7 = .int .i64 x7_1 ∧ v8 = .int .i64 x8_1 ∧ Aside0 (laws_pick.l0 kq l0 a1 a2 x7_1 x8_1 = some r) ∧ Aside0 (kq ≤ k) ∧ Drawn0 w w')
 case atStart => exact ⟨(wrap64 ((l0.length : Int) + (wrap64 (7919 * a1)))), (0), (by first | rfl | (simp; done) | (simp [*]; done)), (by first | rfl | (simp; done) | (simp [*]; done)), H', ⟨Nat.le_refl _⟩, by repeat (first | exact Drawn0.refl _ | apply Drawn0.step)⟩
 case round =>
  clear H'
  try clear c2
  try clear p2
  obtain ⟨x7_1, x8_1, rfl, rfl, HA, HK1, ⟨m1, rfl⟩⟩ := hrel
  cases gk with
  | zero => exact absurd HA.out (by simp [laws_pick.l0])
  | succ k1 =>
   have H := HA.out
   clear HA
   simp only [laws_pick.l0] at H
   by_cases c4 : x8_1 < (l0.length : Int)
   ·
    rw [if_pos c4] at H
    have c4b0 : decide (x8_1 < (l0.length : Int)) = true := decide_eq_true c4
    clear c4
    by_cases c5 : 0 ≤ x8_1
    ·
     rw [if_pos c5] at H
     have c5b0 : decide (0 ≤ x8_1) = true := decide_eq_true c5
     clear c5
     have H' := Aside0.mk H
     clear H
     have p101 : 0 ≤ (x8_1 : Int) := of_decide_eq_true (by first | (with_reducible assumption) | assumption)
     have q101 : x8_1 < (l0.length : Int) := of_decide_eq_true (by first | (with_reducible assumption) | assumption)
     obtain ⟨ad101, e101, hx101_0⟩ := Kd.at_int HR0.out x8_1 p101 q101
     cases e101
     replace p101 := eq_true p101
     replace q101 := eq_true q101
     go_wp2
     go_roundg k1
     case measure => have := HK1.out; omega
     case rel => exact ⟨(Int.tmod (wrap64 ((wrap64 ((wrap64 (x7_1 * 113)) + (wrap64 (rd l0 x8_1)))) + a1)) 1000003), (wrap64 (x8_1 + 1)), (by first | rfl | (simp; done) | (simp [*]; done)), (by first | rfl | (simp; done) | (simp [*]; done)), H', ⟨by have := HK1.out; omega⟩, by repeat (first | exact Drawn0.refl _ | apply Drawn0.step)⟩
    ·
     rw [if_neg c5] at H
     exact absurd H (by simp)
   ·
    rw [if_neg c4] at H
    have c4b0 : decide (x8_1 < (l0.length : Int)) = false := decide_eq_false c4
    clear c4
    by_cases c6 : a2 = 0
    ·
     rw [if_pos c6] at H
     exact absurd H (by simp)
    ·
     rw [if_neg c6] at H
     have c6b0 : (a2 == 0) = false := beq_eq_false_iff_ne.mpr c6
     have c6b1 : (a2 != 0) = true := bne_iff_ne.mpr c6
     obtain rfl := Option.some.inj H
     go_wp2
     go_ret
     exact ⟨by first | rfl | (simp; done) | (simp [*]; done), by repeat (first | exact Drawn0.refl _ | apply Drawn0.step)⟩
end Go.Proofs.YtfbgpjhnjdhpcaaDoor.P
namespace Go.Proofs.YtfbgpjhnjdhpcaaDoor.Q
set_option linter.unusedVariables false
set_option linter.unusedSimpArgs false
open Go.RowKit Go.Proofs.YtfbgpjhnjdhpcaaDoor.P Go.Proofs.YtfbgpjhnjdhpcaaDoorW.PrintWords Go.Proofs.YtfbgpjhnjdhpcaaDoorW.PrintLast Go.Proofs.YtfbgpjhnjdhpcaaDoorW.PrintMore

theorem strOfNums_size (l : List Int) : (strOfNums l).size = l.length := by
  show (strOfNums l).data.size = _
  rw [← Array.length_toList, strOfNums_data, List.length_map]
theorem drawText_end (b : List Int) (hb : b.length ≤ 140737488351232) (x : List Int) (i h : Int) (h0 : 0 ≤ i) (k : Nat) : ∃ r, spec_l1DrawText.j1 (k + 1) x (decide ((x.length : Int) > 0)) b i h = some r ∧ (0 ≤ r.2.1 ∧ r.1.size = x.length) := by
  simp only [spec_l1DrawText.j1]
  by_cases hx : (x.length : Int) > 0
  · rw [decide_eq_true hx, if_pos rfl]
    refine bindOf (below_ok b i h _ h0 hb) fun r0 p0 => ?_
    refine bindOf (byte_ok b _ _ p0.2.2.2 hb) fun r1 p1 => ?_
    rw [if_pos p0.1, if_pos (p0.2.1 (by omega))]
    exact ⟨_, rfl, p1.2.2, by show (strOfNums _).size = _; rw [strOfNums_size, List.length_set]⟩
  · rw [decide_eq_false hx, if_neg (by simp)]
    exact ⟨_, rfl, h0, by show (strOfNums _).size = _; rw [strOfNums_size]⟩
theorem drawText_stop (b : List Int) (hb : b.length ≤ 140737488351232) (x : List Int) (i h : Int) (h0 : 0 ≤ i) (k : Nat) : ∃ r, spec_l1DrawText.j1 (k + 1) x false b i h = some r ∧ (0 ≤ r.2.1 ∧ r.1.size = x.length) := by
  simp only [spec_l1DrawText.j1]
  rw [if_neg (by simp)]
  exact ⟨_, rfl, h0, by show (strOfNums _).size = _; rw [strOfNums_size]⟩
theorem drawText_loop (b : List Int) (hb : b.length ≤ 140737488351232) (signs : ByteArray) (hs : 0 < signs.size) (d : Nat) : ∀ (x : List Int) (i h : Int), 0 ≤ i → x.length + d ≤ 1000000 →
    ∃ r, (0 ≤ r.2.1 ∧ r.1.size = x.length + d) ∧ ∀ k, d + 1 < k → spec_l1DrawText.l0 k signs x (d : Int) b i h = some r := by
  induction d with
  | zero =>
    intro x i h h0 hd
    obtain ⟨r0, e0, p0⟩ := once_ok b i h 14 h0 hb
    by_cases hc : r0.1 = true
    · obtain ⟨r1, _, p1⟩ := drawText_end b hb x r0.2.1 r0.2.2 p0 0
      refine ⟨r1, p1, fun k hk => ?_⟩
      obtain ⟨k, rfl⟩ : ∃ z, k = z + 2 := ⟨k - 2, by omega⟩
      simp only [spec_l1DrawText.l0]
      rw [if_neg (by omega), e0]
      simp only [Option.bind_some]
      rw [if_pos hc]
      obtain ⟨r2, e2, _⟩ := drawText_end b hb x r0.2.1 r0.2.2 p0 k
      have e3 : spec_l1DrawText.j1 (k + 1) x (decide ((x.length : Int) > 0)) b r0.2.1 r0.2.2 = spec_l1DrawText.j1 (0 + 1) x (decide ((x.length : Int) > 0)) b r0.2.1 r0.2.2 := by simp only [spec_l1DrawText.j1]
      rw [e3]
      assumption
    · refine ⟨(strOfNums x, r0.2.1, r0.2.2), ⟨p0, by show (strOfNums x).size = _; rw [strOfNums_size]; rfl⟩, fun k hk => ?_⟩
      obtain ⟨k, rfl⟩ : ∃ z, k = z + 2 := ⟨k - 2, by omega⟩
      simp only [spec_l1DrawText.l0]
      rw [if_neg (by omega), e0]
      simp only [Option.bind_some]
      rw [if_neg hc]
      simp only [spec_l1DrawText.j1]
      rw [if_neg (by simp)]
  | succ d ih =>
    intro x i h h0 hd
    obtain ⟨r0, e0, p0⟩ := below_ok b i h (signs.size : Int) h0 hb
    obtain ⟨r, p, hr⟩ := ih (x ++ [bt signs r0.1]) r0.2.1 r0.2.2 p0.2.2.2 (by rw [List.length_append, List.length_singleton]; omega)
    refine ⟨r, ⟨p.1, by rw [p.2, List.length_append, List.length_singleton]; omega⟩, fun k hk => ?_⟩
    obtain ⟨k, rfl⟩ : ∃ z, k = z + 1 := ⟨k - 1, by omega⟩
    simp only [spec_l1DrawText.l0]
    rw [if_pos (by omega), e0]
    simp only [Option.bind_some]
    rw [if_pos p0.1, if_pos (p0.2.1 (by omega)), if_pos (by omega), wrap_in (i := ((d + 1 : Nat) : Int) - 1) (by omega) (by omega), show ((d + 1 : Nat) : Int) - 1 = (d : Int) by omega]
    exact hr k (by omega)
theorem drawText_ok (b : List Int) (hb : b.length ≤ 140737488351232) (i h : Int) (h0 : 0 ≤ i) (signs : ByteArray) (hs : 0 < signs.size) (m : Int) (m0 : 0 ≤ m) (m1 : m ≤ 1000) :
    TotP (fun k => spec_l1DrawText.f k b i h signs m) (fun r => 0 ≤ r.2.1 ∧ r.1.size ≤ m.toNat) := by
  unfold spec_l1DrawText.f
  rw [wrap_in (i := m + 1) (by omega) (by omega)]
  refine TotP.bind (TotP.of (below_ok b i h _ h0 hb)) fun r0 p0 => ?_
  obtain ⟨r, p, hr⟩ := drawText_loop b hb signs hs r0.1.toNat [] r0.2.1 r0.2.2 p0.2.2.2 (by have := p0.2.1 (by omega); simp only [List.length_nil]; omega)
  refine ⟨r, ⟨r0.1.toNat + 2, fun k hk => ?_⟩, p.1, by rw [p.2]; have := p0.2.1 (by omega); simp only [List.length_nil]; omega⟩
  have := hr k (by omega)
  rw [Int.toNat_of_nonneg p0.1] at this
  exact this
theorem rd_byte (b : List Int) (hx : ∀ x ∈ b, 0 ≤ x ∧ x ≤ 255) (i : Int) : 0 ≤ rd b i ∧ rd b i ≤ 255 := by
  unfold rd
  rw [List.getD_eq_getElem?_getD]
  cases h : b[i.toNat]? with
  | none => exact ⟨by decide, by decide⟩
  | some v => exact hx v (List.mem_of_getElem? h)
theorem pick_loop (b : List Int) (hb : b.length ≤ 140737488351232) (hx : ∀ x ∈ b, 0 ≤ x ∧ x ≤ 255) (s n : Int) (hs : 0 ≤ s ∧ s ≤ 1000) (hn : 0 < n) (d : Nat) : ∀ (i : Nat) (x : Int), i + d = b.length → 0 ≤ x → x ≤ 9000000000000000 → (∃ r, (0 ≤ r ∧ r < n) ∧ ∀ k, d < k → laws_pick.l0 k b s n x (i : Int) = some r) := by
  induction d with
  | zero =>
    intro i x hd x0 x1
    refine ⟨Int.tmod x n, ?_, fun k hk => ?_⟩
    · rw [Int.tmod_eq_emod_of_nonneg x0]; exact ⟨Int.emod_nonneg _ (by omega), Int.emod_lt_of_pos _ hn⟩
    obtain ⟨k, rfl⟩ : ∃ z, k = z + 1 := ⟨k - 1, by omega⟩
    simp only [laws_pick.l0]
    rw [if_neg (by omega), if_neg (by omega)]
  | succ d ih =>
    intro i x hd x0 x1
    have hr := rd_byte b hx (i : Int)
    have e : wrap64 ((wrap64 ((wrap64 (x * 113)) + (wrap64 (rd b (i : Int))))) + s) = x * 113 + rd b (i : Int) + s := by
      rw [wrap_in (i := x * 113) (by omega) (by omega), wrap_in (i := rd b (i : Int)) (by omega) (by omega), wrap_in (i := x * 113 + rd b (i : Int)) (by omega) (by omega), wrap_in (by omega) (by omega)]
    have e1 : 0 ≤ Int.tmod (x * 113 + rd b (i : Int) + s) 1000003 ∧ Int.tmod (x * 113 + rd b (i : Int) + s) 1000003 ≤ 9000000000000000 := by
      rw [Int.tmod_eq_emod_of_nonneg (by omega)]
      omega
    obtain ⟨r, p, hr⟩ := ih (i + 1) (Int.tmod (x * 113 + rd b (i : Int) + s) 1000003) (by omega) e1.1 e1.2
    refine ⟨r, p, fun k hk => ?_⟩
    obtain ⟨k, rfl⟩ : ∃ z, k = z + 1 := ⟨k - 1, by omega⟩
    simp only [laws_pick.l0]
    rw [if_pos (by omega), if_pos (by omega), wrap_in (i := (i : Int) + 1) (by omega) (by omega), e]
    exact hr k (by omega)
theorem pick_ok (b : List Int) (hb : b.length ≤ 140737488351232) (hx : ∀ x ∈ b, 0 ≤ x ∧ x ≤ 255) (s n : Int) (hs : 0 ≤ s ∧ s ≤ 1000) (hn : 0 < n) : TotP (fun k => laws_pick.f k b s n) (fun r => 0 ≤ r ∧ r < n) := by
  have e : wrap64 ((b.length : Int) + (wrap64 (7919 * s))) = b.length + 7919 * s := by rw [wrap_in (i := 7919 * s) (by omega) (by omega), wrap_in (by omega) (by omega)]
  obtain ⟨r, p, hr⟩ := pick_loop b hb hx s n hs hn b.length 0 ((b.length : Int) + 7919 * s) (by omega) (by omega) (by omega)
  refine ⟨r, ⟨b.length + 1, fun k hk => ?_⟩, p⟩
  unfold laws_pick.f
  rw [e]
  exact hr k (by omega)
end Go.Proofs.YtfbgpjhnjdhpcaaDoor.Q
namespace Go.Proofs.YtfbgpjhnjdhpcaaDoor.Q
set_option linter.unusedVariables false
set_option linter.unusedSimpArgs false
open Go.RowKit Go.Proofs.YtfbgpjhnjdhpcaaDoor.P Go.Proofs.YtfbgpjhnjdhpcaaDoorW.PrintWords
theorem bendL_ok (b : List Int) (hb : b.length ≤ 140737488351232) (s : ByteArray) (hs : 0 < s.size) (d : Nat) : ∀ (x : List Int) (i h : Int), 0 ≤ i → x.length + d < 1000000000 → TotP (fun k => bendL s b k x (d : Int) i h) (fun r => r.1.size ≤ x.length + d ∧ 0 ≤ r.2.1) := by
  induction d with
  | zero =>
    intro x i h h0 hx
    refine TotP.step (f := fun _ => some (strOfNums x, i, h)) (fun k => ?_) (TotP.now ⟨by show (strOfNums x).size ≤ _; rw [strOfNums_size]; omega, h0⟩)
    rw [bendL, if_neg (fun q => absurd q.1 (by omega))]
  | succ d ih =>
    intro x i h h0 hx
    by_cases hn : 0 < x.length
    · have hw : wrap64 (((d + 1 : Nat) : Int) - 1) = (d : Int) := by rw [wrap_in (by omega) (by omega)]; omega
      refine TotP.step (f := fun k => (spec_l1Below.f b i h (x.length : Int)).bind fun r1 => (spec_l1Below.f b r1.2.1 r1.2.2 4).bind fun r2 =>
        if 0 ≤ r1.1 ∧ r1.1 < (x.length : Int) ∧ x.length < 1000000000 then
          if r2.1 = 0 then (spec_l1Below.f b r2.2.1 r2.2.2 (s.size : Int)).bind fun r3 => if 0 ≤ r3.1 ∧ r3.1 < (s.size : Int) then bendL s b k (x.set r1.1.toNat (bt s r3.1)) (d : Int) r3.2.1 r3.2.2 else none
          else if r2.1 = 1 then bendL s b k (x.take r1.1.toNat) (d : Int) r2.2.1 r2.2.2
          else if r2.1 = 2 then bendL s b k (x.take r1.1.toNat ++ x.drop (r1.1 + 1).toNat) (d : Int) r2.2.1 r2.2.2
          else if r2.1 = 3 then (spec_l1Below.f b r2.2.1 r2.2.2 (s.size : Int)).bind fun r3 => if 0 ≤ r3.1 ∧ r3.1 < (s.size : Int) then bendL s b k (x.take r1.1.toNat ++ [bt s r3.1] ++ x.drop r1.1.toNat) (d : Int) r3.2.1 r3.2.2 else none
          else bendL s b k x (d : Int) r2.2.1 r2.2.2
        else none) (fun k => ?_) ?_
      · rw [bendL, if_pos ⟨by omega, hn⟩, hw]
      · refine TotP.bind (TotP.of (below_ok b i h (x.length : Int) h0 hb)) fun r1 p1 => TotP.bind (TotP.of (below_ok b _ _ 4 p1.2.2.2 hb)) fun r2 p2 => ?_
        have hr1 := p1.2.1 (by omega)
        have hr0 := p1.1
        refine TotP.ite (fun _ => ?_) (fun c => absurd ⟨hr0, hr1, by omega⟩ c)
        refine TotP.ite (fun _ => ?_) fun _ => TotP.ite (fun _ => ?_) fun _ => TotP.ite (fun _ => ?_) fun _ => TotP.ite (fun _ => ?_) fun _ => ?_
        · refine TotP.bind (TotP.of (below_ok b _ _ (s.size : Int) p2.2.2.2 hb)) fun r3 p3 => TotP.ite (fun _ => ?_) (fun c => absurd ⟨p3.1, p3.2.1 (by omega)⟩ c)
          have hl : (x.set r1.1.toNat (bt s r3.1)).length = x.length := List.length_set
          exact (ih _ _ _ p3.2.2.2 (by omega)).imp fun r hr => ⟨by omega, hr.2⟩
        · have hl : (x.take r1.1.toNat).length ≤ x.length := by rw [List.length_take]; omega
          exact (ih _ _ _ p2.2.2.2 (by omega)).imp fun r hr => ⟨by omega, hr.2⟩
        · have hl : (x.take r1.1.toNat ++ x.drop (r1.1 + 1).toNat).length ≤ x.length := by rw [List.length_append, List.length_take, List.length_drop]; omega
          exact (ih _ _ _ p2.2.2.2 (by omega)).imp fun r hr => ⟨by omega, hr.2⟩
        · refine TotP.bind (TotP.of (below_ok b _ _ (s.size : Int) p2.2.2.2 hb)) fun r3 p3 => TotP.ite (fun _ => ?_) (fun c => absurd ⟨p3.1, p3.2.1 (by omega)⟩ c)
          have hl : (x.take r1.1.toNat ++ [bt s r3.1] ++ x.drop r1.1.toNat).length ≤ x.length + 1 := by rw [List.length_append, List.length_append, List.length_take, List.length_drop, List.length_singleton]; omega
          exact (ih _ _ _ p3.2.2.2 (by omega)).imp fun r hr => ⟨by omega, hr.2⟩
        · exact (ih _ _ _ p2.2.2.2 (by omega)).imp fun r hr => ⟨by omega, hr.2⟩
    · refine TotP.step (f := fun _ => some (strOfNums x, i, h)) (fun k => ?_) (TotP.now ⟨by show (strOfNums x).size ≤ _; rw [strOfNums_size]; omega, h0⟩)
      rw [bendL, if_neg (fun q => hn q.2)]
theorem bend_ok (b : List Int) (hb : b.length ≤ 140737488351232) (t s : ByteArray) (ht : t.size ≤ 100000000) (hs : 0 < s.size) (i h : Int) (h0 : 0 ≤ i) : TotP (fun k => spec_l1Bend.f k b i h t s) (fun r => r.1.size ≤ t.size + 2 ∧ 0 ≤ r.2.1) := by
  unfold spec_l1Bend.f
  refine TotP.ite (fun _ => ?_) (fun c => absurd (by omega) c)
  refine TotP.bind (TotP.of (below_ok b i h 3 h0 hb)) fun r p => ?_
  have h3 := p.2.1 (by decide)
  have h2 := p.1
  have hl := bytesOf_length t
  have := bendL_ok b hb s hs r.1.toNat (bytesOf t) r.2.1 r.2.2 p.2.2.2 (by omega)
  rw [Int.toNat_of_nonneg h2] at this
  exact this.imp fun q hq => ⟨by omega, hq.2⟩
end Go.Proofs.YtfbgpjhnjdhpcaaDoor.Q
namespace Go.Proofs.YtfbgpjhnjdhpcaaDoor.Q
set_option linter.unusedVariables false
set_option linter.unusedSimpArgs false
open Go.RowKit Go.Proofs.YtfbgpjhnjdhpcaaDoor.P Go.Proofs.YtfbgpjhnjdhpcaaDoorW.PrintWords Go.Proofs.YtfbgpjhnjdhpcaaDoorW.PrintLast Go.Proofs.YtfbgpjhnjdhpcaaDoorW.PrintMore
theorem l3Draw_loop (b : List Int) (hb : b.length ≤ 140737488351232) (d : Nat) : ∀ (s : ByteArray) (i h : Int), 0 ≤ i → s.size + 4 * d ≤ 1000 → ∃ r, (0 ≤ r.2.1 ∧ r.1.size ≤ s.size + 4 * d) ∧ ∀ k, d < k → spec_l3Draw.l0 k s (d : Int) b i h = some r := by
  induction d with
  | zero =>
    intro s i h h0 hs
    refine ⟨(s, i, h), ⟨h0, by show s.size ≤ _; omega⟩, fun k hk => ?_⟩
    obtain ⟨k, rfl⟩ : ∃ z, k = z + 1 := ⟨k - 1, by omega⟩
    simp only [spec_l3Draw.l0]
    rw [if_neg (by omega)]
  | succ d ih =>
    intro s i h h0 hs
    obtain ⟨r0, e0, p0⟩ := below_ok b i h 10 h0 hb
    have hy : ∀ j : Int, 0 ≤ j → j < 10 → (rdOf ByteArray.empty [(⟨#[97]⟩ : ByteArray), (⟨#[98]⟩ : ByteArray), (⟨#[46]⟩ : ByteArray), (⟨#[46, 46]⟩ : ByteArray), (⟨#[]⟩ : ByteArray), (⟨#[99, 32, 100]⟩ : ByteArray), (⟨#[37, 52, 49]⟩ : ByteArray), (⟨#[37, 50, 102]⟩ : ByteArray), (⟨#[120, 37]⟩ : ByteArray), (⟨#[126, 107]⟩ : ByteArray)] j).size ≤ 3 := by
      intro j j0 j1
      have key : ∀ x : Fin 10, (rdOf ByteArray.empty [(⟨#[97]⟩ : ByteArray), (⟨#[98]⟩ : ByteArray), (⟨#[46]⟩ : ByteArray), (⟨#[46, 46]⟩ : ByteArray), (⟨#[]⟩ : ByteArray), (⟨#[99, 32, 100]⟩ : ByteArray), (⟨#[37, 52, 49]⟩ : ByteArray), (⟨#[37, 50, 102]⟩ : ByteArray), (⟨#[120, 37]⟩ : ByteArray), (⟨#[126, 107]⟩ : ByteArray)] ((x.1 : Nat) : Int)).size ≤ 3 := by decide
      have := key ⟨j.toNat, by omega⟩
      rwa [show ((j.toNat : Nat) : Int) = j by omega] at this
    have hsz := hy r0.1 p0.1 (p0.2.1 (by decide))
    have h47 : (⟨#[47]⟩ : ByteArray).size = 1 := rfl
    generalize hx : rdOf ByteArray.empty [(⟨#[97]⟩ : ByteArray), (⟨#[98]⟩ : ByteArray), (⟨#[46]⟩ : ByteArray), (⟨#[46, 46]⟩ : ByteArray), (⟨#[]⟩ : ByteArray), (⟨#[99, 32, 100]⟩ : ByteArray), (⟨#[37, 52, 49]⟩ : ByteArray), (⟨#[37, 50, 102]⟩ : ByteArray), (⟨#[120, 37]⟩ : ByteArray), (⟨#[126, 107]⟩ : ByteArray)] r0.1 = x at hsz
    have hs2 : ((s ++ (⟨#[47]⟩ : ByteArray)) ++ x).size = s.size + 1 + x.size := by rw [ByteArray.size_append, ByteArray.size_append, h47]
    obtain ⟨r, p, hr⟩ := ih ((s ++ (⟨#[47]⟩ : ByteArray)) ++ x) r0.2.1 r0.2.2 p0.2.2.2 (by omega)
    refine ⟨r, ⟨p.1, by omega⟩, fun k hk => ?_⟩
    obtain ⟨k, rfl⟩ : ∃ z, k = z + 1 := ⟨k - 1, by omega⟩
    simp only [spec_l3Draw.l0]
    rw [if_pos (by omega), if_pos (by omega)]
    simp only [Option.bind_some]
    rw [e0]
    simp only [Option.bind_some]
    rw [if_pos p0.1, if_pos (by exact p0.2.1 (by decide)), hx, if_pos (by rw [ByteArray.size_append, h47]; omega), wrap_in (i := ((d + 1 : Nat) : Int) - 1) (by omega) (by omega), show ((d + 1 : Nat) : Int) - 1 = (d : Int) by omega]
    exact hr k (by omega)
theorem l3Draw_ok (b : List Int) (hb : b.length ≤ 140737488351232) (i h : Int) (h0 : 0 ≤ i) : TotP (fun k => spec_l3Draw.f k b i h) (fun r => 0 ≤ r.2.1 ∧ r.1.size ≤ 16) := by
  unfold spec_l3Draw.f
  refine TotP.bind (TotP.of (below_ok b i h 4 h0 hb)) fun r0 p0 => ?_
  have h4 := p0.2.1 (by decide)
  have h1 := p0.1
  obtain ⟨r, p, hr⟩ := l3Draw_loop b hb (1 + r0.1).toNat ⟨#[]⟩ r0.2.1 r0.2.2 p0.2.2.2 (by have : (⟨#[]⟩ : ByteArray).size = 0 := rfl; omega)
  refine ⟨r, ⟨(1 + r0.1).toNat + 1, fun k hk => ?_⟩, p.1, by have := p.2; have h2 : (⟨#[]⟩ : ByteArray).size = 0 := rfl; omega⟩
  have := hr k (by omega)
  rw [Int.toNat_of_nonneg (by omega)] at this
  show spec_l3Draw.l0 k _ (wrap64 (1 + r0.1)) _ _ _ = _
  rw [wrap_in (by omega) (by omega)]
  exact this
theorem coded_le (s : ByteArray) (h : s.size ≤ 201) : (coded s).size ≤ 1000 := by
  have key : ∀ l : List Int, (l.flatMap codeB).length ≤ 3 * l.length := by
    intro l
    induction l with
    | nil => exact Nat.zero_le _
    | cons c l ih => rw [List.flatMap_cons, List.length_append, List.length_cons]; have := codeB_length c; omega
  unfold coded
  split
  · rw [strOfNums_size]
    have := key (bytesOf s)
    rw [bytesOf_length] at this
    omega
  · exact Nat.zero_le _
theorem drawCoded_ok (b : List Int) (hb : b.length ≤ 140737488351232) : TotP (fun k => spec_DrawCoded.f k b) (fun r => r.size ≤ 201) := by
  unfold spec_DrawCoded.f
  refine TotP.bind (new_ok b hb) fun c pc => ?_
  obtain ⟨c0, c1, c2⟩ := c
  obtain ⟨e, p⟩ := pc
  simp only at e p
  subst e
  refine TotP.bind (TotP.of (once_ok _ _ _ 20 p hb)) fun r1 p1 => TotP.ite (fun _ => ?_) (fun _ => ?_)
  · refine TotP.bind (TotP.of (below_ok _ _ _ 2 p1 hb)) fun r2 p2 => ?_
    have h2 := p2.2.1 (by decide)
    have h0 := p2.1
    have hw : wrap64 (200 + r2.1) = 200 + r2.1 := wrap_in (by omega) (by omega)
    rw [hw]
    refine TotP.ite (fun _ => TotP.ite (fun _ => TotP.now ?_) (fun c => absurd (by omega) c)) (fun c => absurd (by omega) c)
    rw [strOfNums_size, List.length_replicate]
    omega
  · refine TotP.bind (drawText_ok _ hb _ _ p1 _ (by decide) 8 (by decide) (by decide)) fun r2 p2 => TotP.now ?_
    have h8 : r2.1.size ≤ 8 := p2.2
    omega
theorem drawUncoded_ok (b : List Int) (hb : b.length ≤ 140737488351232) : TotP (fun k => spec_DrawUncoded.f k b) (fun r => r.size ≤ 2000) := by
  unfold spec_DrawUncoded.f
  refine TotP.bind (new_ok b hb) fun c pc => ?_
  obtain ⟨c0, c1, c2⟩ := c
  obtain ⟨e, p⟩ := pc
  simp only at e p
  subst e
  refine TotP.bind (drawCoded_ok _ hb) fun s ps => TotP.bind (P := fun r => r = coded s) ⟨_, spec_Coded_ev s (by omega), rfl⟩ fun u pu => ?_
  subst pu
  have hc : (coded s).size ≤ 1000 := coded_le s ps
  refine TotP.bind (TotP.of (once_ok _ _ _ 2 p hb)) fun r1 p1 => TotP.ite (fun _ => ?_) (fun _ => TotP.now (by omega))
  refine TotP.bind (bend_ok _ hb _ _ (by omega) (by decide) _ _ p1) fun r2 p2 => TotP.now ?_
  have := p2.1
  omega
theorem drawDotless_ok (b : List Int) (hb : b.length ≤ 140737488351232) : TotP (fun k => spec_DrawDotless.f k b) (fun r => r.size ≤ 18) := by
  unfold spec_DrawDotless.f
  refine TotP.bind (new_ok b hb) fun c pc => ?_
  obtain ⟨c0, c1, c2⟩ := c
  obtain ⟨e, p⟩ := pc
  simp only at e p
  subst e
  refine TotP.bind (l3Draw_ok _ hb _ _ p) fun r0 p0 => TotP.bind (TotP.of (once_ok _ _ _ 10 p0.1 hb)) fun r1 p1 => TotP.ite (fun _ => ?_) (fun _ => TotP.now (by have := p0.2; omega))
  refine TotP.bind (bend_ok _ hb _ _ (by have := p0.2; omega) (by decide) _ _ p1) fun r2 p2 => TotP.now ?_
  have := p2.1
  have := p0.2
  omega
theorem drawNormalPath_ok (b : List Int) (hb : b.length ≤ 140737488351232) : TotP (fun k => spec_DrawNormalPath.f k b) (fun r => r.size ≤ 18) := by
  unfold spec_DrawNormalPath.f
  exact TotP.bind (drawDotless_ok b hb) fun r p => TotP.now p
end Go.Proofs.YtfbgpjhnjdhpcaaDoor.Q
namespace Go.Proofs.YtfbgpjhnjdhpcaaDoor.P
set_option linter.unusedVariables false
set_option linter.unusedSimpArgs false
open Go.RowKit Go.Lib Go.Proofs.YtfbgpjhnjdhpcaaDoorW.PrintWords Go.Proofs.YtfbgpjhnjdhpcaaDoorW.PrintLast Go.Proofs.YtfbgpjhnjdhpcaaDoorW.PrintMore

/-- A builder that the call has made, holding bytes. -/
abbrev Bld (B b : Nat) (l : List UInt8) (w : World) : Prop := Lib.IsBuilder 62 5 B b (Lib.byteCells l) w
theorem bld_size : (Tryd.prog.info? 62).map (·.size) = some 2 := by kernel_rfl
theorem bld_lies : liesAt Tryd.prog Tryd.prog.depth 62 (2 / Tryd.prog.cellsOf 62) 0 62 1 = true := by kernel_rfl
theorem byte_info : (Tryd.prog.info? 5).map (fun i => (i.zero, i.size, i.bytes)) = some (some (.int .u8 0), 1, 1) := by kernel_rfl

set_option maxHeartbeats 1000000 in
set_option maxRecDepth 100000 in
theorem builder_check_used (b : Nat) (w : World) (h0 : w.cell? ⟨b, 0, none⟩ = some (.pointer (some ⟨b, 0, none⟩))) :
    Calls Tryd.prog 72 #[.pointer (some ⟨b, 0, none⟩)] w fun e w' => e = .returned (.tuple #[]) ∧ w' = w := by
  obtain ⟨j, hj, _⟩ := Option.map_eq_some_iff.1 bld_size
  go_enter Tryd.func72, Tryd.ntmps72
  go_wp2
  rw [Lib.run_neq_ptr_same w _ Tryd.underlying60 hj]
  go_wp2
  go_end0
  exact ⟨rfl, rfl⟩
set_option maxHeartbeats 1000000 in
set_option maxRecDepth 100000 in
theorem builder_check_fresh (b : Nat) (w : World) (h0 : w.cell? ⟨b, 0, none⟩ = some (.pointer none)) (hsh : w.shape? b = some (62, 2)) (hfz : w.frozen? ⟨b, 0, none⟩ = false) :
    Calls Tryd.prog 72 #[.pointer (some ⟨b, 0, none⟩)] w fun e w' => e = .returned (.tuple #[]) ∧ w' = w.setCell ⟨b, 0, none⟩ (.pointer (some ⟨b, 0, none⟩)) := by
  obtain ⟨j, hj, hjs⟩ := Option.map_eq_some_iff.1 bld_size
  go_enter Tryd.func72, Tryd.ntmps72
  go_wp2
  rw [Lib.run_to_unsafe w ⟨b, 0, none⟩ Tryd.underlying60 Tryd.underlying93 hj (by rw [hjs]; decide) hsh (Nat.zero_lt_succ 1)]
  simp only [Result.andThen]
  rw [Oper.upon_value]
  go_wp2
  rw [run_callFunc_extern Tryd.func88 (by kernel_rfl) (by kernel_rfl) (by kernel_rfl) (e := Extern.AbiNoEscape.same) (by kernel_rfl)]
  rw [Lib.run_noEscape]
  simp only [Result.andThen]
  rw [Oper.upon_value]
  go_wp2
  rw [Lib.run_from_unsafe w ⟨b, 0, none⟩ Tryd.underlying93 Tryd.underlying60 hj hsh bld_lies]
  simp only [Result.andThen]
  rw [Oper.upon_value]
  go_wp2
  go_end0
  exact ⟨rfl, rfl⟩
theorem builder_check (B b : Nat) (bs : List Value) (w : World) (h : Lib.IsBuilder 62 5 B b bs w) :
    Calls Tryd.prog 72 #[.pointer (some ⟨b, 0, none⟩)] w fun e w' => e = .returned (.tuple #[]) ∧ (Lib.BuilderAt 62 5 B b (.pointer (some ⟨b, 0, none⟩)) bs w' ∧ Below B w w') := by
  rcases h with h | h
  · refine (builder_check_fresh b w h.cell0 h.shape h.frozen0).mono ?_
    rintro e w' ⟨rfl, rfl⟩
    exact ⟨rfl, h.used _, (Below.refl B w).setCell (p := ⟨b, 0, none⟩) h.1 _⟩
  · refine (builder_check_used b w h.cell0).mono ?_
    rintro e w' ⟨rfl, rfl⟩
    exact ⟨rfl, h, Below.refl B _⟩
set_option maxHeartbeats 2000000 in
set_option maxRecDepth 100000 in
theorem builder_write (B b : Nat) (l : List UInt8) (s : ByteArray) (w : World) (h : Bld B b l w) (hlen : l.length + s.size ≤ 140737488355328) (hBw : B ≤ w.heap.size) :
    Calls Tryd.prog 50 #[.pointer (some ⟨b, 0, none⟩), .string s] w fun e w' => e = .returned (.tuple #[.int .i64 s.size, .nilIface]) ∧ (Bld B b (l ++ s.data.toList) w' ∧ Below B w w') := by
  obtain ⟨i0, hi, hzz⟩ := Option.map_eq_some_iff.1 byte_info
  simp only [Prod.mk.injEq] at hzz
  obtain ⟨hz0, hz1, hz2⟩ := hzz
  have hbl : (Lib.byteCells l).length = l.length := Lib.byteCells_length l
  have hc := builder_check B b (Lib.byteCells l) w h
  clear h
  go_enter Tryd.func50, Tryd.ntmps50
  go_wp2_with (go_at_call 72; refine hc.mono ?_)
  rintro e w1 ⟨rfl, h1, hb1⟩
  obtain ⟨hB, v, hbk, hown, hne⟩ := h1
  have c0 : w1.cell? ⟨b, 0, none⟩ = some (.pointer (some ⟨b, 0, none⟩)) := by rw [Lib.cell_of_heap hbk]; rfl
  have c1 : w1.cell? ⟨b, 1, none⟩ = some v := by rw [Lib.cell_of_heap hbk]; rfl
  go_wp2_with (at_builtin; refine Lib.wpList_append_own_string _ rfl _ _ 22 9 rfl B 5 i0 Tryd.underlying22 Tryd.underlying9 hi hz0 hz1 hz2 _ _ _ rfl hown s rfl ?c3 ?c4 ?c5 ?_)
  case c3 => unfold maxLen; omega
  case c4 => omega
  case c5 => have := hb1.size; omega
  intro v' w2 hown' hgrow _
  have hlt : b < w1.heap.size := by
    rcases Nat.lt_or_ge b w1.heap.size with h' | h'
    · exact h'
    · simp [Array.getElem?_eq_none h'] at hbk
  have hb2 : w2.heap[b]? = some (.cells #[.pointer (some ⟨b, 0, none⟩), v] 62 (0, 0)) := by
    rw [hgrow.block b hlt (fun e => hne e.symm)]
    exact hbk
  have d0 : w2.cell? ⟨b, 0, none⟩ = some (.pointer (some ⟨b, 0, none⟩)) := by rw [Lib.cell_of_heap hb2]; rfl
  have d1 : w2.cell? ⟨b, 1, none⟩ = some v := by rw [Lib.cell_of_heap hb2]; rfl
  have f1 : w2.frozen? ⟨b, 1, none⟩ = false := Lib.frozen_of_heap hb2 1
  obtain ⟨ao, n', cap, rfl⟩ : ∃ ao n' cap, v' = .slice ao n' cap := by
    rcases hown'.2 with ⟨hv, _⟩ | ⟨g, cap, cur, hv, _⟩
    · exact ⟨_, _, _, hv⟩
    · exact ⟨_, _, _, hv⟩
  go_wp2
  go_ret2
  refine ⟨rfl, .inr ?_, ?_⟩
  · rw [Lib.byteCells_append, ← Lib.strCells_eq]
    exact Lib.BuilderAt.put (T := 62) (e := 5) hB hb2 (bs' := Lib.byteCells l ++ Lib.strCells s) (by simpa [Lib.strCells_length, Lib.byteCells_length] using hown') (by decide)
  · exact (hb1.grown hgrow (by have := hb1.size; omega) (fun k hk => (hown.lt k hk).1)).setCell (p := ⟨b, 1, none⟩) hB _
theorem bld_alloc {B b : Nat} {l : List UInt8} {w : World} (h : Bld B b l w) (o : Obj) : Bld B b l (w.alloc o) := by
  have hk : ∀ p, Lib.BuilderAt 62 5 B b p (Lib.byteCells l) w → Lib.BuilderAt 62 5 B b p (Lib.byteCells l) (w.alloc o) := by
    rintro p ⟨hB, v, hb, hown, hne⟩
    refine ⟨hB, v, ?_, hown.alloc o, hne⟩
    rw [Lib.alloc_old w o b (Lib.BuilderAt.lt ⟨hB, v, hb, hown, hne⟩)]
    exact hb
  exact h.imp (hk _) (hk _)
theorem bld_drew {B b : Nat} {l : List UInt8} {w : World} (h : Bld B b l w) : Bld B b l w.drew := h
theorem bld_below {B b : Nat} {l : List UInt8} {w w' : World} (h : Bld B b l w) (hb : Below w.heap.size w w') : Bld B b l w' := by
  have hk : ∀ p, Lib.BuilderAt 62 5 B b p (Lib.byteCells l) w → Lib.BuilderAt 62 5 B b p (Lib.byteCells l) w' := by
    rintro p ⟨hB, v, hbk, hown, hne⟩
    refine ⟨hB, v, ?_, own_move hown (fun k hk => hb.block k (hown.lt k hk).2), hne⟩
    rw [hb.block b (Lib.BuilderAt.lt ⟨hB, v, hbk, hown, hne⟩)]
    exact hbk
  exact h.imp (hk _) (hk _)
set_option maxHeartbeats 2000000 in
theorem tz16 (w : World) (ht : Lib.TabIs Tryd.prog w "math/bits.deBruijn64tab" .u8 deBruijn64Tab) :
    Calls Tryd.prog 119 #[.int .u64 16] w fun e w' => e = .returned (.int .i64 4) ∧ w' = w := by
  have hc : w.cell? ⟨7, 15, none⟩ = some (.int .u8 4) := (ht.cell (g := 7) (by kernel_rfl) 15 (by decide)).trans rfl
  have h1 : IntKind.u64.wrap (-16) = 18446744073709551600 := by decide
  have h2 : Go.bits .and .u64 16 18446744073709551600 = 16 := by decide +kernel
  have h3 : IntKind.u64.wrap (16 * 285870213051353865) = 4573923408821661840 := by decide
  go_enter Tryd.func119, Tryd.ntmps119
  go_wp2
  go_ret
  exact ⟨rfl, rfl⟩
def digs36 : ByteArray := ⟨#[48, 49, 50, 51, 52, 53, 54, 55, 56, 57, 97, 98, 99, 100, 101, 102, 103, 104, 105, 106, 107, 108, 109, 110, 111, 112, 113, 114, 115, 116, 117, 118, 119, 120, 121, 122]⟩
/-- The cells of the row of digits behind k rounds. -/
def hxAt (n : Nat) (k j : Nat) : Int := if 65 - k ≤ j then bt digs36 ((n / 16 ^ (64 - j) % 16 : Nat) : Int) else 0
def HexCells (w wr : World) (n k : Nat) : Prop :=
  (∀ j, j < 65 → wr.cell? ⟨w.heap.size, j, none⟩ = some (.int .u8 (hxAt n k j))) ∧ (∀ j, j < 65 → wr.frozen? ⟨w.heap.size, j, none⟩ = false) ∧ Below w.heap.size w wr
theorem HexCells.start (w : World) (n : Nat) (t : TypeId) : HexCells w (w.alloc (.cells (Array.replicate 65 (.int .u8 0)) t)) n 0 := by
  refine ⟨fun j hj => ?_, fun j hj => ?_, below_alloc (Below.refl _ _) _⟩
  · rw [World.cell?_alloc_mark]
    unfold hxAt
    rw [if_neg (by omega)]
    simp [hj]
  · have hb : (w.alloc (.cells (Array.replicate 65 (.int .u8 0)) t)).heap[w.heap.size]? = some (.cells (Array.replicate 65 (.int .u8 0)) t (0, 0)) := blk_new w _
    exact Lib.frozen_of_heap hb j
theorem HexCells.put {w wr : World} {n k : Nat} (h : HexCells w wr n k) (hk : k < 65) (c : Int) (e : c = bt digs36 ((n / 16 ^ k % 16 : Nat) : Int)) : HexCells w (wr.setCell ⟨w.heap.size, 64 - k, none⟩ (.int .u8 c)) n (k + 1) :=
  ⟨fun j hj => by
    by_cases h1 : j = 64 - k
    · subst h1
      rw [World.cell?_setCell_same _ _ _ (h.1 _ hj)]
      unfold hxAt
      rw [if_pos (by omega), e, show 64 - (64 - k) = k by omega]
    · rw [World.cell?_setCell_other _ _ _ _ (by intro e2; injection e2 with _ e3; exact h1 e3.symm), h.1 j hj]
      unfold hxAt
      by_cases h2 : 65 - k ≤ j
      · rw [if_pos h2, if_pos (by omega)]
      · rw [if_neg h2, if_neg (by omega)],
   fun j hj => by rw [World.frozen?_setCell]; exact h.2.1 j hj, h.2.2.setCell (Nat.le_refl _) _⟩
/-- The hexadecimal digits of a number, the first ahead. -/
def hexL (n : Nat) : List Int := if h : n < 16 then [bt digs36 (n : Int)] else hexL (n / 16) ++ [bt digs36 ((n % 16 : Nat) : Int)]
termination_by n
decreasing_by omega
theorem hexL_row (n : Nat) : ∀ k, 16 ^ k ≤ n ∨ k = 0 → n < 16 ^ (k + 1) → hexL n = (List.range (k + 1)).map fun t => bt digs36 ((n / 16 ^ (k - t) % 16 : Nat) : Int) := by
  induction n using Nat.strongRecOn with
  | _ n ih =>
    intro k h1 h2
    by_cases h : n < 16
    · have hk : k = 0 := by
        rcases h1 with h1 | h1
        · rcases Nat.eq_zero_or_pos k with h0 | h0
          · exact h0
          · have : 16 ^ 1 ≤ 16 ^ k := Nat.pow_le_pow_right (by decide) h0
            omega
        · exact h1
      subst hk
      rw [hexL, dif_pos h]
      simp
      rw [show (n : Int) % 16 = (n : Int) by omega]
    · obtain ⟨m, rfl⟩ : ∃ m, k = m + 1 := ⟨k - 1, by
        rcases Nat.eq_zero_or_pos k with h0 | h0
        · subst h0; simp at h2; omega
        · omega⟩
      rw [hexL, dif_neg h, ih (n / 16) (by omega) m (by
        rcases h1 with h1 | h1
        · rw [Nat.pow_succ] at h1; exact .inl (by omega)
        · omega) (by rw [Nat.pow_succ] at h2; omega), List.range_succ (n := m + 1), List.map_append]
      congr 1
      · refine List.map_congr_left fun t ht => ?_
        have ht' : t < m + 1 := List.mem_range.1 ht
        rw [show m + 1 - t = (m - t) + 1 by omega, Nat.pow_succ, Nat.mul_comm, ← Nat.div_div_eq_div_mul]
      · simp
theorem HexCells.row {w wr : World} {n k : Nat} (h : HexCells w wr n (k + 1)) (hk : k < 65) (h1 : 16 ^ k ≤ n ∨ k = 0) (h2 : n < 16 ^ (k + 1)) (j : Nat) (hj : j < k + 1) :
    wr.cell? ⟨w.heap.size, 64 - k + j, none⟩ = some (.int .u8 ((hexL n).getD j 0)) := by
  rw [h.1 _ (by omega), hexL_row n k h1 h2]
  unfold hxAt
  rw [if_pos (by omega), List.getD_eq_getElem?_getD, List.getElem?_map, List.getElem?_range (by omega)]
  simp
  rw [show 64 - (64 - k + j) = k - j by omega]
theorem bt_elem (s : ByteArray) (m : Nat) (h : m < s.size) : ((s[m]'h).toNat : Int) = bt s (m : Int) := by
  unfold bt
  have h1 : m < s.data.toList.length := by rw [Array.length_toList]; exact h
  simp [List.getD_eq_getElem?_getD, h]
  first | rfl | (rw [Array.getElem?_eq_getElem h]; rfl) | skip
theorem u64_and15 (x : Int) (h0 : 0 ≤ x) (h1 : x < 18446744073709551616) : Go.bits .and .u64 x 15 = x % 16 :=
  bits_mask .u64 64 (by decide) (fun n a b => by rw [IntKind.wrap_u64]; omega) 4 (by decide) x h0 (by omega)
theorem i64_and : Go.bits .and .i64 16 15 = 0 := by decide +kernel

theorem slice65 (W : World) (B i : Nat) (h : i ≤ 64) : (Instr.sliceAt 121 (.pointer (some ⟨B, 0, none⟩)) (some (.int .i64 (i : Int))) none none).run Tryd.prog W = .ok (.slice (some ⟨B, i, none⟩) (65 - i) (65 - i)) W := by
  have hal : Tryd.prog.arrayLen 121 = 65 := by kernel_rfl
  have hel : Tryd.prog.elem 121 = 5 := by kernel_rfl
  rw [run_sliceAt_array_l (P := Tryd.prog) W 121 ⟨B, 0, none⟩ (by kernel_rfl) .i64 (i : Int) (by omega) (by rw [hal]; omega), hal, hel]
  have hs : (sizeOf 5).run Tryd.prog W = .ok 1 W := by kernel_rfl
  rw [hs]
  simp only [Result.andThen, Int.toNat_natCast, slicedAt, Nat.mul_one]
  rw [if_neg (by omega)]
  simp [Addr.add]
  exact fun e => e.symm
set_option maxHeartbeats 8000000 in
set_option maxRecDepth 100000 in
theorem formatBits16 (n : Nat) (hn : n < 1152921504606846976) (w : World) (ht : Lib.TabIs Tryd.prog w "math/bits.deBruijn64tab" .u8 deBruijn64Tab) :
    Calls Tryd.prog 105 #[.slice none 0 0, .int .u64 n, .int .i64 16, .bool false, .bool false] w fun e w' => e = .returned (.tuple #[.slice none 0 0, .string (strOfNums (hexL n))]) ∧ Below w.heap.size w w' := by
  have htz : ∀ W, Below w.heap.size w W → Calls Tryd.prog 119 #[.int .u64 16] W fun e w' => e = .returned (.int .i64 4) ∧ w' = W := fun W hW => tz16 W (Go.Joins.tab_stays (g := 7) (by kernel_rfl) ht hW (Nat.le_refl _))
  have hand := i64_and
  have HT := Lib.hid htz
  clear htz ht
  have S0 := Lib.hid (HexCells.start w n 121)
  go_enter Tryd.func105, Tryd.ntmps105
  go_wp2_with (first | (go_at_call 119; refine (HT.out _ (below_alloc (Below.refl _ _) _)).mono ?_; rintro e w1 ⟨rfl, rfl⟩) | go_in)
  go_loopw [1, 13] (fun vu vi wr => ∃ (i k u : Nat), k ≤ 15 ∧ i + k = 64 ∧ vu = .int .u64 u ∧ vi = .int .i64 ((i : Int) + 1) ∧ Hid (u = n / 16 ^ k) ∧ Hid (16 ^ k ≤ n ∨ k = 0) ∧ Aside (HexCells w wr n k)) (fun vu _ _ => (intOf vu).toNat)
  case atStart => exact ⟨64, 0, n, by omega, by omega, rfl, rfl, Lib.hid (by simp), Lib.hid (.inr rfl), S0.out⟩
  case round =>
    obtain ⟨i, k, u, hk, hik, rfl, rfl, HU, HK, A⟩ := hrel
    have hu0 : (0 : Int) ≤ (u : Int) := by omega
    have hub : u < 1152921504606846976 := by rw [HU.out]; exact Nat.lt_of_le_of_lt (Nat.div_le_self _ _) hn
    have hi65 : (i : Int) < 65 := by omega
    have hcell := A.out.1 i (by omega)
    have hfro := A.out.2.1 i (by omega)
    by_cases hlt : 16 ≤ u
    · have hltz : (u : Int) ≥ 16 := by omega
      have hand2 := u64_and15 (u : Int) hu0 (by omega)
      have hr0 : 0 ≤ (u : Int) % 16 := by omega
      have hr1 : (u : Int) % 16 < 36 := by omega
      have hk14 : k < 15 := by
        rcases Nat.lt_or_ge k 15 with h | h
        · exact h
        · exfalso
          have e := HU.out
          have h1 : 16 ^ 15 ≤ 16 ^ k := Nat.pow_le_pow_right (by decide) h
          have h2 : n / 16 ^ k ≤ n / 16 ^ 15 := Nat.div_le_div_left h1 (by decide)
          have h3 : n / 16 ^ 15 < 16 := by omega
          omega
      have hput := A.out.put (k := k) (by omega) (((digs36[u % 16]'(Nat.lt_of_lt_of_le (Nat.mod_lt u (by decide)) (by decide : 16 ≤ digs36.size))).toNat : Nat) : Int) (by rw [bt_elem, ← HU.out])
      rw [show 64 - k = i by omega] at hput
      have HP := Lib.hid hput
      clear hput
      go_wp2
      go_roundw
      case rel => exact ⟨i - 1, k + 1, u / 16, by omega, by omega, by go_num, by go_num, Lib.hid (by rw [HU.out, Nat.pow_succ, Nat.div_div_eq_div_mul]), Lib.hid (.inl (by
        have e := HU.out
        rw [Nat.pow_succ]
        have h1 : 16 ≤ n / 16 ^ k := by rw [← e]; exact hlt
        have h2 := (Nat.le_div_iff_mul_le (Nat.pow_pos (by decide))).1 h1
        rw [Nat.mul_comm]
        exact h2)), HP.out⟩
      case measure => simp [intOf]; omega
    · have hltz : ¬ (u : Int) ≥ 16 := by omega
      have hu36 : (u : Int) < 36 := by omega
      have hk2 : n < 16 ^ (k + 1) := by
        have e := HU.out
        rw [Nat.pow_succ]
        have h1 : n / 16 ^ k < 16 := by rw [← e]; omega
        have h2 := (Nat.div_lt_iff_lt_mul (Nat.pow_pos (by decide))).1 h1
        rw [Nat.mul_comm]
        exact h2
      have hput := A.out.put (k := k) (by omega) (((digs36[u]'(Nat.lt_of_lt_of_le (by omega : u < 16) (by decide : 16 ≤ digs36.size))).toNat : Nat) : Int) (by rw [bt_elem, ← HU.out, show u % 16 = u by omega])
      rw [show 64 - k = i by omega] at hput
      have hrow := fun j hj => hput.row (by omega) HK.out hk2 j hj
      rw [show 64 - k = i by omega] at hrow
      have hlen : (hexL n).length = 65 - i := by rw [hexL_row n k HK.out hk2, List.length_map, List.length_range]; omega
      have kb := fun cap => run_convert_bytes_arg (P := Tryd.prog) _ 22 5 Tryd.underlying22 Tryd.underlying5 w.heap.size i (65 - i) cap (hexL n) hlen (fun j hj => hrow j (by omega)) 9 Tryd.underlying9
      have HB := Lib.hid hput.2.2
      unfold digs36 at kb
      have hsl := fun W => slice65 W w.heap.size i (by omega)
      clear hrow hput hlen hk2 HT S0
      go_wp2
      go_ret2
      exact ⟨rfl, HB.out⟩
end Go.Proofs.YtfbgpjhnjdhpcaaDoor.P
namespace Go.Proofs.YtfbgpjhnjdhpcaaDoor.P
set_option linter.unusedVariables false
set_option linter.unusedSimpArgs false
open Go.RowKit Go.Proofs.YtfbgpjhnjdhpcaaDoorW.PrintWords Go.Proofs.YtfbgpjhnjdhpcaaDoorW.PrintLast Go.Proofs.YtfbgpjhnjdhpcaaDoorW.PrintMore

set_option maxHeartbeats 2000000 in
theorem internal_FormatInt16 (n : Nat) (hn : n < 1152921504606846976) (w : World) (ht : Lib.TabIs Tryd.prog w "math/bits.deBruijn64tab" .u8 deBruijn64Tab) :
    Calls Tryd.prog 89 #[.int .i64 n, .int .i64 16] w fun e w' => e = .returned (.string (strOfNums (hexL n))) ∧ Below w.heap.size w w' := by
  have hc := formatBits16 n hn w ht
  have hw : IntKind.u64.wrap (n : Int) = (n : Int) := by rw [IntKind.wrap_u64]; omega
  have h0 : ¬ (n : Int) < 0 := by omega
  generalize strOfNums (hexL n) = s at hc ⊢
  go_enter Tryd.func89, Tryd.ntmps89
  go_wp2_with (go_at_call 105; refine hc.mono ?_; rintro e w1 ⟨rfl, hb⟩)
  go_ret
  exact ⟨rfl, hb⟩
theorem FormatInt16 (n : Nat) (hn : n < 1152921504606846976) (w : World) (ht : Lib.TabIs Tryd.prog w "math/bits.deBruijn64tab" .u8 deBruijn64Tab) :
    Calls Tryd.prog 73 #[.int .i64 n, .int .i64 16] w fun e w' => e = .returned (.string (strOfNums (hexL n))) ∧ Below w.heap.size w w' := by
  have hc := internal_FormatInt16 n hn w ht
  generalize strOfNums (hexL n) = s at hc ⊢
  go_enter Tryd.func73, Tryd.ntmps73
  go_wp2_with (go_at_call 89; refine hc.mono ?_; rintro e w1 ⟨rfl, hb⟩)
  go_ret
  exact ⟨rfl, hb⟩
def strconv_FormatInt.f (a0 a1 : Int) : Option ByteArray :=
  if a1 = 16 ∧ 0 ≤ a0 ∧ a0 < 1152921504606846976 then some (strOfNums (hexL a0.toNat)) else
  if a1 = 10 ∧ -9223372036854775808 ≤ a0 ∧ a0 ≤ 9223372036854775807 then some ⟨(Lib.itoa a0).toArray⟩ else none
theorem strconv_FormatInt.calls (a0 a1 : Int) (r : ByteArray) (w : World) (hX : XW 6 w) (h : strconv_FormatInt.f a0 a1 = some r) :
    Calls Tryd.prog 73 #[.int .i64 a0, .int .i64 a1] w fun e w' => e = .returned (.string r) ∧ Below w.heap.size w w' := by
  unfold strconv_FormatInt.f at h
  split at h
  · rename_i hc
    obtain ⟨rfl, h0, h1⟩ := hc
    obtain rfl := Option.some.inj h
    have := FormatInt16 a0.toNat (by omega) w (hX.tz rfl)
    rw [show ((a0.toNat : Nat) : Int) = a0 by omega] at this
    exact this
  split at h
  · rename_i hc
    obtain ⟨rfl, h0, h1⟩ := hc
    obtain rfl := Option.some.inj h
    refine (Tryd.strconv_FormatInt_10 a0 h0 h1 w (hX.pow10 rfl)).mono ?_
    rintro e w' ⟨rfl, k, os, rfl⟩
    exact ⟨rfl, below_grow k os⟩
  · cases h
end Go.Proofs.YtfbgpjhnjdhpcaaDoor.P
namespace Go.Proofs.YtfbgpjhnjdhpcaaDoor.P
open Go.RowKit Go.Proofs.YtfbgpjhnjdhpcaaDoorW.PrintWords Go.Proofs.YtfbgpjhnjdhpcaaDoorW.PrintLast Go.Proofs.YtfbgpjhnjdhpcaaDoorW.PrintMore
attribute [local go_sem] max2_int min2_int max_two min_two max_three min_three max_four min_four   -- for this text's walks alone
set_option linter.unusedVariables false
set_option linter.unusedSimpArgs false

/-! ### impl_within: function 60 -/
def impl_within.f (a0 : Int) (a1 : Int) (a2 : Int) : Option (Bool) := if a0 ≥ a1 then (some (decide (a0 ≤ a2))) else (some false)
set_option maxHeartbeats 8000000 in
set_option maxRecDepth 100000 in
theorem impl_within.calls (a0 : Int) (a1 : Int) (a2 : Int) (r : Bool) (w : World) (h : impl_within.f a0 a1 a2 = some r) :
  Calls Tryd.prog 60 #[.int .i64 a0, .int .i64 a1, .int .i64 a2] w fun e w' => e = .returned (.bool r) ∧ Drawn0 w w' := by
 have H : (if a0 ≥ a1 then (some (decide (a0 ≤ a2))) else (some false)) = some r := h
 clear h
 by_cases c4 : a0 ≥ a1
 ·
  rw [if_pos c4] at H
  have c4b0 : decide (a1 ≤ a0) = true := decide_eq_true c4
  clear c4
  obtain rfl := Option.some.inj H
  go_enter Tryd.func60, Tryd.ntmps60
  go_wp2
  go_ret
  exact ⟨by first | rfl | (simp; done) | (simp [*]; done), by repeat (first | exact Drawn0.refl _ | apply Drawn0.step)⟩
 ·
  rw [if_neg c4] at H
  have c4b0 : decide (a1 ≤ a0) = false := decide_eq_false c4
  clear c4
  obtain rfl := Option.some.inj H
  go_enter Tryd.func60, Tryd.ntmps60
  go_wp2
  go_ret
  exact ⟨by first | rfl | (simp; done) | (simp [*]; done), by repeat (first | exact Drawn0.refl _ | apply Drawn0.step)⟩
/-! ### impl_Hex: function 51 -/
def impl_Hex.f (a0 : Int) : Option (ByteArray) := (impl_within.f a0 0 4503599627370496).bind fun t101 => (if t101 = true then ((strconv_FormatInt.f a0 16).bind fun t102 => (some t102)) else (some (⟨#[]⟩ : ByteArray)))
set_option maxHeartbeats 8000000 in
set_option maxRecDepth 100000 in
theorem impl_Hex.calls (a0 : Int) (r : ByteArray) (w : World) (hX : XW 6 w) (h : impl_Hex.f a0 = some r) :
  Calls Tryd.prog 51 #[.int .i64 a0] w fun e w' => e = .returned (.string r) ∧ Below w.heap.size w w' := by
 have HB := Aside0.mk (Below.refl w.heap.size w)
 have H : ((impl_within.f a0 0 4503599627370496).bind fun t101 => (if t101 = true then ((strconv_FormatInt.f a0 16).bind fun t102 => (some t102)) else (some (⟨#[]⟩ : ByteArray)))) = some r := h
 clear h
 obtain ⟨t101, A20, H⟩ := Option.bind_eq_some_iff.mp H
 try dsimp only at H
 have A2 := Aside0.mk A20
 clear A20
 by_cases c3 : t101 = true
 ·
  subst c3
  rw [if_pos rfl] at H
  replace H := Option.bind_eq_some_iff.mp H
  obtain ⟨t102, A40, H⟩ := H
  replace H : (some t102) = some r := H
  have A4 := Aside0.mk A40
  clear A40
  obtain rfl := Option.some.inj H
  go_enter Tryd.func51, Tryd.ntmps51
  go_wp2_with (first | ((with_reducible refine gate_callee (f := 60) rfl ?_); refine goesL_ (some 4) rfl rfl Tryd.func60 (by kernel_rfl) rfl #[.int .i64 a0, .int .i64 0, .int .i64 4503599627370496] rfl mc ?_; (with_reducible refine (impl_within.calls a0 0 4503599627370496 true _ A2.out).mono ?_); rintro e w' ⟨rfl, ⟨nd, rfl⟩⟩; refine ⟨_, rfl, ?_⟩) | ((with_reducible refine gate_callee (f := 73) rfl ?_); refine goesL_ (some 7) rfl rfl Tryd.func73 (by kernel_rfl) rfl #[.int .i64 a0, .int .i64 16] rfl mc ?_; (with_reducible refine (strconv_FormatInt.calls a0 16 t102 _ ?side1 A4.out).mono ?_); (case side1 => exact XW.to (XW.stays hX bh) (by decide)); rintro e w5 ⟨rfl, hb⟩; refine ⟨_, rfl, ?_⟩; replace HB := Aside0.mk (below_step bh hb); (try clear hb); (try clear hb2); (try clear hk); (try clear hi)))
  go_ret
  exact ⟨er, bh⟩
 ·
  replace c3 := Bool.eq_false_iff.mpr c3
  subst c3
  have H1 : (some (⟨#[]⟩ : ByteArray)) = some r := by rw [if_neg (show ¬ (false = true) by decide)] at H; exact H
  clear H
  have H := H1
  clear H1
  obtain rfl := Option.some.inj H
  go_enter Tryd.func51, Tryd.ntmps51
  go_wp2_with (first | ((with_reducible refine gate_callee (f := 60) rfl ?_); refine goesL_ (some 4) rfl rfl Tryd.func60 (by kernel_rfl) rfl #[.int .i64 a0, .int .i64 0, .int .i64 4503599627370496] rfl mc ?_; (with_reducible refine (impl_within.calls a0 0 4503599627370496 false _ A2.out).mono ?_); rintro e w' ⟨rfl, ⟨nd, rfl⟩⟩; refine ⟨_, rfl, ?_⟩))
  go_ret
  exact ⟨er, bh⟩
end Go.Proofs.YtfbgpjhnjdhpcaaDoor.P
namespace Go.Proofs.YtfbgpjhnjdhpcaaDoor.P
set_option linter.unusedVariables false
set_option linter.unusedSimpArgs false
open Go.RowKit Go.Lib Go.Proofs.YtfbgpjhnjdhpcaaDoorW.PrintWords Go.Proofs.YtfbgpjhnjdhpcaaDoorW.PrintLast Go.Proofs.YtfbgpjhnjdhpcaaDoorW.PrintMore
attribute [local go_sem] max2_int min2_int max_two min_two max_three min_three max_four min_four

def chunkL (p : ByteArray) : List UInt8 := if p.size = 0 then [] else (strOfNums (hexL p.size)).data.toList ++ [13, 10] ++ p.data.toList ++ [13, 10]
def chunksL (l : List ByteArray) : List UInt8 := l.flatMap chunkL
def sizes (l : List ByteArray) : Nat := (l.map ByteArray.size).sum
def impl_Chunked.f (l0 : List ByteArray) : Option ByteArray :=
  if sizes l0 > 4611686018427387904 then none else if l0.length > 100 then some ⟨#[]⟩ else if sizes l0 > 4000 then some ⟨#[]⟩ else some ⟨(chunksL l0 ++ [48, 13, 10, 13, 10]).toArray⟩
theorem hexL_le (d : Nat) : ∀ n : Nat, n < 16 ^ (d + 1) → (hexL n).length ≤ d + 1 := by
  induction d with
  | zero => intro n h; rw [hexL, dif_pos (by simpa using h)]; simp
  | succ d ih =>
    intro n h
    rw [hexL]
    by_cases h2 : n < 16
    · rw [dif_pos h2]; simp
    · rw [dif_neg h2, List.length_append, List.length_singleton]
      have := ih (n / 16) (by rw [Nat.pow_succ] at h; omega)
      omega
theorem nums_size (l : List Int) : (strOfNums l).size = l.length := by
  show (strOfNums l).data.size = _
  rw [← Array.length_toList, strOfNums_data, List.length_map]
theorem chunkL_le (p : ByteArray) (h : p.size ≤ 4000) : (chunkL p).length ≤ p.size + 8 := by
  unfold chunkL
  split
  · exact Nat.zero_le _
  · have h1 := hexL_le 3 p.size (by omega)
    have h2 := nums_size (hexL p.size)
    simp only [List.length_append, List.length_cons, List.length_nil, Array.length_toList]
    show (strOfNums (hexL p.size)).size + 2 + p.size + 2 ≤ _
    omega
theorem sizes_take (l : List ByteArray) (k : Nat) (h : k < l.length) : sizes (l.take (k + 1)) = sizes (l.take k) + (l[k]'h).size := by
  unfold sizes
  rw [List.take_add_one, List.getElem?_eq_getElem h, List.map_append, List.sum_append]
  simp
theorem sizes_le (l : List ByteArray) (k : Nat) : sizes (l.take k) ≤ sizes l := by
  have : sizes l = sizes (l.take k) + sizes (l.drop k) := by
    unfold sizes
    rw [← List.sum_append, ← List.map_append, List.take_append_drop]
  omega
theorem chunksL_take (l : List ByteArray) (k : Nat) (h : k < l.length) : chunksL (l.take (k + 1)) = chunksL (l.take k) ++ chunkL (l[k]'h) := by
  unfold chunksL
  rw [List.take_add_one, List.getElem?_eq_getElem h, List.flatMap_append]
  simp
theorem chunksL_le (l : List ByteArray) (h : sizes l ≤ 4000) : (chunksL l).length ≤ sizes l + 8 * l.length := by
  induction l with
  | nil => exact Nat.zero_le _
  | cons a l ih =>
    have h1 : sizes (a :: l) = a.size + sizes l := by simp [sizes]
    have h2 : chunksL (a :: l) = chunkL a ++ chunksL l := by simp [chunksL]
    have h3 := chunkL_le a (by omega)
    have h4 := ih (by omega)
    rw [h2, List.length_append, List.length_cons]
    omega
theorem hex_of_size (n : Nat) (h : n ≤ 4000) : impl_Hex.f (n : Int) = some (strOfNums (hexL n)) := by
  unfold impl_Hex.f impl_within.f
  rw [if_pos (by omega)]
  simp only [Option.bind_some]
  rw [if_pos (decide_eq_true (by omega))]
  unfold strconv_FormatInt.f
  rw [if_pos ⟨rfl, by omega, by omega⟩, Int.toNat_natCast]
  rfl
theorem chunk_data (p : ByteArray) (h : p.size ≠ 0) : (strOfNums (hexL p.size) ++ (⟨#[13, 10]⟩ : ByteArray) ++ p ++ (⟨#[13, 10]⟩ : ByteArray)).data.toList = chunkL p := by
  unfold chunkL
  rw [if_neg h]
  simp [ByteArray.data_append]
theorem rd_text (l : List ByteArray) (k : Nat) (h : k < l.length) : rdOf ByteArray.empty l (k : Int) = l[k]'h := by
  simp [rdOf, List.getD_eq_getElem?_getD, h]

set_option maxHeartbeats 8000000 in
set_option maxRecDepth 100000 in
theorem impl_Chunked.calls (A0 : Option Addr) (c0 : Nat) (l0 : List ByteArray) (r : ByteArray) (w : World) (hX : XW 6 w) (hr0 : Kd.C Kd.string w A0 l0.length l0) (hc0 : l0.length ≤ c0) (h : impl_Chunked.f l0 = some r) :
    Calls Tryd.prog 20 #[.slice A0 l0.length c0] w fun e w' => e = .returned (.string r) ∧ Below w.heap.size w w' := by
  have HB := Aside0.mk (Below.refl w.heap.size w)
  have BN := Aside0.mk (Lib.fresh_isBuilder 62 5 w)
  have hbound : ¬ sizes l0 > 4611686018427387904 := fun c => by unfold impl_Chunked.f at h; rw [if_pos c] at h; cases h
  have HH := Aside0.mk h
  clear h
  by_cases hlen : l0.length > 100
  · have h := HH.out
    unfold impl_Chunked.f at h
    rw [if_neg hbound, if_pos hlen] at h
    obtain rfl := Option.some.inj h
    clear h HH
    have h1 : decide ((100 : Int) < (l0.length : Int)) = true := decide_eq_true (by omega)
    have h2 : decide (100 < l0.length) = true := decide_eq_true hlen
    have HR0 := Aside0.mk hr0
    clear hr0
    go_enter Tryd.func20, Tryd.ntmps20
    go_wp2
    go_ret
    exact ⟨rfl, by repeat (first | exact HB.out | apply below_alloc | refine below_set ?_ (Nat.le_refl _))⟩
  have h1 : decide ((100 : Int) < (l0.length : Int)) = false := decide_eq_false (by omega)
  have h2 : decide (100 < l0.length) = false := decide_eq_false hlen
  have HR0 := Aside0.mk hr0
  have HX := Aside0.mk hX
  clear hr0 hX
  go_enter Tryd.func20, Tryd.ntmps20
  go_wp2
  go_loopg [4, 13] l0.length (fun gg v4 v13 wr => ∃ kk : Nat, kk ≤ l0.length ∧ l0.length - kk ≤ gg ∧ v13 = .int .i64 kk ∧ v4 = .int .i64 (sizes (l0.take kk)) ∧ sizes (l0.take kk) ≤ 4000 ∧ Aside0 (Bld w.heap.size w.heap.size (chunksL (l0.take kk)) wr) ∧ Aside0 (Below w.heap.size w wr))
  case atStart => exact ⟨0, Nat.zero_le _, by omega, rfl, rfl, Nat.zero_le _, ⟨BN.out⟩, ⟨below_alloc HB.out _⟩⟩
  case round =>
    clear HB BN
    obtain ⟨kk, hkk, hg, rfl, rfl, hs4, BL, HB⟩ := hrel
    by_cases hlt : kk < l0.length
    · have hltz : (kk : Int) < (l0.length : Int) := by omega
      have h0z : (0 : Int) ≤ (kk : Int) := by omega
      obtain ⟨ad, e, hx0⟩ := Kd.at_string HR0.out (kk : Int) h0z hltz
      subst e
      rw [rd_text l0 kk hlt] at hx0
      simp only [Int.toNat_natCast] at hx0
      have TF := Aside0.mk (chunksL_take l0 kk hlt)
      have TS := Aside0.mk (sizes_take l0 kk hlt)
      have SL := Aside0.mk (sizes_le l0 (kk + 1))
      have CL := Aside0.mk (chunksL_le (l0.take kk) hs4)
      have LT := Aside0.mk (List.length_take_le kk l0)
      generalize l0[kk]'hlt = x0 at hx0 TF TS
      replace hx0 := (HB.out.cell (World.block_lt_of_cell? w _ hx0)).trans hx0
      generalize sizes (l0.take kk) = sk at hs4 TS CL ⊢
      have hxs : sk + x0.size ≤ 4611686018427387904 := by
        have := SL.out
        rw [TS.out] at this
        omega
      have hsum : wrap64 ((sk : Int) + (x0.size : Int)) = ((sk + x0.size : Nat) : Int) := by unfold wrap64; omega
      by_cases hbig : sk + x0.size > 4000
      · have hb1 : decide ((4000 : Int) < ((sk + x0.size : Nat) : Int)) = true := decide_eq_true (by omega)
        have hb2 : decide (4000 < sk + x0.size) = true := decide_eq_true hbig
        have hb3 : decide ((4000 : Int) < (sk : Int) + (x0.size : Int)) = true := decide_eq_true (by omega)
        have hbz := SL.out
        rw [TS.out] at hbz
        have h := HH.out
        unfold impl_Chunked.f at h
        rw [if_neg hbound, if_neg hlen, if_pos (by omega)] at h
        obtain rfl := Option.some.inj h
        clear h HH
        go_wp2
        go_ret
        exact ⟨rfl, HB.out⟩
      · have hb1 : decide ((4000 : Int) < ((sk + x0.size : Nat) : Int)) = false := decide_eq_false (by omega)
        have hb2 : decide (4000 < sk + x0.size) = false := decide_eq_false hbig
        have hb3 : decide ((4000 : Int) < (sk : Int) + (x0.size : Int)) = false := decide_eq_false (by omega)
        generalize chunksL (l0.take kk) = xs at BL TF CL
        by_cases hz : x0.size = 0
        · have e0 : x0 = (⟨#[]⟩ : ByteArray) := by
            obtain ⟨⟨l⟩⟩ := x0
            cases l with
            | nil => rfl
            | cons a l => exact absurd hz (by simp [ByteArray.size])
          have hc0 : chunkL x0 = [] := by unfold chunkL; rw [if_pos hz]
          have hi : x0.toList.isEmpty = true := by rw [e0, ByteArray.toList_eq]; rfl
          have TF2 := TF.out
          rw [hc0, List.append_nil] at TF2
          have BL2 := BL
          rw [← TF2] at BL2
          have TS2 := Aside0.mk TS.out
          clear TF TF2 BL
          go_wp2
          go_roundg (l0.length - (kk + 1))
          case measure => omega
          case rel => exact ⟨kk + 1, by omega, by omega, by go_num, by rw [TS2.out, hz]; rfl, by rw [TS2.out]; omega, BL2, HB⟩
        · have hi : x0.toList.isEmpty = false := by
            rw [ByteArray.toList_eq]
            cases hl : x0.data.toList with
            | nil => exact absurd (show x0.size = 0 by show x0.data.size = 0; rw [← Array.length_toList, hl]; rfl) hz
            | cons a l => rfl
          have HX1 := Aside0.mk (XW.stays HX.out HB.out)
          have CX := Aside0.mk (impl_Hex.calls (x0.size : Int) (strOfNums (hexL x0.size)) wr HX1.out (hex_of_size x0.size (by omega)))
          have LD := Aside0.mk (chunk_data x0 hz)
          have hhl := hexL_le 3 x0.size (by omega)
          have hhs := nums_size (hexL x0.size)
          generalize strOfNums (hexL x0.size) = hs at CX LD hhs
          have s1 : ¬ 9223372036854775807 < hs.size + 2 := by omega
          have s2 : ¬ 9223372036854775807 < (hs ++ (⟨#[13, 10]⟩ : ByteArray)).size + x0.size := by
            rw [ByteArray.size_append, show (⟨#[13, 10]⟩ : ByteArray).size = 2 from rfl]; omega
          have s3 : ¬ 9223372036854775807 < (hs ++ (⟨#[13, 10]⟩ : ByteArray) ++ x0).size + 2 := by
            rw [ByteArray.size_append, ByteArray.size_append, show (⟨#[13, 10]⟩ : ByteArray).size = 2 from rfl]; omega
          have s1n : (9223372036854775807 < hs.size + 2) = False := eq_false s1
          have s2n : (9223372036854775807 < hs.size + 2 + x0.size) = False := eq_false (by omega)
          have s3n : (9223372036854775807 < hs.size + 2 + x0.size + 2) = False := eq_false (by omega)
          have hlb := LT.out
          have hcc := CL.out
          have hwsz : (hs ++ (⟨#[13, 10]⟩ : ByteArray) ++ x0 ++ (⟨#[13, 10]⟩ : ByteArray)).size = hs.size + 2 + x0.size + 2 := by
            rw [ByteArray.size_append, ByteArray.size_append, ByteArray.size_append, show (⟨#[13, 10]⟩ : ByteArray).size = 2 from rfl]
          have hcf := fun W (hb : Below wr.heap.size wr W) => builder_write w.heap.size w.heap.size xs (hs ++ (⟨#[13, 10]⟩ : ByteArray) ++ x0 ++ (⟨#[13, 10]⟩ : ByteArray)) W (bld_below BL.out hb) (by rw [hwsz]; omega) (Nat.le_trans HB.out.size hb.size)
          rw [LD.out, ← TF.out] at hcf
          have CF := Aside0.mk hcf
          clear hcf hhl hhs hwsz hlb hcc
          go_wp2_with (first
            | (go_at_call 51; refine CX.out.mono ?_; rintro e w4 ⟨rfl, hb4⟩; have HB4 := Aside0.mk hb4; clear hb4)
            | (go_at_call 50; refine (CF.out _ HB4.out).mono ?_; rintro e w5 ⟨rfl, hbl5, hb5⟩; have BL5 := Aside0.mk hbl5; have HB5 := Aside0.mk ((below_then HB.out HB.out.size HB4.out).trans hb5); clear hbl5 hb5))
          go_roundg (l0.length - (kk + 1))
          case measure => omega
          case rel => exact ⟨kk + 1, by omega, by omega, by go_num, by rw [TS.out, Int.natCast_add], by rw [TS.out]; omega, BL5, HB5⟩
    · have hltz : ¬ (kk : Int) < (l0.length : Int) := by omega
      have : kk = l0.length := by omega
      subst this
      have hO := BL.out
      rw [List.take_length] at hO hs4
      have h := HH.out
      unfold impl_Chunked.f at h
      rw [if_neg hbound, if_neg hlen, if_neg (by omega)] at h
      obtain rfl := Option.some.inj h
      clear h HH
      have hcl := chunksL_le l0 hs4
      have hcs := Tryd.Builder_String_any w.heap.size w.heap.size (chunksL l0) _ hO HB.out.size
      have hsz : (⟨(chunksL l0).toArray⟩ : ByteArray).size = (chunksL l0).length := by show (chunksL l0).toArray.size = _; simp
      have s0 : ¬ 9223372036854775807 < (⟨(chunksL l0).toArray⟩ : ByteArray).size + 1 := by omega
      have s0n : (9223372036854775807 < (⟨(chunksL l0).toArray⟩ : ByteArray).size + 1) = False := eq_false s0
      have s1 : ¬ 9223372036854775807 < ((⟨(chunksL l0).toArray⟩ : ByteArray) ++ (⟨#[48]⟩ : ByteArray)).size + 2 := by
        rw [ByteArray.size_append, show (⟨#[48]⟩ : ByteArray).size = 1 from rfl]; omega
      have s1n : (9223372036854775807 < (⟨(chunksL l0).toArray⟩ : ByteArray).size + 1 + 2) = False := eq_false (by omega)
      have s2 : ¬ 9223372036854775807 < ((⟨(chunksL l0).toArray⟩ : ByteArray) ++ (⟨#[48]⟩ : ByteArray) ++ (⟨#[13, 10]⟩ : ByteArray)).size + 2 := by
        rw [ByteArray.size_append, ByteArray.size_append, show (⟨#[48]⟩ : ByteArray).size = 1 from rfl, show (⟨#[13, 10]⟩ : ByteArray).size = 2 from rfl]; omega
      have s2n : (9223372036854775807 < (⟨(chunksL l0).toArray⟩ : ByteArray).size + 1 + 2 + 2) = False := eq_false (by omega)
      go_wp2_with (go_at_call 52; refine hcs.mono ?_; rintro e w5 ⟨rfl, hb5⟩)
      go_ret
      have hfin : ((⟨(chunksL l0).toArray⟩ : ByteArray) ++ (⟨#[48]⟩ : ByteArray) ++ (⟨#[13, 10]⟩ : ByteArray) ++ (⟨#[13, 10]⟩ : ByteArray)) = ⟨(chunksL l0 ++ [48, 13, 10, 13, 10]).toArray⟩ := by
        apply ByteArray.ext
        simp [ByteArray.data_append]
      exact ⟨by rw [← hfin]; rfl, HB.out.trans hb5⟩
end Go.Proofs.YtfbgpjhnjdhpcaaDoor.P
namespace Go.Proofs.YtfbgpjhnjdhpcaaDoor.Q
set_option linter.unusedVariables false
set_option linter.unusedSimpArgs false
open Go.RowKit Go.Proofs.YtfbgpjhnjdhpcaaDoor.P Go.Proofs.YtfbgpjhnjdhpcaaDoorW.PrintWords Go.Proofs.YtfbgpjhnjdhpcaaDoorW.PrintLast Go.Proofs.YtfbgpjhnjdhpcaaDoorW.PrintMore
theorem spl_one (c : UInt8) (x : List UInt8) (h : c ∉ x) : spl c x = [x] := by
  induction x with
  | nil => rfl
  | cons b x ih =>
    have hb : b ≠ c := fun e => h (e ▸ List.mem_cons_self)
    unfold spl
    rw [if_neg hb, ih (fun e => h (List.mem_cons_of_mem _ e))]
    rfl
theorem spl_app (c : UInt8) (x r : List UInt8) (h : c ∉ x) : spl c (x ++ c :: r) = x :: spl c r := by
  induction x with
  | nil =>
    rw [List.nil_append]
    rw [spl, if_pos rfl]
  | cons b x ih =>
    have hb : b ≠ c := fun e => h (e ▸ List.mem_cons_self)
    rw [List.cons_append]
    rw [spl, if_neg hb, ih (fun e => h (List.mem_cons_of_mem _ e))]
    rfl
theorem glue_no (c b : UInt8) (hb : b ≠ c) (l : List (List UInt8)) (h : ∀ p ∈ l, c ∉ p) : ∀ p ∈ glue [b] l, c ∉ p := by
  cases l with
  | nil => intro p hp; rw [List.mem_singleton.1 hp]; simpa using fun e => hb e.symm
  | cons a l =>
    intro p hp
    rcases List.mem_cons.1 hp with rfl | hp
    · rw [List.singleton_append, List.mem_cons]
      rintro (e | e)
      · exact hb e.symm
      · exact h a List.mem_cons_self e
    · exact h p (List.mem_cons_of_mem _ hp)
theorem spl_no (c : UInt8) (l : List UInt8) : ∀ p ∈ spl c l, c ∉ p := by
  induction l with
  | nil => intro p hp; rw [List.mem_singleton.1 hp]; simp
  | cons b l ih =>
    unfold spl
    split
    · intro p hp
      rcases List.mem_cons.1 hp with rfl | hp
      · simp
      · exact ih p hp
    · rename_i hb
      exact glue_no c b hb _ ih
theorem spl_joinc (c : UInt8) (l : List (List UInt8)) (h : ∀ p ∈ l, c ∉ p) (hne : l ≠ []) : spl c (Lib.join l [c]) = l := by
  cases l with
  | nil => exact absurd rfl hne
  | cons a l =>
    rw [Lib.join_cons]
    induction l generalizing a with
    | nil =>
      have e : Lib.joinTail [c] [] = [] := rfl
      rw [e, List.append_nil, spl_one c a (h a List.mem_cons_self)]
    | cons b l ih =>
      have e : Lib.joinTail [c] (b :: l) = c :: (b ++ Lib.joinTail [c] l) := by unfold Lib.joinTail; simp
      rw [e, spl_app c a _ (h a List.mem_cons_self), ih b (fun p hp => h p (List.mem_cons_of_mem _ hp)) (by simp)]
theorem spl_pre (c : UInt8) (p l : List UInt8) (h : c ∉ p) : spl c (p ++ l) = glue p (spl c l) := by
  induction p with
  | nil => rw [List.nil_append, glue_nil _ (spl_ne _ _)]
  | cons b p ih =>
    have hb : b ≠ c := fun e => h (e ▸ List.mem_cons_self)
    rw [List.cons_append, spl, if_neg hb, ih (fun e => h (List.mem_cons_of_mem _ e)), glue_glue _ _ _ (spl_ne _ _)]
    rfl
theorem ev_unique {α : Type} {g : Nat → Option α} {r r' : α} (h : Ev g r) (h' : Ev g r') : r = r' := by
  obtain ⟨K, h⟩ := h
  obtain ⟨K', h'⟩ := h'
  have a := h (K + K') (by omega)
  have b := h' (K + K') (by omega)
  rw [a] at b
  exact Option.some.inj b
theorem ev_climb {α : Type} {g : Nat → Option α} {r : α} (m : ∀ k, LeO (g k) (g (k + 1))) (K : Nat) (h : g K = some r) : Ev g r := by
  refine ⟨K, fun k hk => ?_⟩
  induction k with
  | zero => obtain rfl : K = 0 := by omega
            exact h
  | succ k ih =>
    by_cases c : K = k + 1
    · rw [← c]; exact h
    · exact m k r (ih (by omega))
theorem drop_head {s : ByteArray} {i : Nat} {c : Int} {r : List Int} (h : (bytesOf s).drop i = c :: r) : i < s.size ∧ bt s (i : Int) = c ∧ (bytesOf s).drop (i + 1) = r := by
  have hi : i < s.size := by
    refine Nat.lt_of_not_le fun hle => ?_
    rw [List.drop_of_length_le (by rw [bytesOf_length]; exact hle)] at h
    cases h
  rw [drop_bt s i hi] at h
  injection h with h1 h2
  exact ⟨hi, h1, h2⟩
theorem pla_not (c : Int) (h0 : 0 ≤ c) (h1 : c ≤ 255) : plaB c = true → c ≠ 37 := byte_cases (p := fun c => plaB c = true → c ≠ 37) (by decide +kernel) c h0 h1
theorem code_pair (c : Int) (h0 : 0 ≤ c) (h1 : c ≤ 255) : hexB (capV (Int.tdiv c 16 % 256)) = true ∧ hexB (capV (Int.tmod c 16)) = true ∧ (16 * hexV (capV (Int.tdiv c 16 % 256)) + hexV (capV (Int.tmod c 16))) % 256 = c :=
  byte_cases (p := fun c => hexB (capV (Int.tdiv c 16 % 256)) = true ∧ hexB (capV (Int.tmod c 16)) = true ∧ (16 * hexV (capV (Int.tdiv c 16 % 256)) + hexV (capV (Int.tmod c 16))) % 256 = c) (by decide +kernel) c h0 h1
/-- A round of Uncoded at a '%' that two digits stand behind. -/
theorem unc_step (s : ByteArray) (hs : s.size ≤ 200) (i : Nat) (acc : List Int) (ha : acc.length ≤ i) (h3 : i + 3 ≤ s.size) (hp : bt s (i : Int) = 37) (a1 : hexB (bt s ((i + 1 : Nat) : Int)) = true) (a2 : hexB (bt s ((i + 2 : Nat) : Int)) = true) (k : Nat) :
    impl_Uncoded.l0 (k + 1) s acc (i : Int) = impl_Uncoded.l0 k s (acc ++ [(16 * hexV (bt s ((i + 1 : Nat) : Int)) + hexV (bt s ((i + 2 : Nat) : Int))) % 256]) ((i + 3 : Nat) : Int) := by
  have h1 : (i : Int) < (s.size : Int) := by omega
  have w1 : wrap64 ((i : Int) + 1) = ((i + 1 : Nat) : Int) := by rw [wrap_in (by omega) (by omega)]; omega
  have w2 : wrap64 ((i : Int) + 2) = ((i + 2 : Nat) : Int) := by rw [wrap_in (by omega) (by omega)]; omega
  have w3 : wrap64 ((i : Int) + 3) = ((i + 3 : Nat) : Int) := by rw [wrap_in (by omega) (by omega)]; omega
  have w21 : wrap64 (((i + 2 : Nat) : Int) + 1) = ((i + 3 : Nat) : Int) := by rw [wrap_in (by omega) (by omega)]; omega
  have hl : acc.length < 140737488355328 := by omega
  have e2 := numOk_two (bytes_two s (i + 1) (by omega))
  simp only [impl_Uncoded.l0]
  rw [if_pos h1, if_pos (by omega), if_pos hp, w1, w2, w3, w21, mn_is, if_pos (by omega), if_pos (by omega), if_pos (by omega), if_pos (by omega), Int.toNat_natCast, Int.toNat_natCast, show i + 3 = i + 1 + 2 from rfl, impl_HexDigits_is, e2]
  simp only [Option.bind_some]
  rw [if_pos (show hexB (bt s ((i + 1 : Nat) : Int)) = true ∧ hexB (bt s ((i + 1 + 1 : Nat) : Int)) = true from ⟨a1, a2⟩)]
  simp only [if_true]
  rw [if_neg (by omega), if_pos hl]
theorem unc_code (s : ByteArray) (hs : s.size ≤ 200) : ∀ (m : List Int) (i : Nat) (acc : List Int), (∀ c ∈ m, 0 ≤ c ∧ c ≤ 255) → (bytesOf s).drop i = m.flatMap codeB → acc.length ≤ i → i ≤ s.size →
    Ev (fun k => impl_Uncoded.l0 k s acc (i : Int)) (strOfNums (acc ++ m), true) := by
  intro m
  induction m with
  | nil =>
    intro i acc _ hd _ hi
    have hz : s.size ≤ i := by
      have h := congrArg List.length hd
      rw [List.length_drop, bytesOf_length] at h
      simp at h
      omega
    refine Ev.step (f := fun _ => some (strOfNums (acc ++ []), true)) (fun k => ?_) (Ev.now _)
    simp only [impl_Uncoded.l0]
    rw [if_neg (by omega), List.append_nil]
  | cons c m ih =>
    intro i acc hm hd ha hi
    have hc := hm c List.mem_cons_self
    have hm' : ∀ c ∈ m, 0 ≤ c ∧ c ≤ 255 := fun c h => hm c (List.mem_cons_of_mem _ h)
    rw [List.flatMap_cons] at hd
    have e : acc ++ c :: m = (acc ++ [c]) ++ m := by simp
    rw [e]
    by_cases hp : plaB c = true
    · have hcb : codeB c = [c] := by unfold codeB; rw [if_pos hp]
      rw [hcb, List.singleton_append] at hd
      obtain ⟨hi1, hb, hd'⟩ := drop_head hd
      refine Ev.step (fun k => ?_) (ih (i + 1) (acc ++ [c]) hm' hd' (by rw [List.length_append, List.length_singleton]; omega) (by omega))
      simp only [impl_Uncoded.l0]
      rw [if_pos (by omega), if_pos (by omega), hb, if_neg (pla_not c hc.1 hc.2 hp), if_pos (by omega), wrap_in (i := (i : Int) + 1) (by omega) (by omega), show ((i : Int) + 1) = ((i + 1 : Nat) : Int) by omega]
    · have hcb : codeB c = [37, capV (Int.tdiv c 16 % 256), capV (Int.tmod c 16)] := by unfold codeB; rw [if_neg hp]
      rw [hcb] at hd
      obtain ⟨hi1, hb, hd1⟩ := drop_head hd
      obtain ⟨hi2, hb1, hd2⟩ := drop_head hd1
      obtain ⟨hi3, hb2, hd3⟩ := drop_head hd2
      obtain ⟨p1, p2, p3⟩ := code_pair c hc.1 hc.2
      refine Ev.step (fun k => ?_) (ih (i + 3) (acc ++ [c]) hm' hd3 (by rw [List.length_append, List.length_singleton]; omega) (by omega))
      have := unc_step s hs i acc ha (by omega) hb (by rw [hb1]; exact p1) (by rw [show i + 2 = i + 1 + 1 from rfl, hb2]; exact p2) k
      rw [hb1, show i + 2 = i + 1 + 1 from rfl, hb2, p3] at this
      exact this
theorem cd_bytes (s : ByteArray) : bytesOf (cd s) = (bytesOf s).flatMap codeB := by
  unfold cd
  refine bytes_nums _ fun c hc => ?_
  obtain ⟨b, hb, hcb⟩ := List.mem_flatMap.1 hc
  have hr := mem_bytes hb
  have key : ∀ c : Int, 0 ≤ c → c ≤ 255 → ∀ x ∈ codeB c, 0 ≤ x ∧ x ≤ 255 := fun c h0 h1 => byte_cases (p := fun c => ∀ x ∈ codeB c, 0 ≤ x ∧ x ≤ 255) (by decide +kernel) c h0 h1
  exact key b hr.1 hr.2 c hcb
theorem Uncoded_cd (s : ByteArray) (h : (cd s).size ≤ 200) : Ev (fun k => impl_Uncoded.f k (cd s)) (s, true) := by
  unfold impl_Uncoded.f
  have hn : ¬ ((cd s).size : Int) > 200 := by omega
  simp only [if_neg hn]
  have := unc_code (cd s) h (bytesOf s) 0 [] (fun c hc => mem_bytes hc) (by rw [List.drop_zero]; exact cd_bytes s) (Nat.le_refl _) (Nat.zero_le _)
  rw [List.nil_append, nums_bytes] at this
  exact this

/-- A byte's code, as bytes. -/
def code8 (b : UInt8) : List UInt8 := (codeB (b.toNat : Int)).map fun x => UInt8.ofNat x.toNat
def encL (m : List UInt8) : List UInt8 := m.flatMap code8
theorem byte_rng (b : UInt8) : (0 : Int) ≤ (b.toNat : Int) ∧ (b.toNat : Int) ≤ 255 := by
  have := b.toNat_lt
  omega
theorem code8_is (b : UInt8) : (code8 b).map (fun x => ((x.toNat : Nat) : Int)) = codeB (b.toNat : Int) :=
  byte_cases (p := fun c => ((codeB c).map fun x => UInt8.ofNat x.toNat).map (fun x => ((x.toNat : Nat) : Int)) = codeB c) (by decide +kernel) _ (byte_rng b).1 (byte_rng b).2
theorem code8_47 : code8 47 = [47] := by decide +kernel
theorem code8_no (b : UInt8) (h : b ≠ 47) : 47 ∉ code8 b := by
  have := byte_cases (p := fun c => c ≠ 47 → (47 : UInt8) ∉ (codeB c).map fun x => UInt8.ofNat x.toNat) (by decide +kernel) _ (byte_rng b).1 (byte_rng b).2
  refine this fun e => h ?_
  exact UInt8.toNat_inj.1 (by show b.toNat = 47; omega)
theorem cd_ofL (m : List UInt8) : cd (ofL m) = ofL (encL m) := by
  have hb : ∀ l : List UInt8, bytesOf (ofL l) = l.map fun b => ((b.toNat : Nat) : Int) := fun l => by unfold bytesOf ofL; rfl
  apply bytes_inj
  rw [cd_bytes, hb, hb]
  unfold encL
  induction m with
  | nil => rfl
  | cons b m ih => rw [List.map_cons, List.flatMap_cons, List.flatMap_cons, List.map_append, code8_is, ih]
theorem spl_enc (m : List UInt8) : spl 47 (encL m) = (spl 47 m).map encL := by
  unfold encL
  induction m with
  | nil => rfl
  | cons b m ih =>
    rw [List.flatMap_cons]
    by_cases h : b = 47
    · subst h
      rw [code8_47, List.singleton_append, spl, if_pos rfl, ih, spl, if_pos rfl]
      rfl
    · rw [spl_pre 47 _ _ (code8_no b h), ih, spl, if_neg h]
      cases hs : spl 47 m with
      | nil => exact absurd hs (spl_ne _ _)
      | cons a l =>
        simp [glue]

/-- A part that is the code of some text, without slashes. -/
def Part (p : ByteArray) : Prop := (∃ m, p = ofL (encL m)) ∧ 47 ∉ p.data.toList
def Nodot (p : ByteArray) : Prop := p.toList ≠ [46] ∧ p.toList ≠ [46, 46]
theorem part_empty : Part ⟨#[]⟩ := ⟨⟨[], rfl⟩, by decide⟩
theorem nodot_empty : Nodot ⟨#[]⟩ := by
  have e : (⟨#[]⟩ : ByteArray).toList = [] := ofL_toList []
  exact ⟨by rw [e]; decide, by rw [e]; decide⟩
theorem dotStep_ok (kept : List ByteArray) (p : ByteArray) (hk : ∀ x ∈ kept, Part x ∧ Nodot x) (hp : Part p) : ∀ x ∈ dotStep kept p, Part x ∧ Nodot x := by
  unfold dotStep
  by_cases h1 : p.toList = [46]
  · rw [if_pos h1]; exact hk
  · rw [if_neg h1]
    by_cases h2 : p.toList = [46, 46]
    · rw [if_pos h2]; exact fun x hx => hk x (List.mem_of_mem_take hx)
    · rw [if_neg h2]
      intro x hx
      rcases List.mem_append.1 hx with h | h
      · exact hk x h
      · rw [List.mem_singleton.1 h]; exact ⟨hp, h1, h2⟩
theorem dotAll_ok (ps : List ByteArray) : ∀ (kept : List ByteArray) (last : ByteArray), (∀ x ∈ kept, Part x ∧ Nodot x) → (∀ x ∈ ps, Part x) → ∀ x ∈ dotAll kept last ps, Part x ∧ Nodot x := by
  induction ps with
  | nil =>
    intro kept last hk _
    unfold dotAll
    split
    · intro x hx
      rcases List.mem_append.1 hx with h | h
      · exact hk x h
      · rw [List.mem_singleton.1 h]; exact ⟨part_empty, nodot_empty⟩
    · exact hk
  | cons p ps ih =>
    intro kept last hk hps
    unfold dotAll
    exact ih _ p (dotStep_ok kept p hk (hps p List.mem_cons_self)) fun x hx => hps x (List.mem_cons_of_mem _ hx)
theorem dotAll_self (ps : List ByteArray) : ∀ (kept : List ByteArray) (last : ByteArray), Nodot last → (∀ x ∈ ps, Nodot x) → dotAll kept last ps = kept ++ ps := by
  induction ps with
  | nil =>
    intro kept last hl _
    unfold dotAll
    rw [if_neg (by rintro (h | h); exact hl.1 h; exact hl.2 h), List.append_nil]
  | cons p ps ih =>
    intro kept last _ hps
    have hp := hps p List.mem_cons_self
    unfold dotAll dotStep
    rw [if_neg hp.1, if_neg hp.2, ih _ p hp fun x hx => hps x (List.mem_cons_of_mem _ hx)]
    simp
theorem slashed_enc (l : List ByteArray) (h : ∀ x ∈ l, Part x) : ∃ m, slashed l = encL m := by
  induction l with
  | nil => exact ⟨[], rfl⟩
  | cons a l ih =>
    obtain ⟨m, hm⟩ := ih fun x hx => h x (List.mem_cons_of_mem _ hx)
    obtain ⟨⟨q, hq⟩, _⟩ := h a List.mem_cons_self
    refine ⟨47 :: (q ++ m), ?_⟩
    unfold slashed at hm ⊢
    rw [List.flatMap_cons, hm]
    unfold encL
    rw [List.flatMap_cons, List.flatMap_append, code8_47, hq]
    rfl
/-- A path of parts without dots is its own normal form. -/
theorem dotOut_fix (l : List ByteArray) (hne : l ≠ []) (h : ∀ x ∈ l, Part x ∧ Nodot x) (hw : wt l ≤ 200) : pathB (dotOut l) = true ∧ dotless (dotOut l) = dotOut l ∧ ∃ d, cd d = dotOut l := by
  have e : dotOut l = ofL (slashed l) := by unfold dotOut; rw [if_neg hne]
  have ej := slashed_join l hne
  have hz : (ofL (slashed l)).size = wt l := by rw [ofL_size, slashed_length]
  have h1 : 1 ≤ wt l := by
    rw [← slashed_length, ej, List.length_cons]; omega
  have hd : (ofL (slashed l)).data.toList = 47 :: joinB l ⟨#[47]⟩ := by rw [← toList_data, ofL_toList, ej]
  have hb : bt (ofL (slashed l)) 0 = 47 := by
    have := bt_data (ofL (slashed l)) 0 (by rw [hd, List.length_cons]; omega)
    rw [show ((0 : Nat) : Int) = 0 from rfl] at this
    rw [this]
    have e0 : (ofL (slashed l)).data.toList[0]'(by rw [hd, List.length_cons]; omega) = 47 := by simp only [hd, List.getElem_cons_zero]
    rw [e0]
    rfl
  have hpath : pathB (ofL (slashed l)) = true := by
    unfold pathB
    exact decide_eq_true ⟨by omega, hb, by omega⟩
  have hx : ((ofL (slashed l)).extract 1 (ofL (slashed l)).size).data.toList = joinB l ⟨#[47]⟩ := by
    rw [extract_ofL, ← toList_data, ofL_toList, hd, List.drop_one, List.tail_cons]
    refine List.take_of_length_le ?_
    have := congrArg List.length hd
    rw [Array.length_toList, List.length_cons] at this
    have h3 : (ofL (slashed l)).data.size = (ofL (slashed l)).size := rfl
    omega
  have hsp : (spl 47 (joinB l ⟨#[47]⟩)).map ofL = l := by
    unfold joinB
    rw [show (⟨#[47]⟩ : ByteArray).data.toList = [47] from rfl, spl_joinc 47 _ (fun p hp => by
      obtain ⟨x, hx, rfl⟩ := List.mem_map.1 hp
      exact (h x hx).1.2) (by simpa using hne), List.map_map]
    refine (List.map_congr_left fun x _ => ?_).trans (List.map_id l)
    exact ofL_data x
  rw [e]
  refine ⟨hpath, ?_, ?_⟩
  · unfold dotless
    rw [if_pos hpath, hx, hsp, dotAll_self l [] _ nodot_empty (fun x hx => (h x hx).2), List.nil_append, e]
  · obtain ⟨m, hm⟩ := slashed_enc l fun x hx => (h x hx).1
    exact ⟨ofL m, by rw [cd_ofL, hm]⟩
theorem cd_len (s : ByteArray) : (cd s).size ≤ 3 * s.size := by
  have key : ∀ l : List Int, (l.flatMap codeB).length ≤ 3 * l.length := by
    intro l
    induction l with
    | nil => exact Nat.zero_le _
    | cons c l ih => rw [List.flatMap_cons, List.length_append, List.length_cons]; have := codeB_length c; omega
  have := key (bytesOf s)
  rw [← cd_bytes, bytesOf_length, bytesOf_length] at this
  exact this
/-- What a path's code comes to without dots. -/
theorem normal_fixed (v : ByteArray) (hv : v.size ≤ 60) (hp : pathB (cd v) = true) : pathB (dotless (cd v)) = true ∧ dotless (dotless (cd v)) = dotless (cd v) ∧ ∃ d, cd d = dotless (cd v) := by
  have hps : ∀ x ∈ (spl 47 (((cd v).extract 1 (cd v).size).data.toList)).map ofL, Part x := by
    have hb : (cd v).data.toList = encL v.data.toList := by
      have := cd_ofL v.data.toList
      rw [ofL_data] at this
      rw [this, ← toList_data, ofL_toList]
    have h47 : ∃ m, ((cd v).extract 1 (cd v).size).data.toList = encL m := by
      rw [extract_ofL, ← toList_data, ofL_toList, hb]
      have hz : ((cd v).size - 1) = ((encL v.data.toList).drop 1).length := by rw [List.length_drop, ← hb, Array.length_toList]; rfl
      rw [hz, List.take_length]
      unfold pathB at hp
      rw [decide_eq_true_eq] at hp
      have h0 := drop_bt (cd v) 0 hp.1
      rw [List.drop_zero, cd_bytes] at h0
      have hf : bt (cd v) ((0 : Nat) : Int) = 47 := hp.2.1
      rw [hf] at h0
      cases hvv : v.data.toList with
      | nil => exact ⟨[], rfl⟩
      | cons b m =>
        refine ⟨m, ?_⟩
        have hbv : bytesOf v = ((b.toNat : Nat) : Int) :: m.map fun b => ((b.toNat : Nat) : Int) := by unfold bytesOf; rw [hvv]; rfl
        rw [hbv, List.flatMap_cons] at h0
        have hh := byte_cases (p := fun c => (codeB c).head? = some 47 → codeB c = [47] ∧ c = 47) (by decide +kernel) _ (byte_rng b).1 (byte_rng b).2
        have hne : codeB ((b.toNat : Nat) : Int) ≠ [] := by unfold codeB; split <;> simp
        obtain ⟨h1, h2⟩ := hh (by
          cases hcb : codeB ((b.toNat : Nat) : Int) with
          | nil => exact absurd hcb hne
          | cons x y => rw [hcb] at h0; injection h0 with h3 _; rw [h3]; rfl)
        have hb47 : b = 47 := UInt8.toNat_inj.1 (by show b.toNat = 47; omega)
        unfold encL
        rw [List.flatMap_cons, hb47, code8_47]
        rfl
    obtain ⟨m, hm⟩ := h47
    intro x hx
    rw [hm, spl_enc, List.map_map] at hx
    obtain ⟨q, hq, rfl⟩ := List.mem_map.1 hx
    refine ⟨⟨q, rfl⟩, ?_⟩
    have := spl_no 47 (encL m) (encL q) (by rw [spl_enc]; exact List.mem_map_of_mem hq)
    rw [← toList_data]
    show 47 ∉ (ofL (encL q)).toList
    rw [ofL_toList]
    exact this
  have hk := dotAll_ok _ [] ⟨#[]⟩ (by simp) hps
  have hw := wt_all ((spl 47 (((cd v).extract 1 (cd v).size).data.toList)).map ofL) [] ⟨#[]⟩
  rw [wt_spl] at hw
  have hz : wt ([] : List ByteArray) = 0 := rfl
  have hl : ((cd v).extract 1 (cd v).size).data.toList.length = (cd v).size - 1 := by
    rw [Array.length_toList]
    exact size_extract (cd v) 1 (cd v).size (Nat.le_refl _)
  have hc := cd_len v
  have e : dotless (cd v) = dotOut (dotAll [] ⟨#[]⟩ ((spl 47 (((cd v).extract 1 (cd v).size).data.toList)).map ofL)) := by unfold dotless; rw [if_pos hp]
  rw [e]
  by_cases hne : dotAll [] ⟨#[]⟩ ((spl 47 (((cd v).extract 1 (cd v).size).data.toList)).map ofL) = []
  · rw [hne]
    have e1 : dotOut [] = dotOut [⟨#[]⟩] := by
      unfold dotOut
      rw [if_pos rfl, if_neg (by simp)]
      rfl
    rw [e1]
    exact dotOut_fix [⟨#[]⟩] (by simp) (by simp only [List.mem_singleton]; rintro x rfl; exact ⟨part_empty, nodot_empty⟩) (by decide)
  · exact dotOut_fix _ hne hk (by omega)
/-- A path's normal form, once more. -/
theorem normal_again (v : ByteArray) (hv : v.size ≤ 60) (hp : pathB (cd v) = true) : Ev (fun k => impl_NormalPath.f k (dotless (cd v))) (dotless (cd v), true) ∧ dotless (dotless (cd v)) = dotless (cd v) ∧ pathB (dotless (cd v)) = true := by
  obtain ⟨h1, h2, d, h3⟩ := normal_fixed v hv hp
  obtain ⟨u, hu, _, _, h4⟩ := NormalPath_u (dotless (cd v))
  have hz : (cd d).size ≤ 200 := by
    rw [h3]
    unfold pathB at h1
    rw [decide_eq_true_eq] at h1
    exact h1.2.2
  have hd := Uncoded_cd d hz
  rw [h3] at hd
  have eu := ev_unique hu hd
  subst eu
  have en : normalR (dotless (cd v)) (d, true) = (dotless (cd v), true) := by
    unfold normalR
    rw [if_pos ⟨rfl, h1, by rw [h3]; exact h1⟩, h3, h2]
  rw [en] at h4
  exact ⟨h4, h2, h1⟩
end Go.Proofs.YtfbgpjhnjdhpcaaDoor.Q
namespace Go.Proofs.YtfbgpjhnjdhpcaaDoor.Pure
set_option linter.unusedVariables false
set_option linter.unusedSimpArgs false
open Go.RowKit Go.Proofs.YtfbgpjhnjdhpcaaDoor.P Go.Proofs.YtfbgpjhnjdhpcaaDoor.Q Go.Proofs.YtfbgpjhnjdhpcaaDoorW.PrintWords
theorem paths_end (p v : ByteArray) (hv : v.size ≤ 60) (b : Bool) : Ev (fun k => laws_FnPaths.j3 k (normalR p (v, b)).1 (normalR p (v, b)).2) true := by
 unfold normalR
 by_cases h : b = true ∧ pathB p = true ∧ pathB (cd v) = true
 ·
  rw [if_pos h]
  obtain ⟨⟨K1, h1⟩, h2, h3⟩ := normal_again v hv h.2.2
  obtain ⟨K2, h4⟩ := impl_Dotless_ev (dotless (cd v))
  rw [h2] at h4
  refine ⟨K1 + K2 + 1, fun k hk => ?_⟩
  obtain ⟨k, rfl⟩ : ∃ z, k = z + 1 := ⟨k - 1, by omega⟩
  have w1 := h1 k (by omega)
  have w4 := h4 k (by omega)
  simp only at w1 w4
  unfold pathB at h3
  rw [decide_eq_true_eq] at h3
  simp only [laws_FnPaths.j3]
  rw [if_pos trivial, w1]
  simp only [Option.bind_some, if_true]
  rw [w4]
  simp only [Option.bind_some, if_true]
  rw [if_pos (by omega), h3.2.1]
  rfl
 ·
  rw [if_neg h]
  refine Ev.step (f := fun _ => some true) (fun k => ?_) (Ev.now _)
  simp only [laws_FnPaths.j3]
  rw [if_neg (by simp)]
  have e : (⟨#[]⟩ : ByteArray).toList = [] := (toList_nil _).2 rfl
  rw [e]
  rfl
theorem paths_back (s n : ByteArray) (f : Bool) (h : Ev (fun k => laws_FnPaths.j3 k n f) true) : Ev (fun k => laws_FnPaths.j1 k s (coded s) n f false) true := by
 by_cases c1 : ((coded s).size : Int) ≤ 200
 ·
  by_cases c2 : (s.size : Int) ≤ 200
  ·
   have e : coded s = cd s := coded_cd (by omega)
   have hu := Uncoded_cd s (by rw [← e]; omega)
   refine ev_j (g := fun k => laws_FnPaths.j2 k s (coded s) n f true) ?_ (fun k => ?_)
   ·
    refine ev_j (g := fun k => (impl_Uncoded.f k (coded s)).bind fun bt118 => (if bt118.2 = true then (if bt118.1.toList = s.toList then (laws_FnPaths.j3 k n f) else (some false)) else (some false))) ?_ (fun k => ?_)
    ·
     rw [e]
     refine Ev.bind hu ?_
     simp only [if_true]
     exact h
    ·
     simp only [laws_FnPaths.j2]
     rw [if_pos trivial]
   ·
    simp only [laws_FnPaths.j1]
    rw [if_neg (by simp), if_pos c1, decide_eq_true c2]
  ·
   refine ev_j (g := fun k => laws_FnPaths.j2 k s (coded s) n f false) (ev_j h (fun k => ?_)) (fun k => ?_)
   ·
    simp only [laws_FnPaths.j2]
    rw [if_neg (by simp)]
   ·
    simp only [laws_FnPaths.j1]
    rw [if_neg (by simp), if_pos c1, decide_eq_false c2]
 ·
  refine ev_j (g := fun k => laws_FnPaths.j2 k s (coded s) n f false) (ev_j h (fun k => ?_)) (fun k => ?_)
  ·
   simp only [laws_FnPaths.j2]
   rw [if_neg (by simp)]
  ·
   simp only [laws_FnPaths.j1]
   rw [if_neg (by simp), if_neg c1]
theorem FnPaths : laws_FnPaths.Pure := by
 intro l hl hs hx
 have hb : l.length ≤ 140737488351232 := by omega
 obtain ⟨s, d1, s1⟩ := drawCoded_ok l hb
 obtain ⟨u, d2, s2⟩ := drawUncoded_ok l hb
 obtain ⟨d, d3, s3⟩ := drawDotless_ok l hb
 obtain ⟨p, d4, s4⟩ := drawNormalPath_ok l hb
 obtain ⟨r, u1, u2, u3⟩ := Uncoded_both u
 obtain ⟨v, n1, nz, n2, n3⟩ := NormalPath_u p
 have hj : Ev (fun k => laws_FnPaths.j0 k s (coded s) p (normalR p v).1 (normalR p v).2 false) true := by
  refine ev_j (g := fun k => (spec_NormalPath.f k p).bind fun bt116 => (if (normalR p v).1.toList = bt116.1.toList then (laws_FnPaths.j1 k s (coded s) (normalR p v).1 (normalR p v).2 ((normalR p v).2 != bt116.2)) else (laws_FnPaths.j1 k s (coded s) (normalR p v).1 (normalR p v).2 true))) ?_ (fun k => ?_)
  ·
   refine Ev.bind n2 ?_
   simp only [if_true, bne_self_eq_false]
   exact paths_back s _ _ (paths_end p v.1 (by omega) v.2)
  ·
   simp only [laws_FnPaths.j0]
   rw [if_neg (by simp)]
 have key : Ev (fun k => laws_FnPaths.f k l) true := by
  unfold laws_FnPaths.f laws_big.f
  simp only [Option.bind_some]
  by_cases hb2 : decide ((l.length : Int) > 4096) = true
  ·
   simp only [if_pos hb2]
   exact Ev.now _
  ·
   simp only [if_neg hb2]
   refine Ev.bind d1 (Ev.bind (impl_Coded_ev s (by omega)) (Ev.bind d2 (Ev.bind u2 (Ev.bind d3 (Ev.bind d4 (Ev.bind n3 (Ev.bind u1 ?_)))))))
   simp only [if_true, bne_self_eq_false, Bool.false_eq_true, if_false]
   refine Ev.bind (spec_Coded_ev s (by omega)) ?_
   simp only [if_true]
   refine Ev.bind (impl_Dotless_ev d) (Ev.bind (spec_Dotless_ev d) ?_)
   simp only [bne_self_eq_false]
   exact hj
 obtain ⟨K, hK⟩ := key
 exact ⟨K, hK K (Nat.le_refl _)⟩
end Go.Proofs.YtfbgpjhnjdhpcaaDoor.Pure
namespace Go.Proofs.YtfbgpjhnjdhpcaaDoor.fnPaths
open Go.ChangeShapes Go.WideShapes Go.ChangeAt Go.RowKit
open Go.ChangeMaps (open_string shut_string)
set_option linter.unusedVariables false
theorem own : ownKnob Tryd.prog.godebug = none := by kernel_rfl
theorem laidOut : laidOutB Tryd.prog = true := by kernel_rfl
def IsRow (k : IntKind) (w : World) (a : Option Addr) (len cap : Nat) (zs : List Int) : Prop :=
  (a = none ∧ len = 0 ∧ cap = 0 ∧ zs = []) ∨
  ∃ x, a = some x ∧ len ≤ cap ∧ cap ≤ maxLen ∧ zs.length = cap ∧ (∀ i, i < zs.length → w.cell? (x.add i) = some (.int k (zs.getD i 0))) ∧ ∀ n ∈ zs, (Lit.int k n).wf = true
set_option maxRecDepth 100000 in
theorem lifted (os : Os) (started : os.Started) (H : Type) (enc : TypeId × Value → H) :
    ReturnsInHanded {} Tryd.checked os 3 .any (fun w args => (Rows.fnPathsSpec.pre enc Tryd.prog Tryd.f3 [] false w args ∧ laidMetH Tryd.prog Rows.fnPathsRow.laid w) ∧ sizedMet enc Tryd.prog Tryd.f3 (OpenSpec.ofChange Rows.fnPathsSpec) false w args) (Rows.fnPathsSpec.post enc Tryd.prog Tryd.f3 false true false false) := by
  refine RowAid.handed_both (C := Tryd.checked) (X := fun w _ => laidMetH Tryd.prog Rows.fnPathsRow.laid w) (fun _ _ _ hh h => h.of_heap hh) own started (by kernel_rfl) Tryd.func3
    (ChangeSpec.witness_shaped (enc := enc) (C := Tryd.checked) (os := os) (X := fun w _ => laidMetH Tryd.prog Rows.fnPathsRow.laid w) false (World.laidAll Tryd.prog os Rows.fnPathsRow.laid) #[.slice none 0 0] 8 (World.laidAll_os _ _ _)
      (World.shaped_of_ZipB (by kernel_rfl) (by kernel_rfl)) (by kernel_rfl) (by kernel_rfl) (by kernel_rfl)
      (by rw [MakeChecks.laidMetH_plain _ _ _ (by kernel_rfl)]; exact laidMet_laidAll _ (by kernel_rfl) (by kernel_rfl))) ?_
  intro W base args ds gs before hval0 hW hcnd hsz0 hL hSh _
  have hsz : (DataW.weightsEach Tryd.prog (Tryd.f3.params.toList ++ Rows.fnPathsSpec.plain.varTypes Tryd.prog) (ds ++ gs)).all (· ≤ reachBytes) = true := hsz0
  have hval : ∀ (j : Nat) t v, Tryd.f3.params[j]? = some t → args[j]? = some v → Value.okWide Tryd.prog W .any base t v := hval0
  have hW' := hW
  obtain ⟨p, q, hA0, hV, rfl, hfz, hnd⟩ := hW
  have hA : DataW.TrodAll enc Tryd.prog W 0 (fun _ => true) true Tryd.f3.params.toList args.toList ds p := hA0
  rw [Tryd.params3] at hA hval hsz
  obtain ⟨v0, vs0, d0, ds0, p0, q0, hargs, rfl, rfl, h0, r0⟩ := trodAll_cons hA
  obtain ⟨rfl, rfl, rfl⟩ := trodAll_nil r0
  obtain rfl : args = #[v0] := by cases args; simp_all
  obtain ⟨rfl, rfl⟩ := trodVars_none hV
  obtain ⟨a0, len0, cap0, rfl⟩ := okWide_slice Tryd.underlying22 (hval 0 22 v0 rfl rfl)
  have k0 := h0
  have lt0 : ∀ x ∈ p0, x.block < W.heap.size := by obtain ⟨m, hm⟩ := k0; exact DataW.trod_lt m _ _ _ hm
  obtain ⟨z0, w0⟩ : ∃ zs, IsRow .u8 W a0 len0 cap0 zs := by
    obtain ⟨fuel, hf⟩ := h0
    rcases open_ints Tryd.underlying22 Tryd.underlying5 (by kernel_rfl) hf with ⟨hcs, _⟩ | ⟨x, l, c, zs, hcs, _, hl, hm, hz, _, hcell, hwz⟩
    · simp [Value.cells] at hcs
      obtain ⟨rfl, rfl, rfl⟩ := hcs
      exact ⟨[], .inl ⟨rfl, rfl, rfl, rfl⟩⟩
    · simp [Value.cells] at hcs
      obtain ⟨rfl, rfl, rfl⟩ := hcs
      exact ⟨zs, .inr ⟨_, rfl, hl, hm, by simpa using hz, hcell, hwz⟩⟩
  have y0 : len0 * 1 ≤ 140737488351232 := Go.Proofs.YtfbgpjhnjdhpcaaDoorW.PrintWords.sized_ints hsz (j := 0) (t := 22) rfl rfl Tryd.underlying22 Tryd.underlying5 (by kernel_rfl) (by kernel_rfl) h0
  clear hA0 hval0 hsz0 hsz
  have hXW := RowAid.xw_of (m := 1) hSh Rows.fnPathsRow.laid hL (by kernel_rfl) (fun h_ => absurd h_ (by decide)) (fun h_ => absurd h_ (by decide))
  refine (P.laws_FnPaths.walk Pure.FnPaths a0 len0 cap0 z0 W hXW w0 y0).mono fun e W' ⟨he, bel⟩ => ?_
  subst he
  exact ⟨_, rfl, _, _, _, [], _, [], hW', trodAll_mk1 (shut_bool Tryd.underlying4 _), (trodAll_cons_mk (Below.trod laidOut (by kernel_rfl) (of_decide_eq_true (by kernel_rfl)) k0 bel lt0) trodAll_mk0), rfl, bel.frame _, fun h => by cases h⟩
theorem over : Rows.fnPathsRow.holds Tryd.pinned (OpenSpec.ofChange Rows.fnPathsSpec) :=
  OpenClaim.holds_of_wide 3 Tryd.f3 rfl rfl rfl rfl rfl rfl rfl ⟨rfl, rfl, rfl, rfl, rfl⟩ rfl rfl rfl rfl rfl (by kernel_rfl) Tryd.func3 (by kernel_rfl)
    (of_decide_eq_true (by kernel_rfl)) (by unfold Func.isWrapper; first | (rw [if_pos (by decide +kernel)]; kernel_rfl) | (rw [if_neg (by decide +kernel)]; exact ⟨rfl, rfl⟩))
    (fun os started H enc _ => lifted os started H enc)
theorem proved : Rows.FnPathsSaid := over
#print axioms proved
end Go.Proofs.YtfbgpjhnjdhpcaaDoor.fnPaths
namespace Go.Proofs.YtfbgpjhnjdhpcaaDoor
/-- The tied card, under a short name, for the claim. -/
theorem fnPaths_card : Rows.FnPathsCardSaid :=
  Claim7.holds_tied_plain_at .later [] [.data, .data, .data, .data, .sentinel, .sentinel, .pinned] true (true, "78e80f0384d6e2022df3e81acfcb6307d5866df5814ad4cc6640037b35f23dbb") true
    fnPaths.proved (fun _ h => by cases h) (by kernel_rfl) (fun _ h => by cases h) fnPaths_row_tie rfl ⟨rfl, rfl⟩ (by kernel_rfl) rfl
    (fun f fn hf hfn => by
      obtain rfl : f = 3 := Option.some.inj ((show Tryd.prog.funcNamed "loop.example/g00207/laws.FnPaths" = some 3 by kernel_rfl).symm.trans hf) |>.symm
      obtain rfl : fn = Tryd.f3 := (Option.some.inj (Tryd.func3.symm.trans hfn)).symm
      exact ⟨by kernel_rfl, fun j t ht => by
        rw [Tryd.params3] at ht
        have hm : t ∈ [22] := by simpa using Array.mem_of_getElem? ht
        have hall : ([22].all fun u => !Tryd.prog.wantsStandIn u) = true := by kernel_rfl
        exact (show Tryd.prog.wantsStandIn t = false by simpa using List.all_eq_true.1 hall t hm)⟩)
    (by kernel_rfl)
#print axioms fnPaths_card
end Go.Proofs.YtfbgpjhnjdhpcaaDoor
