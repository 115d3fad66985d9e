/- Functions of the Go program as Lean functions, and proofs about them, merged out of this session's texts by its program bundle.py; conditions: those that each theorem states. -/
import Derived.Below
import Derived.ChangeOld
import Derived.LaidMore
import Derived.Lay
import Derived.OpenShut
import Derived.ProofKit
import Derived.SevenTiedAt
import Derived.ShutString
import Derived.SizedLaws
import Derived.Stop.Joined
import Derived.Test.YtfebipiccpbdbaaDoorBFnExactReadFields1
import Derived.Test.YtfebipiccpbdbaaDoorCards
import Derived.Test.YtfebipiccpbdbaaDoorGCut
import Derived.Test.YtfebipiccpbdbaaDoorP0
import Derived.Test.YtfebipiccpbdbaaDoorPimplReadFields
import Derived.Test.YtfebipiccpbdbaaDoorPimplTrimmed
import Derived.Test.YtfebipiccpbdbaaDoorPimplisField
import Derived.Test.YtfebipiccpbdbaaDoorPlawsheldFieldS
import Derived.Test.YtfebipiccpbdbaaDoorPspecReadFields
import Derived.Test.YtfebipiccpbdbaaDoorPspecTrimmed
import Derived.Test.YtfebipiccpbdbaaDoorPspecl4Field
import Derived.Test.YtfebipiccpbdbaaDoorPspecl4Line
import Derived.Test.YtfebipiccpbdbaaDoorRows
import Derived.Test.YtfebipiccpbdbaaDoorTie
import Derived.WalkKit
/-! ## Qreadfields -/
/-
  ReadFields of spec and impl come to the same, line by line. Condition: a text's greatest length.
-/
namespace Go.Proofs.YtfebipiccpbdbaaDoor.Q
set_option linter.unusedVariables false
set_option linter.unusedSimpArgs false
open Go.RowKit Go.Proofs.YtfebipiccpbdbaaDoor.P Go.Proofs.YtfebipiccpbdbaaDoorW.PrintWords Go.Proofs.YtfebipiccpbdbaaDoorW.PrintLast Go.Proofs.YtfebipiccpbdbaaDoorW.PrintMore

theorem lineOf_len (s : List UInt8) (l q : List UInt8) (h : lineOf s = some (l, q)) : s.length = l.length + 2 + q.length := by
  have := ((line_cut s).1 l q h).2
  rw [this]
  simp
  omega
/-- spec.l4Line from a place on. -/
theorem spec_l4Line_ev (x : ByteArray) (hx : x.size ≤ 1048576) (at_ : Nat) : ∀ (n i : Nat), i + n = x.size → at_ ≤ i →
    Ev (fun k => spec_l4Line.l0 k x (at_ : Int) (i : Int)) (match lineOf (x.data.toList.drop i) with | some (l, q) => (x.extract at_ (i + l.length), ((x.size - q.length : Nat) : Int), true) | none => ((⟨#[]⟩ : ByteArray), (0 : Int), false)) := by
  intro n
  have hsz : x.data.toList.length = x.size := by rw [Array.length_toList]; rfl
  induction n with
  | zero =>
    intro i hi ha
    rw [List.drop_of_length_le (by omega)]
    refine Ev.step (f := fun _ => some ((⟨#[]⟩ : ByteArray), (0 : Int), false)) (fun k => ?_) (Ev.now _)
    simp only [spec_l4Line.l0]
    rw [if_neg (by omega)]
  | succ n ih =>
    intro i hi ha
    have hlt : i < x.size := by omega
    obtain ⟨c, hd, hc⟩ := drop_u8 x i hlt
    rw [hd]
    have hx64 : x.size ≤ 4611686018427387904 := by omega
    by_cases h10 : c = 10
    · have hb : bt x (i : Int) = 10 := by rw [hc, h10]; rfl
      have e : lineOf (c :: x.data.toList.drop (i + 1)) = none := by rw [lineOf.eq_def]; simp only [if_pos h10]
      rw [e]
      refine Ev.step (f := fun _ => some ((⟨#[]⟩ : ByteArray), (0 : Int), false)) (fun k => ?_) (Ev.now _)
      simp only [spec_l4Line.l0]
      rw [if_pos (by omega), if_pos (by omega), if_pos hb]
    · have hb : ¬ bt x (i : Int) = 10 := by rw [hc]; exact fun h => h10 ((u8_eq c 10 (by decide)).1 h)
      by_cases h13 : c = 13
      · have hb3 : bt x (i : Int) = 13 := by rw [hc, h13]; rfl
        by_cases hl : i + 1 < x.size
        · obtain ⟨d, hd2, hc2⟩ := drop_u8 x (i + 1) hl
          by_cases hdd : d = 10
          · have hb4 : bt x ((i + 1 : Nat) : Int) = 10 := by rw [hc2, hdd]; rfl
            have e : lineOf (c :: x.data.toList.drop (i + 1)) = some ([], x.data.toList.drop (i + 1 + 1)) := by rw [lineOf.eq_def, hd2]; simp [h13, hdd]
            rw [e]
            have hq : x.size - (x.data.toList.drop (i + 1 + 1)).length = i + 2 := by rw [List.length_drop, hsz]; omega
            simp only [hq, List.length_nil, Nat.add_zero]
            refine Ev.step (f := fun k => spec_l4Line.j1 k x (at_ : Int) (i : Int) true) (fun k => ?_) (Ev.step (f := fun _ => some (x.extract at_ i, ((i + 2 : Nat) : Int), true)) (fun k => ?_) (Ev.now _))
            · simp only [spec_l4Line.l0]
              rw [if_pos (by omega), if_pos (by omega), if_neg hb, if_pos hb3, wrap_next hlt hx64, if_pos (by omega), if_pos (by omega), hb4]
              rfl
            · simp only [spec_l4Line.j1, if_true]
              rw [if_pos (by omega), if_pos (by omega), if_pos (by omega), wrap_in (by omega) (by omega), Int.toNat_natCast, Int.toNat_natCast]
              rfl
          · have hb4 : (bt x ((i + 1 : Nat) : Int) == 10) = false := by
              rw [beq_eq_false_iff_ne, hc2]
              exact fun h => hdd ((u8_eq d 10 (by decide)).1 h)
            have e : lineOf (c :: x.data.toList.drop (i + 1)) = none := by rw [lineOf.eq_def, hd2]; simp [h13, hdd]
            rw [e]
            refine Ev.step (f := fun k => spec_l4Line.j1 k x (at_ : Int) (i : Int) false) (fun k => ?_) (Ev.step (f := fun _ => some ((⟨#[]⟩ : ByteArray), (0 : Int), false)) (fun k => ?_) (Ev.now _))
            · simp only [spec_l4Line.l0]
              rw [if_pos (by omega), if_pos (by omega), if_neg hb, if_pos hb3, wrap_next hlt hx64, if_pos (by omega), if_pos (by omega), hb4]
            · simp only [spec_l4Line.j1, Bool.false_eq_true, if_false]
              rw [if_pos (by omega), if_pos (by omega), if_pos hb3]
        · have e : lineOf (c :: x.data.toList.drop (i + 1)) = none := by
            rw [List.drop_of_length_le (by omega), lineOf.eq_def]
            simp [h13]
          rw [e]
          refine Ev.step (f := fun k => spec_l4Line.j1 k x (at_ : Int) (i : Int) false) (fun k => ?_) (Ev.step (f := fun _ => some ((⟨#[]⟩ : ByteArray), (0 : Int), false)) (fun k => ?_) (Ev.now _))
          · simp only [spec_l4Line.l0]
            rw [if_pos (by omega), if_pos (by omega), if_neg hb, if_pos hb3, wrap_next hlt hx64, if_neg (by omega)]
          · simp only [spec_l4Line.j1, Bool.false_eq_true, if_false]
            rw [if_pos (by omega), if_pos (by omega), if_pos hb3]
      · have hb3 : ¬ bt x (i : Int) = 13 := by rw [hc]; exact fun h => h13 ((u8_eq c 13 (by decide)).1 h)
        have h2 := ih (i + 1) (by omega) (by omega)
        have e : lineOf (c :: x.data.toList.drop (i + 1)) = (lineOf (x.data.toList.drop (i + 1))).map fun y => (c :: y.1, y.2) := by
          rw [lineOf.eq_def]
          simp only [if_neg h10, if_neg h13]
        rw [e]
        refine Ev.step (f := fun k => spec_l4Line.j1 k x (at_ : Int) (i : Int) false) (fun k => ?_) (Ev.step (f := fun k => spec_l4Line.l0 k x (at_ : Int) (((i + 1 : Nat) : Int))) (fun k => ?_) ?_)
        · simp only [spec_l4Line.l0]
          rw [if_pos (by omega), if_pos (by omega), if_neg hb, if_neg hb3]
        · simp only [spec_l4Line.j1, Bool.false_eq_true, if_false]
          rw [if_pos (by omega), if_pos (by omega), if_neg hb3, wrap_next hlt hx64]
        · cases hr : lineOf (x.data.toList.drop (i + 1)) with
          | none => rw [hr] at h2; exact h2
          | some y =>
            rw [hr] at h2
            obtain ⟨l, q⟩ := y
            simp only [Option.map_some, List.length_cons]
            rw [show i + (l.length + 1) = i + 1 + l.length by omega]
            exact h2
theorem extract_u8 (x : ByteArray) (a b : Nat) : (x.extract a b).data.toList = (x.data.toList.drop a).take (b - a) := by
  simp [ByteArray.data_extract, Array.toList_extract, List.extract_eq_take_drop]
theorem ofL_eq {s : ByteArray} {l : List UInt8} (h : s.data.toList = l) : s = ofL l := by rw [← h]; exact (ofL_data s).symm
theorem ofL_bytes (l : List UInt8) : bytesOf (ofL l) = l.map fun b => (b.toNat : Int) := bytes_ofList l
theorem mem_dropWhile {p : Int → Bool} {l : List Int} {b : Int} (hb : b ∈ l) (hp : p b = false) : b ∈ l.dropWhile p := by
  induction l with
  | nil => cases hb
  | cons c l ih =>
    rw [List.dropWhile_cons]
    split
    · rename_i h
      rcases List.mem_cons.1 hb with rfl | hb
      · rw [hp] at h; cases h
      · exact ih hb
    · exact hb
theorem trimN_sub (l : List Int) : ∀ c ∈ trimN l, c ∈ l := by
  intro c hc
  unfold trimN dropL dropR at hc
  have := List.mem_reverse.1 ((List.dropWhile_sublist _).mem hc)
  exact List.mem_reverse.1 ((List.dropWhile_sublist _).mem this)
theorem trimT_size (v : ByteArray) : (trimT v).size ≤ v.size := by
  unfold trimT trimN dropL dropR
  rw [strOfNums_size, ← bytesOf_length v]
  refine Nat.le_trans (List.dropWhile_sublist _).length_le ?_
  rw [List.length_reverse]
  refine Nat.le_trans (List.dropWhile_sublist _).length_le ?_
  rw [List.length_reverse]
  exact Nat.le_refl _
theorem trim_mem {v : ByteArray} {b : Int} (hb : b ∈ bytesOf v) (hp : blaB b = false) : b ∈ bytesOf (trimT v) := by
  unfold trimT
  rw [bytes_nums _ (fun c hc => mem_bytes (trimN_sub _ c hc))]
  unfold trimN dropL dropR
  exact mem_dropWhile (List.mem_reverse.2 (mem_dropWhile (List.mem_reverse.2 hb) hp)) hp
/-- A 13 or a 10 in a name or a value: no field. -/
theorem bad_field (n v : List UInt8) (h : (13 : UInt8) ∈ n ++ v ∨ (10 : UInt8) ∈ n ++ v) : isFieldB (ofL n) (trimT (ofL v)) = false := by
  have key : ∀ b : UInt8, tokB (b.toNat : Int) = false → visB (b.toNat : Int) = false → blaB (b.toNat : Int) = false → b ∈ n ++ v → isFieldB (ofL n) (trimT (ofL v)) = false := by
    intro b h1 h2 h3 hm
    unfold isFieldB
    rcases List.mem_append.1 hm with hm | hm
    · have : (bytesOf (ofL n)).all tokB = false := by
        rw [ofL_bytes, List.all_eq_false]
        exact ⟨_, List.mem_map.2 ⟨b, hm, rfl⟩, by rw [h1]; simp⟩
      unfold tokOk
      rw [this, Bool.and_false, Bool.false_and]
    · have hb : ((b.toNat : Nat) : Int) ∈ bytesOf (ofL v) := by rw [ofL_bytes]; exact List.mem_map.2 ⟨b, hm, rfl⟩
      have : (bytesOf (trimT (ofL v))).all visB = false := by
        rw [List.all_eq_false]
        exact ⟨_, trim_mem hb h3, by rw [h2]; simp⟩
      unfold visOk
      rw [this, Bool.and_false, Bool.false_and, Bool.and_false]
  rcases h with h | h
  · exact key 13 (by decide) (by decide) (by decide) h
  · exact key 10 (by decide) (by decide) (by decide) h
theorem spec_colon_ev (x : ByteArray) (out : List Fld) (at_ : Int) (line : ByteArray) (hl : line.size ≤ 1048576) {R : List Fld × Int × Bool} : ∀ (n i : Nat), i + n = line.size →
    Ev (fun k => spec_ReadFields.j2 k x out at_ line (((if (Lib.cut (line.data.toList.drop i) [58]).2.2 = true then i + (Lib.cut (line.data.toList.drop i) [58]).1.length else line.size) : Nat) : Int)) R → Ev (fun k => spec_ReadFields.l1 k x out at_ line (i : Int)) R := by
  intro n
  induction n with
  | zero =>
    intro i hi h
    have hsz : line.data.toList.length = line.size := by rw [Array.length_toList]; rfl
    rw [List.drop_of_length_le (by omega), cut_nil _ (by simp), if_neg (by simp)] at h
    refine Ev.step (fun k => ?_) h
    simp only [spec_ReadFields.l1]
    rw [if_neg (by omega), show line.size = i by omega]
  | succ n ih =>
    intro i hi h
    have hlt : i < line.size := by omega
    obtain ⟨c, hd, hc⟩ := drop_u8 line i hlt
    rw [hd, cut_cons, pre_one] at h
    by_cases h58 : c = 58
    · have hb : bt line (i : Int) = 58 := by rw [hc, h58]; rfl
      rw [if_pos (show ((58 : UInt8) == c) = true by rw [h58]; rfl)] at h
      simp only [if_true, List.length_nil, Nat.add_zero] at h
      refine Ev.step (fun k => ?_) h
      simp only [spec_ReadFields.l1]
      rw [if_pos (by omega), if_pos (by omega), if_pos hb]
    · have hb : ¬ bt line (i : Int) = 58 := by rw [hc]; exact fun h => h58 ((u8_eq c 58 (by decide)).1 h)
      rw [if_neg (show ¬ ((58 : UInt8) == c) = true by rw [beq_iff_eq]; exact fun e => h58 e.symm)] at h
      refine Ev.step (f := fun k => spec_ReadFields.l1 k x out at_ line (((i + 1 : Nat) : Int))) (fun k => ?_) (ih (i + 1) (by omega) ?_)
      · simp only [spec_ReadFields.l1]
        rw [if_pos (by omega), if_pos (by omega), if_neg hb, wrap_next hlt (by omega)]
      · by_cases h2 : (Lib.cut (line.data.toList.drop (i + 1)) [58]).2.2 = true
        · rw [if_pos h2] at h
          simp only [if_true, List.length_cons] at h
          rw [if_pos h2]
          rw [show i + 1 + (Lib.cut (line.data.toList.drop (i + 1)) [58]).1.length = i + ((Lib.cut (line.data.toList.drop (i + 1)) [58]).1.length + 1) by omega]
          exact h
        · rw [if_neg h2] at h
          simp only [Bool.false_eq_true, if_false] at h
          rw [if_neg h2]
          exact h
/-- Both functions from a place on. -/
theorem ReadFields_both (x : ByteArray) (hx : x.size ≤ 1048576) : ∀ (n : Nat) (rest : List UInt8) (at_ : Nat) (out : List Fld), rest.length ≤ n → at_ + rest.length = x.size → x.data.toList.drop at_ = rest → out.length ≤ 30 →
    ∃ R : List Fld × Int × Bool, Ev (fun k => spec_ReadFields.l0 k x out (at_ : Int)) R ∧ Ev (fun k => impl_ReadFields.l0 k x out (ofL rest)) R ∧ R.1.length ≤ 30 := by
  intro n
  have hsz : x.data.toList.length = x.size := by rw [Array.length_toList]; rfl
  have hx64 : x.size ≤ 4611686018427387904 := by omega
  induction n with
  | zero =>
    intro rest at_ out hn ha hd ho
    have h0 : rest = [] := List.eq_nil_of_length_eq_zero (by omega)
    subst h0
    refine ⟨([], 0, false), ?_, ?_, Nat.zero_le _⟩
    · have := spec_l4Line_ev x hx at_ 0 at_ (by simpa using ha) (Nat.le_refl _)
      rw [hd] at this
      replace this : Ev (fun k => spec_l4Line.l0 k x (at_ : Int) (at_ : Int)) ((⟨#[]⟩ : ByteArray), (0 : Int), false) := this
      refine Ev.step (f := fun k => _) (fun k => by simp only [spec_ReadFields.l0]; rfl) (Ev.bind (g := fun k => spec_l4Line.f k x (at_ : Int)) this ?_)
      simp only [Bool.false_eq_true, if_false]
      exact Ev.now _
    · refine Ev.step (f := fun _ => some ([], 0, false)) (fun k => ?_) (Ev.now _)
      simp only [impl_ReadFields.l0, strings_Cut.f]
      rw [if_pos (by rw [ofL_size]; simp)]
      rfl
  | succ n ih =>
    intro rest at_ out hn ha hd ho
    have hL := spec_l4Line_ev x hx at_ rest.length at_ ha (Nat.le_refl _)
    rw [hd] at hL
    have hcs : ∀ s sub : ByteArray, s.size ≤ 1048576 → strings_Cut.f s sub = some (ofL (Lib.cut s.data.toList sub.data.toList).1, ofL (Lib.cut s.data.toList sub.data.toList).2.1, (Lib.cut s.data.toList sub.data.toList).2.2) := by
      intro s sub h
      unfold strings_Cut.f
      rw [if_pos (by omega)]
      rfl
    have hrs : (ofL rest).size ≤ 1048576 := by rw [ofL_size]; omega
    have hdl : ∀ l : List UInt8, (ofL l).data.toList = l := fun l => rfl
    have hcl : (⟨#[13, 10]⟩ : ByteArray).data.toList = [13, 10] := rfl
    have hcc : (⟨#[58]⟩ : ByteArray).data.toList = [58] := rfl
    obtain ⟨lc1, lc2⟩ := line_cut rest
    -- what impl does behind the first cut
    have hI : ∀ R, Ev (fun k => if (Lib.cut rest [13, 10]).2.2 = true then (if (ofL (Lib.cut rest [13, 10]).1).toList = ([] : List UInt8) then (some (out, wrap64 ((x.size : Int) - ((ofL (Lib.cut rest [13, 10]).2.1).size : Int)), true)) else ((strings_Cut.f (ofL (Lib.cut rest [13, 10]).1) (⟨#[58]⟩ : ByteArray)).bind fun bt107 => ((impl_Trimmed.f bt107.2.1).bind fun t110 => (if bt107.2.2 = true then ((impl_isField.f bt107.1 t110).bind fun t112 => (if t112 = true then (if (out.length : Int) = 30 then (some (([] : List Fld), 0, false)) else (if out.length < 4398046511104 then (impl_ReadFields.l0 k x (out ++ [(⟨bt107.1, t110⟩ : Fld)]) (ofL (Lib.cut rest [13, 10]).2.1)) else (none))) else (some (([] : List Fld), 0, false)))) else (some (([] : List Fld), 0, false)))))) else (some (([] : List Fld), 0, false))) R → Ev (fun k => impl_ReadFields.l0 k x out (ofL rest)) R := by
      intro R h
      refine Ev.step (fun k => ?_) h
      simp only [impl_ReadFields.l0]
      rw [hcs _ _ hrs, hdl, hcl]
      rfl
    cases hlo : lineOf rest with
    | none =>
      rw [hlo] at hL
      refine ⟨([], 0, false), ?_, hI _ ?_, Nat.zero_le _⟩
      · refine Ev.step (f := fun k => _) (fun k => by simp only [spec_ReadFields.l0]; rfl) (Ev.bind (g := fun k => spec_l4Line.f k x (at_ : Int)) hL ?_)
        simp only [Bool.false_eq_true, if_false]
        exact Ev.now _
      · by_cases hf : (Lib.cut rest [13, 10]).2.2 = true
        · simp only [if_pos hf]
          have hbad := lc2 hlo hf
          generalize hl : (Lib.cut rest [13, 10]).1 = line at hbad
          have hll : line.length ≤ rest.length := by
            rw [← hl]
            unfold Lib.cut
            split
            · exact (by rw [List.length_take]; exact Nat.min_le_right _ _ : (rest.take (Lib.index rest [13, 10]).toNat).length ≤ rest.length)
            · exact Nat.le_refl _
          have hne : ¬ (ofL line).toList = ([] : List UInt8) := by
            rw [ofL_toList]
            rintro rfl
            rcases hbad with h | h <;> cases h
          simp only [if_neg hne]
          rw [hcs _ _ (by rw [ofL_size]; omega), hdl, hcc]
          simp only [Option.bind_some]
          by_cases hf2 : (Lib.cut line [58]).2.2 = true
          · have hlc := cut_one_found 58 line hf2
            have hz : (Lib.cut line [58]).1.length + (Lib.cut line [58]).2.1.length + 1 = line.length := by
              have := congrArg List.length hlc
              rw [List.length_append, List.length_cons] at this
              omega
            rw [impl_Trimmed_is _ (by rw [ofL_size]; omega)]
            simp only [Option.bind_some, if_pos hf2]
            have hts : (trimT (ofL (Lib.cut line [58]).2.1)).size ≤ 1048576 := Nat.le_trans (trimT_size _) (by rw [ofL_size]; omega)
            rw [impl_isField_is _ _ (by rw [ofL_size]; omega) (by omega)]
            have hb2 : (13 : UInt8) ∈ (Lib.cut line [58]).1 ++ (Lib.cut line [58]).2.1 ∨ (10 : UInt8) ∈ (Lib.cut line [58]).1 ++ (Lib.cut line [58]).2.1 := by
              have : ∀ b : UInt8, b ≠ 58 → b ∈ line → b ∈ (Lib.cut line [58]).1 ++ (Lib.cut line [58]).2.1 := by
                intro b hb hm
                rw [hlc] at hm
                rcases List.mem_append.1 hm with hm | hm
                · exact List.mem_append.2 (.inl hm)
                · rcases List.mem_cons.1 hm with hm | hm
                  · exact absurd hm hb
                  · exact List.mem_append.2 (.inr hm)
              rcases hbad with h | h
              · exact .inl (this 13 (by decide) h)
              · exact .inr (this 10 (by decide) h)
            rw [bad_field _ _ hb2]
            exact Ev.now _
          · rw [impl_Trimmed_is _ (by
              have : (Lib.cut line [58]).2.1.length ≤ line.length := by
                unfold Lib.cut
                split
                · rw [List.length_drop]; omega
                · exact Nat.zero_le _
              rw [ofL_size]; omega)]
            simp only [Option.bind_some, if_neg hf2]
            exact Ev.now _
        · simp only [if_neg hf]
          exact Ev.now _
    | some y =>
      obtain ⟨line, q⟩ := y
      rw [hlo] at hL
      obtain ⟨hcut, hrest⟩ := lc1 line q hlo
      have hlen := lineOf_len rest line q hlo
      have hex : x.extract at_ (at_ + line.length) = ofL line := ofL_eq (by
        rw [extract_u8, hd, hrest, show at_ + line.length - at_ = line.length by omega]
        simp)
      have hat : x.size - q.length = at_ + line.length + 2 := by omega
      simp only [hex, hat] at hL
      have hS : ∀ R, Ev (fun k => if (ofL line).toList = ([] : List UInt8) then (some (out, ((at_ + line.length + 2 : Nat) : Int), true)) else (spec_ReadFields.l1 k x out ((at_ + line.length + 2 : Nat) : Int) (ofL line) 0)) R → Ev (fun k => spec_ReadFields.l0 k x out (at_ : Int)) R := by
        intro R h
        refine Ev.step (f := fun k => _) (fun k => by simp only [spec_ReadFields.l0]; rfl) (Ev.bind (g := fun k => spec_l4Line.f k x (at_ : Int)) hL ?_)
        simp only [if_true]
        exact h
      simp only [hcut, if_true] at hI
      by_cases hne : (ofL line).toList = ([] : List UInt8)
      · refine ⟨(out, ((at_ + line.length + 2 : Nat) : Int), true), hS _ ?_, hI _ ?_, ho⟩
        · simp only [if_pos hne]
          exact Ev.now _
        · simp only [if_pos hne]
          rw [ofL_size, wrap_in (by omega) (by omega), show (x.size : Int) - (q.length : Int) = ((at_ + line.length + 2 : Nat) : Int) by omega]
          exact Ev.now _
      · simp only [if_neg hne] at hS hI
        rw [hcs _ _ (by rw [ofL_size]; omega), hdl, hcc] at hI
        simp only [Option.bind_some] at hI
        have hC := fun R => spec_colon_ev x out ((at_ + line.length + 2 : Nat) : Int) (ofL line) (by rw [ofL_size]; omega) (R := R) line.length 0 (by rw [ofL_size]; omega)
        simp only [List.drop_zero, hdl, Nat.zero_add, ofL_size] at hC
        have hbadS : Ev (fun k => spec_ReadFields.j3 k x out ((at_ + line.length + 2 : Nat) : Int) (ofL line) (((if (Lib.cut line [58]).2.2 = true then (Lib.cut line [58]).1.length else line.length) : Nat) : Int) true) (([] : List Fld), (0 : Int), false) :=
          Ev.step (f := fun _ => some (([] : List Fld), (0 : Int), false)) (fun k => by simp only [spec_ReadFields.j3, if_true]) (Ev.now _)
        by_cases hf2 : (Lib.cut line [58]).2.2 = true
        · have hlc := cut_one_found 58 line hf2
          have hz : (Lib.cut line [58]).1.length + (Lib.cut line [58]).2.1.length + 1 = line.length := by
            have := congrArg List.length hlc
            rw [List.length_append, List.length_cons] at this
            omega
          simp only [if_pos hf2] at hC hbadS hI
          generalize hn1 : (Lib.cut line [58]).1 = nm at hC hbadS hI hlc hz
          generalize hv1 : (Lib.cut line [58]).2.1 = vl at hC hbadS hI hlc hz
          have hts : (trimT (ofL vl)).size ≤ 1048576 := Nat.le_trans (trimT_size _) (by rw [ofL_size]; omega)
          rw [impl_Trimmed_is _ (by rw [ofL_size]; omega)] at hI
          simp only [Option.bind_some] at hI
          rw [impl_isField_is _ _ (by rw [ofL_size]; omega) (by omega)] at hI
          simp only [Option.bind_some] at hI
          have hj2 : ∀ R, Ev (fun k => spec_ReadFields.j3 k x out ((at_ + line.length + 2 : Nat) : Int) (ofL line) (nm.length : Int) ((out.length : Int) == 30)) R → Ev (fun k => spec_ReadFields.l0 k x out (at_ : Int)) R := fun R h => hS _ (hC _ (Ev.step (fun k => by
            simp only [spec_ReadFields.j2]
            rw [if_neg (by rw [ofL_size]; omega)]) h))
          by_cases h30 : (out.length : Int) = 30
          · refine ⟨([], 0, false), hj2 _ ?_, hI _ ?_, Nat.zero_le _⟩
            · rw [show ((out.length : Int) == 30) = true from beq_iff_eq.2 h30]
              exact hbadS
            · cases isFieldB (ofL nm) (trimT (ofL vl))
              · exact Ev.now _
              · simp only [if_true, if_pos h30]
                exact Ev.now _
          · have he1 : (ofL line).extract ((nm.length + 1 : Nat)) (ofL line).size = ofL vl := ofL_eq (by
              rw [extract_u8, hdl, hlc, ofL_size]
              simp
              rw [List.take_of_length_le (by omega)])
            have he2 : (ofL line).extract 0 nm.length = ofL nm := ofL_eq (by
              rw [extract_u8, hdl, hlc]
              simp)
            have hj3 : ∀ R, Ev (fun k => if isFieldB (ofL nm) (trimT (ofL vl)) = true then spec_ReadFields.l0 k x (out ++ [(⟨ofL nm, trimT (ofL vl)⟩ : Fld)]) ((at_ + line.length + 2 : Nat) : Int) else some (([] : List Fld), 0, false)) R → Ev (fun k => spec_ReadFields.l0 k x out (at_ : Int)) R := fun R h => hj2 _ (by
              rw [show ((out.length : Int) == 30) = false from beq_eq_false_iff_ne.2 h30]
              refine Ev.step (f := fun k => (spec_Trimmed.f k (ofL vl)).bind fun t113 => (spec_l4Field.f k (ofL nm) t113).bind fun t115 => if t115 = true then spec_ReadFields.l0 k x (out ++ [(⟨ofL nm, t113⟩ : Fld)]) ((at_ + line.length + 2 : Nat) : Int) else some (([] : List Fld), 0, false)) (fun k => ?_) (Ev.bind (spec_Trimmed_ev _ (by rw [ofL_size]; omega)) (Ev.bind (spec_l4Field_ev _ _ (by rw [ofL_size]; omega) (by omega)) h))
              simp only [spec_ReadFields.j3, Bool.false_eq_true, if_false]
              rw [if_pos (by omega), if_pos (by rw [ofL_size]; omega), wrap_in (i := (nm.length : Int) + 1) (by omega) (by omega), if_pos (by omega), if_pos (by rw [ofL_size]; omega), show ((nm.length : Int) + 1).toNat = nm.length + 1 by omega, Int.toNat_natCast, he1, he2]
              simp only [if_pos (show out.length < 4398046511104 by omega)])
            cases hfb : isFieldB (ofL nm) (trimT (ofL vl)) with
            | false =>
              refine ⟨([], 0, false), hj3 _ ?_, hI _ ?_, Nat.zero_le _⟩
              · rw [hfb]
                exact Ev.now _
              · rw [hfb]
                exact Ev.now _
            | true =>
              have hdq : x.data.toList.drop (at_ + line.length + 2) = q := by
                rw [show at_ + line.length + 2 = at_ + (line.length + 2) by omega, ← List.drop_drop, hd, hrest]
                simp
              obtain ⟨R, r1, r2, r3⟩ := ih q (at_ + line.length + 2) (out ++ [(⟨ofL nm, trimT (ofL vl)⟩ : Fld)]) (by omega) (by omega) hdq (by rw [List.length_append]; simp; omega)
              refine ⟨R, hj3 _ ?_, hI _ ?_, r3⟩
              · rw [hfb]
                simp only [if_true]
                exact r1
              · rw [hfb]
                simp only [if_true, if_neg h30, if_pos (show out.length < 4398046511104 by omega)]
                exact r2
        · refine ⟨([], 0, false), hS _ (hC _ ?_), hI _ ?_, Nat.zero_le _⟩
          · simp only [if_neg hf2] at hbadS ⊢
            exact Ev.step (fun k => by
              simp only [spec_ReadFields.j2]
              rw [if_pos (by rw [ofL_size])]) hbadS
          · simp only [if_neg hf2]
            rw [impl_Trimmed_is _ (by
              have : (Lib.cut line [58]).2.1.length ≤ line.length := by
                unfold Lib.cut
                split
                · rw [List.length_drop]; omega
                · exact Nat.zero_le _
              rw [ofL_size]; omega)]
            exact Ev.now _
end Go.Proofs.YtfebipiccpbdbaaDoor.Q
/-! ## PureFnExactReadFields -/
/-
  FnExactReadFields answers true at every text: both functions read the same fields, and what is held is the caller's own. No condition.
-/
namespace Go.Proofs.YtfebipiccpbdbaaDoor.Pure
set_option linter.unusedVariables false
set_option linter.unusedSimpArgs false
open Go.RowKit Go.Proofs.YtfebipiccpbdbaaDoor.P Go.Proofs.YtfebipiccpbdbaaDoor.Q Go.Proofs.YtfebipiccpbdbaaDoorW.PrintWords
theorem FnExactReadFields : laws_FnExactReadFields.Pure := by
  intro x hx
  unfold laws_FnExactReadFields.f
  by_cases hs : (x.size : Int) > 1048576
  · simp only [if_pos hs]
    exact ⟨0, trivial⟩
  · simp only [if_neg hs]
    obtain ⟨⟨R, p, b⟩, hS, hI, hR⟩ := ReadFields_both x (by omega) x.size x.data.toList 0 [] (by rw [Array.length_toList]; exact Nat.le_refl _) (by rw [Array.length_toList]; exact Nat.zero_add _) rfl (Nat.zero_le _)
    replace hS : Ev (fun k => spec_ReadFields.f k x) (R, p, b) := hS
    replace hI : Ev (fun k => impl_ReadFields.f k x) (R, p, b) := by
      rw [ofL_data] at hI
      exact hI
    have hl : R.length ≤ 1048576 := by have : R.length ≤ 30 := hR; omega
    have hE := eqFieldS_self R hl
    refine Ev.rounds (r := true) (Ev.bind hS (Ev.bind hI (Ev.bind hE ?_)))
    simp only [if_true, bne_self_eq_false]
    refine Ev.step (f := fun k => (laws_markFieldS.f k R 1).bind fun bt112 => ((laws_heldFieldS.f k bt112.2 1).bind fun t114 => (if t114 < 0 then (some false) else (if t114 = bt112.1 then ((impl_ReadFields.f k x).bind fun bt115 => ((laws_eqFieldS.f k bt115.1 R).bind fun t120 => (if t120 = true then (if bt115.2.1 = p then (laws_FnExactReadFields.j1 k bt112.2 bt112.1 (bt115.2.2 != b)) else (laws_FnExactReadFields.j1 k bt112.2 bt112.1 true)) else (laws_FnExactReadFields.j1 k bt112.2 bt112.1 true)))) else (some false))))) (fun k => by simp only [laws_FnExactReadFields.j0, Bool.false_eq_true, if_false]) ?_
    refine Ev.bind (markFieldS_ev R hl) (Ev.bind (heldFieldS_ev R hl) ?_)
    simp only [if_neg (show ¬ (1 + 2 * ((R.length : Nat) : Int) < 0) by omega), eq_self, if_true]
    refine Ev.bind hI (Ev.bind hE ?_)
    simp only [if_true, bne_self_eq_false]
    refine Ev.step (f := fun k => (laws_heldFieldS.f k (marked 1 R) 1).bind fun t121 => (if t121 < 0 then (some false) else (if t121 = 1 + 2 * ((R.length : Nat) : Int) then (some true) else (some false)))) (fun k => by simp only [laws_FnExactReadFields.j1, Bool.false_eq_true, if_false]) ?_
    refine Ev.bind (heldFieldS_ev R hl) ?_
    simp only [if_neg (show ¬ (1 + 2 * ((R.length : Nat) : Int) < 0) by omega), eq_self, if_true]
    exact Ev.now _
end Go.Proofs.YtfebipiccpbdbaaDoor.Pure
/-! ## LawFnExactReadFields -/
/- The statement of FnExactReadFields, for every input: the row, out of the pure statement and the printed walk. No condition. -/
namespace Go.Proofs.YtfebipiccpbdbaaDoor.fnExactReadFields
open Go.ChangeShapes Go.WideShapes Go.ChangeAt Go.RowKit
open Go.ChangeMaps (open_string shut_string)
set_option linter.unusedVariables false
theorem own : ownKnob Tryd.prog.godebug = none := by kernel_rfl
set_option maxRecDepth 100000 in
theorem lifted (os : Os) (started : os.Started) (H : Type) (enc : TypeId × Value → H) :
    ReturnsInHanded {} Tryd.checked os 7 .any (fun w args => (Rows.fnExactReadFieldsSpec.pre enc Tryd.prog Tryd.f7 [] false w args ∧ laidMetH Tryd.prog Rows.fnExactReadFieldsRow.laid w) ∧ sizedMet enc Tryd.prog Tryd.f7 (OpenSpec.ofChange Rows.fnExactReadFieldsSpec) false w args) (Rows.fnExactReadFieldsSpec.post enc Tryd.prog Tryd.f7 false true false false) := by
  refine RowAid.handed_both (C := Tryd.checked) (X := fun w _ => laidMetH Tryd.prog Rows.fnExactReadFieldsRow.laid w) (fun _ _ _ hh h => h.of_heap hh) own started (by kernel_rfl) Tryd.func7
    (ChangeSpec.witness_shaped (enc := enc) (C := Tryd.checked) (os := os) (X := fun w _ => laidMetH Tryd.prog Rows.fnExactReadFieldsRow.laid w) false (World.laidAll Tryd.prog os Rows.fnExactReadFieldsRow.laid) #[.string ByteArray.empty] 8 (World.laidAll_os _ _ _)
      (World.shaped_of_ZipB (by kernel_rfl) (by kernel_rfl)) (by kernel_rfl) (by kernel_rfl) (by kernel_rfl)
      (by rw [MakeChecks.laidMetH_plain _ _ _ (by kernel_rfl)]; exact laidMet_laidAll _ (by kernel_rfl) (by kernel_rfl))) ?_
  intro W base args ds gs before hval0 hW hcnd hsz0 hL hSh _
  have hsz : (DataW.weightsEach Tryd.prog (Tryd.f7.params.toList ++ Rows.fnExactReadFieldsSpec.plain.varTypes Tryd.prog) (ds ++ gs)).all (· ≤ reachBytes) = true := hsz0
  have hval : ∀ (j : Nat) t v, Tryd.f7.params[j]? = some t → args[j]? = some v → Value.okWide Tryd.prog W .any base t v := hval0
  have hW' := hW
  obtain ⟨p, q, hA0, hV, rfl, hfz, hnd⟩ := hW
  have hA : DataW.TrodAll enc Tryd.prog W 0 (fun _ => true) true Tryd.f7.params.toList args.toList ds p := hA0
  rw [Tryd.params7] at hA hval hsz
  obtain ⟨v0, vs0, d0, ds0, p0, q0, hargs, rfl, rfl, h0, r0⟩ := trodAll_cons hA
  obtain ⟨rfl, rfl, rfl⟩ := trodAll_nil r0
  obtain rfl : args = #[v0] := by cases args; simp_all
  obtain ⟨rfl, rfl⟩ := trodVars_none hV
  obtain ⟨a0, rfl, rfl, rfl, y0⟩ := open_string Tryd.underlying9 (hval 0 9 v0 rfl rfl) h0
  have w0 : a0.size ≤ 140737488351232 := by
    have z := sized_string hsz (j := 0) (t := 9) rfl rfl
    rw [Array.length_toList] at z
    exact z
  clear hA0 hval0 hsz0 hsz
  have hXW := RowAid.xw_of (m := 1) hSh Rows.fnExactReadFieldsRow.laid hL (by kernel_rfl) (fun h_ => absurd h_ (by decide)) (fun h_ => absurd h_ (by decide))
  refine (P.laws_FnExactReadFields.walk Pure.FnExactReadFields a0 W hXW w0).mono fun e W' ⟨he, bel⟩ => ?_
  subst he
  exact ⟨_, rfl, _, _, _, [], _, [], hW', trodAll_mk1 (shut_bool Tryd.underlying4 _), (trodAll_cons_mk (shut_string Tryd.underlying9 y0) trodAll_mk0), rfl, bel.frame _, fun h => by cases h⟩
theorem over : Rows.fnExactReadFieldsRow.holds Tryd.pinned (OpenSpec.ofChange Rows.fnExactReadFieldsSpec) :=
  OpenClaim.holds_of_wide 7 Tryd.f7 rfl rfl rfl rfl rfl rfl rfl ⟨rfl, rfl, rfl, rfl, rfl⟩ rfl rfl rfl rfl rfl (by kernel_rfl) Tryd.func7 (by kernel_rfl)
    (of_decide_eq_true (by kernel_rfl)) (by unfold Func.isWrapper; first | (rw [if_pos (by decide +kernel)]; kernel_rfl) | (rw [if_neg (by decide +kernel)]; exact ⟨rfl, rfl⟩))
    (fun os started H enc _ => lifted os started H enc)
theorem proved : Rows.FnExactReadFieldsSaid := over
#print axioms proved
end Go.Proofs.YtfebipiccpbdbaaDoor.fnExactReadFields
namespace Go.Proofs.YtfebipiccpbdbaaDoor
/-- The tied card, under a short name, for the claim. -/
theorem fnExactReadFields_card : Rows.FnExactReadFieldsCardSaid :=
  Claim7.holds_tied_plain_at .later [] [.data, .pinned] true (true, "090dd8b52d5a9aab87a70a45cd45ba9354c43069745460516db811f4df20d7d4") false
    fnExactReadFields.proved (fun _ h => by cases h) (by kernel_rfl) (fun _ h => by cases h) fnExactReadFields_row_tie rfl ⟨rfl, rfl⟩ (by kernel_rfl) rfl
    (fun f fn hf hfn => by
      obtain rfl : f = 7 := Option.some.inj ((show Tryd.prog.funcNamed "loop.example/g00207/laws.FnExactReadFields" = some 7 by kernel_rfl).symm.trans hf) |>.symm
      obtain rfl : fn = Tryd.f7 := (Option.some.inj (Tryd.func7.symm.trans hfn)).symm
      exact ⟨by kernel_rfl, fun j t ht => by
        rw [Tryd.params7] at ht
        have hm : t ∈ [9] := by simpa using Array.mem_of_getElem? ht
        have hall : ([9].all fun u => !Tryd.prog.wantsStandIn u) = true := by kernel_rfl
        exact (show Tryd.prog.wantsStandIn t = false by simpa using List.all_eq_true.1 hall t hm)⟩)
    (by kernel_rfl)
#print axioms fnExactReadFields_card
end Go.Proofs.YtfebipiccpbdbaaDoor
