/- Functions of the Go program as Lean functions, and proofs about them, merged out of this session's texts by its program bundle.py; conditions: those that each theorem states. -/
import Derived.Below
import Derived.Carry
import Derived.ChangeOld
import Derived.ChangeSame
import Derived.Deep.Fields
import Derived.Deep.Slices
import Derived.LaidMore
import Derived.Lay
import Derived.OpenShut
import Derived.ProofKit
import Derived.SevenTiedAt
import Derived.ShutString
import Derived.SizedLaws
import Derived.Stop.Joined
import Derived.Test.YtfebipiccpbdbaaDoorBFnExactWithout1
import Derived.Test.YtfebipiccpbdbaaDoorCards
import Derived.Test.YtfebipiccpbdbaaDoorP0
import Derived.Test.YtfebipiccpbdbaaDoorPimplVisibleOk
import Derived.Test.YtfebipiccpbdbaaDoorPimplisField
import Derived.Test.YtfebipiccpbdbaaDoorPlawseqField
import Derived.Test.YtfebipiccpbdbaaDoorPlawseqFieldS
import Derived.Test.YtfebipiccpbdbaaDoorPlawsheldFieldS
import Derived.Test.YtfebipiccpbdbaaDoorPlawsmarkFieldS
import Derived.Test.YtfebipiccpbdbaaDoorPlawsmarkText
import Derived.Test.YtfebipiccpbdbaaDoorPspecVisibleOk
import Derived.Test.YtfebipiccpbdbaaDoorPspecl4Field
import Derived.Test.YtfebipiccpbdbaaDoorRows
import Derived.Test.YtfebipiccpbdbaaDoorTie
import Derived.WalkKit
import Derived.WideShapes
/-! ## Qvis -/
/-
  VisibleOk of spec and impl come to one and the same. No condition but a text's greatest length.
-/
namespace Go.Proofs.YtfebipiccpbdbaaDoor.Q
set_option linter.unusedVariables false
set_option linter.unusedSimpArgs false
open Go.RowKit Go.Proofs.YtfebipiccpbdbaaDoor.P Go.Proofs.YtfebipiccpbdbaaDoorW.PrintWords Go.Proofs.YtfebipiccpbdbaaDoorW.PrintLast Go.Proofs.YtfebipiccpbdbaaDoorW.PrintMore

def visOk (s : ByteArray) : Bool := decide (s.size ≤ 400) && (bytesOf s).all visB
theorem spec_VisibleOk_ev (s : ByteArray) (hs : s.size ≤ 4611686018427387904) : Ev (fun k => spec_VisibleOk.f k s) (visOk s) := by
  unfold spec_VisibleOk.f visOk
  by_cases h : (s.size : Int) > 400
  · simp only [if_pos h]
    exact ev_const (by rw [decide_eq_false (by omega), Bool.false_and])
  · simp only [if_neg h]
    rw [decide_eq_true (by omega), Bool.true_and]
    refine ev_all s visB (fun k i => spec_VisibleOk.l0 k s i) 0 (fun k i _ hi hp => ?_) (fun k i _ hi hp => ?_) (fun k _ => ?_)
    · simp only [spec_VisibleOk.l0]
      rw [if_pos (by omega), if_pos (by omega), wrap_next hi hs]
      unfold visB at hp
      by_cases h1 : bt s i < 32
      · have h9 : bt s i = 9 := by simp at hp; omega
        rw [if_pos h1, if_pos h9]
      · rw [if_neg h1]
        by_cases h2 : bt s i > 126
        · have h9 : bt s i = 9 := by simp at hp; omega
          rw [if_pos h2, if_pos h9]
        · rw [if_neg h2]
    · simp only [spec_VisibleOk.l0]
      rw [if_pos (by omega), if_pos (by omega)]
      unfold visB at hp
      simp at hp
      by_cases h1 : bt s i < 32
      · rw [if_pos h1, if_neg hp.2]
      · rw [if_neg h1, if_pos (by omega), if_neg hp.2]
    · simp only [spec_VisibleOk.l0]
      rw [if_neg (by omega)]
theorem impl_VisibleOk_is (s : ByteArray) (hs : s.size ≤ 4611686018427387904) : impl_VisibleOk.f s = some (visOk s) := by
  unfold impl_VisibleOk.f visOk
  by_cases h : (s.size : Int) ≤ 400
  · rw [if_pos h, all_vis s (by omega), decide_eq_true (by omega), Bool.true_and]; rfl
  · rw [if_neg h, decide_eq_false (by omega), Bool.false_and]
end Go.Proofs.YtfebipiccpbdbaaDoor.Q
/-! ## Qfields -/
/-
  Fields: what a field is, FieldsOk of spec and impl, and how laws measure, copy and compare fields. Condition: the texts' greatest lengths.
-/
namespace Go.Proofs.YtfebipiccpbdbaaDoor.Q
set_option linter.unusedVariables false
set_option linter.unusedSimpArgs false
open Go.RowKit Go.Proofs.YtfebipiccpbdbaaDoor.P Go.Proofs.YtfebipiccpbdbaaDoorW.PrintWords Go.Proofs.YtfebipiccpbdbaaDoorW.PrintLast Go.Proofs.YtfebipiccpbdbaaDoorW.PrintMore

abbrev Fld := S67
abbrev FldL := S65
def isFieldB (n v : ByteArray) : Bool := tokOk n && (visOk v && (trimT v).toList == v.toList)
theorem spec_l4Field_ev (n v : ByteArray) (hn : n.size ≤ 4611686018427387904) (hv : v.size ≤ 4611686018427387904) : Ev (fun k => spec_l4Field.f k n v) (isFieldB n v) := by
  unfold spec_l4Field.f isFieldB
  refine Ev.bind (spec_TokenOk_ev n hn) ?_
  cases tokOk n
  · exact Ev.now _
  · simp only [if_true, Bool.true_and]
    refine Ev.bind (spec_VisibleOk_ev v hv) ?_
    cases visOk v
    · exact Ev.now _
    · simp only [if_true, Bool.true_and]
      exact Ev.bind (spec_Trimmed_ev v hv) (Ev.now _)
theorem impl_isField_is (n v : ByteArray) (hn : n.size ≤ 4611686018427387904) (hv : v.size ≤ 4611686018427387904) : impl_isField.f n v = some (isFieldB n v) := by
  unfold impl_isField.f isFieldB
  rw [impl_TokenOk_is n hn, impl_VisibleOk_is v hv, impl_Trimmed_is v (by omega)]
  cases tokOk n <;> cases visOk v <;> rfl
/-- Fields whose texts are not longer than a machine's memory. -/
def Mild (l : List Fld) : Prop := l.length ≤ 1048576 ∧ ∀ x ∈ l, x.f0.size ≤ 1048576 ∧ x.f1.size ≤ 1048576
def fieldsOk (l : List Fld) : Bool := decide (l.length ≤ 30) && l.all fun x => isFieldB x.f0 x.f1
theorem rd_fld (l : List Fld) (i : Nat) : rd_T67 l (i : Int) = l.getD i z67 := by
  unfold rd_T67
  rw [Int.toNat_natCast]
theorem rd_fldL (l : List FldL) (i : Nat) : rd_T65 l (i : Int) = l.getD i z65 := by
  unfold rd_T65
  rw [Int.toNat_natCast]
theorem spec_FieldsOk_ev (l : List Fld) (h : Mild l) : Ev (fun k => spec_FieldsOk.f k l) (fieldsOk l) := by
  unfold spec_FieldsOk.f fieldsOk
  have hl := h.1
  by_cases h0 : (l.length : Int) > 30
  · simp only [if_pos h0]
    rw [decide_eq_false (by omega), Bool.false_and]
    exact Ev.now _
  · simp only [if_neg h0]
    rw [decide_eq_true (by omega), Bool.true_and]
    refine ev_eq (ev_listAll l z67 (fun x => isFieldB x.f0 x.f1) true false (fun k i => spec_FieldsOk.l0 k l i) (fun i hi hp x hx => ?_) (fun i hi hp => ?_) ?_) (by cases l.all _ <;> rfl)
    · have hm := h.2 _ (mem_getD (d := z67) hi)
      refine Ev.step (f := fun k => (spec_l4Field.f k (l.getD i z67).f0 (l.getD i z67).f1).bind fun t => if t = true then spec_FieldsOk.l0 k l (((i + 1 : Nat) : Int)) else some false) (fun k => ?_) (Ev.bind (spec_l4Field_ev _ _ (by omega) (by omega)) ?_)
      · simp only [spec_FieldsOk.l0]
        rw [if_pos (by omega), if_pos (by omega), rd_fld, wrap_next hi (by omega)]
      · simp only [hp, if_true]
        exact hx
    · have hm := h.2 _ (mem_getD (d := z67) hi)
      refine Ev.step (f := fun k => (spec_l4Field.f k (l.getD i z67).f0 (l.getD i z67).f1).bind fun t => if t = true then spec_FieldsOk.l0 k l (((i + 1 : Nat) : Int)) else some false) (fun k => ?_) (Ev.bind (spec_l4Field_ev _ _ (by omega) (by omega)) ?_)
      · simp only [spec_FieldsOk.l0]
        rw [if_pos (by omega), if_pos (by omega), rd_fld, wrap_next hi (by omega)]
      · simp only [hp]
        exact Ev.now _
    · refine Ev.step (f := fun _ => some true) (fun k => ?_) (Ev.now _)
      simp only [spec_FieldsOk.l0]
      rw [if_neg (by omega)]
theorem impl_FieldsOk_is (l : List Fld) (h : Mild l) : impl_FieldsOk.f l = some (fieldsOk l) := by
  unfold impl_FieldsOk.f fieldsOk
  by_cases h0 : (l.length : Int) ≤ 30
  · rw [if_pos h0, decide_eq_true (by omega), Bool.true_and]
    have hx : ∀ x ∈ l, impl_FieldsOk_1.f x.f0 x.f1 = some (!isFieldB x.f0 x.f1) := by
      intro x hx
      have := h.2 x hx
      unfold impl_FieldsOk_1.f
      rw [impl_isField_is _ _ (by omega) (by omega)]
      rfl
    unfold impl_Field.f
    rw [if_pos ⟨rfl, List.all_eq_true.2 fun x hm => by rw [hx x hm]; rfl⟩]
    simp only [Option.bind_some]
    refine congrArg some ?_
    have : ∀ m : List Fld, (∀ x ∈ m, impl_FieldsOk_1.f x.f0 x.f1 = some (!isFieldB x.f0 x.f1)) → (!(m.any fun x => impl_FieldsOk_1.f x.f0 x.f1 == some true)) = m.all fun x => isFieldB x.f0 x.f1 := by
      intro m
      induction m with
      | nil => intro _; rfl
      | cons a m ih =>
        intro hm
        rw [List.any_cons, List.all_cons, hm a List.mem_cons_self, Bool.not_or, ih fun x hx => hm x (List.mem_cons_of_mem _ hx)]
        cases isFieldB a.f0 a.f1 <;> rfl
    exact this l hx
  · rw [if_neg h0, decide_eq_false (by omega), Bool.false_and]
/-- A field as the laws have it, turned into one of the program's. -/
def conv (x : FldL) : Fld := ⟨x.f0, x.f1⟩
/-- How laws measure fields: what is left, or nothing. -/
theorem szFieldS_ev (l : List FldL) (left : Int) (h0 : 0 ≤ left) (h1 : left ≤ 1048576) (hl : l.length ≤ 9223372036854775807) (hx : ∀ x ∈ l, x.f0.size ≤ 9223372036854775807 ∧ x.f1.size ≤ 9223372036854775807) :
    ∃ r, Ev (fun k => laws_szFieldS.f k l left) r ∧ r ≤ left ∧ (0 ≤ r → Mild (l.map conv)) := by
  have hw : wrap64 (left - (l.length : Int)) = left - (l.length : Int) := wrap_in (by omega) (by omega)
  unfold laws_szFieldS.f
  rw [hw]
  by_cases hn : left - (l.length : Int) < 0
  · simp only [if_pos hn]
    exact ⟨-1, Ev.now _, by omega, fun h => by omega⟩
  · simp only [if_neg hn]
    have key : ∀ (n i : Nat) (st : Int), i + n = l.length → 0 ≤ st → st ≤ 1048576 → ∃ r, Ev (fun k => laws_szFieldS.l0 k l st (i : Int)) r ∧ r ≤ st ∧ (0 ≤ r → ∀ x ∈ l.drop i, x.f0.size ≤ 1048576 ∧ x.f1.size ≤ 1048576) := by
      intro n
      induction n with
      | zero =>
        intro i st hd _ _
        refine ⟨st, Ev.step (f := fun _ => some st) (fun k => ?_) (Ev.now _), Int.le_refl _, fun _ x hx => ?_⟩
        · simp only [laws_szFieldS.l0]
          rw [if_neg (by omega)]
        · rw [List.drop_of_length_le (by omega)] at hx
          cases hx
      | succ n ih =>
        intro i st hd s0 s1
        have hm := hx _ (mem_getD (l := l) (d := z65) (i := i) (by omega))
        obtain ⟨x, hxe⟩ : ∃ x, l.getD i z65 = x := ⟨_, rfl⟩
        rw [hxe] at hm
        have e0 : ∀ k, laws_szFieldS.l0 (k + 1) l st (i : Int) = (laws_szField.f x.f0 x.f1 st).bind fun t => if t < 0 then some (-1) else laws_szFieldS.l0 k l t (((i + 1 : Nat) : Int)) := by
          intro k
          simp only [laws_szFieldS.l0]
          have hw2 : wrap64 ((i : Int) + 1) = ((i + 1 : Nat) : Int) := by rw [wrap_in (by omega) (by omega)]; omega
          rw [if_pos (by omega), if_pos (by omega), rd_fldL, hxe, hw2]
        have e1 : laws_szField.f x.f0 x.f1 st = some (if st - (x.f0.size : Int) < 0 then -1 else if st - (x.f0.size : Int) - (x.f1.size : Int) < 0 then -1 else st - (x.f0.size : Int) - (x.f1.size : Int)) := by
          unfold laws_szField.f
          rw [wrap_in (i := st - (x.f0.size : Int)) (by omega) (by omega)]
          by_cases a : st - (x.f0.size : Int) < 0
          · rw [if_pos a, if_pos a]
          · rw [if_neg a, if_neg a, wrap_in (i := st - (x.f0.size : Int) - (x.f1.size : Int)) (by omega) (by omega)]
            by_cases b : st - (x.f0.size : Int) - (x.f1.size : Int) < 0
            · rw [if_pos b, if_pos b]
            · rw [if_neg b, if_neg b]
        obtain ⟨t, ht⟩ : ∃ t, (if st - (x.f0.size : Int) < 0 then -1 else if st - (x.f0.size : Int) - (x.f1.size : Int) < 0 then -1 else st - (x.f0.size : Int) - (x.f1.size : Int)) = t := ⟨_, rfl⟩
        rw [ht] at e1
        by_cases hneg : t < 0
        · refine ⟨-1, Ev.step (f := fun _ => some (-1)) (fun k => ?_) (Ev.now _), by omega, fun h => by omega⟩
          rw [e0, e1]
          simp only [Option.bind_some, if_pos hneg]
        · have hb : t ≤ st ∧ x.f0.size ≤ 1048576 ∧ x.f1.size ≤ 1048576 := by
            split at ht
            · omega
            · split at ht <;> omega
          obtain ⟨r, hr, hle, hq⟩ := ih (i + 1) t (by omega) (by omega) (by omega)
          refine ⟨r, Ev.step (f := fun k => laws_szFieldS.l0 k l t (((i + 1 : Nat) : Int))) (fun k => ?_) hr, by omega, fun h z hz => ?_⟩
          · rw [e0, e1]
            simp only [Option.bind_some, if_neg hneg]
          · rw [drop_at l z65 i (by omega), hxe] at hz
            rcases List.mem_cons.1 hz with rfl | hz
            · exact hb.2
            · exact hq h z hz
    obtain ⟨r, hr, hle, hq⟩ := key l.length 0 (left - (l.length : Int)) (by omega) (by omega) (by omega)
    refine ⟨r, hr, by omega, fun h => ⟨by rw [List.length_map]; omega, fun x hx => ?_⟩⟩
    obtain ⟨y, hy, rfl⟩ := List.mem_map.1 hx
    rw [List.drop_zero] at hq
    exact hq h y hy
theorem toFieldS_ev (l : List FldL) (hl : l.length ≤ 1048576) : Ev (fun k => laws_toFieldS.f k l) (l.map conv) := by
  unfold laws_toFieldS.f
  have key : ∀ (n i : Nat), i + n = l.length → Ev (fun k => laws_toFieldS.l0 k l ((l.map conv).take i ++ List.replicate n z67) (i : Int)) (l.map conv) := by
    intro n
    induction n with
    | zero =>
      intro i hd
      refine Ev.step (f := fun _ => some (l.map conv)) (fun k => ?_) (Ev.now _)
      simp only [laws_toFieldS.l0]
      rw [if_neg (by omega), List.replicate_zero, List.append_nil, List.take_of_length_le (by rw [List.length_map]; omega)]
    | succ n ih =>
      intro i hd
      refine Ev.step (f := fun k => laws_toFieldS.l0 k l ((l.map conv).take (i + 1) ++ List.replicate n z67) (((i + 1 : Nat) : Int))) (fun k => ?_) (ih (i + 1) (by omega))
      simp only [laws_toFieldS.l0, laws_toField.f, Option.bind_some]
      have hlen : ((l.map conv).take i ++ List.replicate (n + 1) z67).length = l.length := by
        rw [List.length_append, List.length_take, List.length_map, List.length_replicate]; omega
      rw [if_pos (by omega), if_pos (by omega), hlen, if_pos (by omega), rd_fldL, wrap_next (by omega : i < l.length) (by omega), Int.toNat_natCast]
      have hi : i < (l.map conv).length := by rw [List.length_map]; omega
      have e : (l.map conv).take (i + 1) = (l.map conv).take i ++ [conv (l.getD i z65)] := by
        rw [List.take_add_one, List.getElem?_eq_getElem hi, List.getElem_map, List.getD_eq_getElem?_getD, List.getElem?_eq_getElem (by omega : i < l.length)]
        rfl
      rw [e, List.set_append, List.length_take, List.length_map, if_neg (by omega), Nat.min_eq_left (by omega), Nat.sub_self, List.replicate_succ, List.set_cons_zero, List.append_assoc]
      rfl
  have h0 := key l.length 0 (by omega)
  rw [List.take_zero, List.nil_append] at h0
  refine Ev.congr (fun k => ?_) h0
  rw [Int.toNat_natCast, if_pos (by omega), if_pos (by omega)]
  rfl
theorem eqFieldS_self (l : List Fld) (hl : l.length ≤ 1048576) : Ev (fun k => laws_eqFieldS.f k l l) true := by
  unfold laws_eqFieldS.f
  simp only [if_true]
  refine ev_eq (ev_listAll l z67 (fun _ => true) true false (fun k i => laws_eqFieldS.l0 k l l i) (fun i hi _ x hx => Ev.step (f := fun k => laws_eqFieldS.l0 k l l (((i + 1 : Nat) : Int))) (fun k => ?_) hx) (fun i hi hp => by cases hp) (Ev.step (f := fun _ => some true) (fun k => ?_) (Ev.now _))) (by simp)
  · simp only [laws_eqFieldS.l0, laws_eqField.f]
    rw [if_pos (by omega), if_pos (by omega), if_pos (by omega), wrap_next hi (by omega)]
    simp
  · simp only [laws_eqFieldS.l0]
    rw [if_neg (by omega)]
end Go.Proofs.YtfebipiccpbdbaaDoor.Q
/-! ## Qmark -/
/-
  The marks that laws set into what a call has answered, and read again. No condition but the marks' numbers.
-/
namespace Go.Proofs.YtfebipiccpbdbaaDoor.Q
set_option linter.unusedVariables false
set_option linter.unusedSimpArgs false
open Go.RowKit Go.Proofs.YtfebipiccpbdbaaDoor.P Go.Proofs.YtfebipiccpbdbaaDoorW.PrintWords Go.Proofs.YtfebipiccpbdbaaDoorW.PrintLast Go.Proofs.YtfebipiccpbdbaaDoorW.PrintMore

theorem markText_loop (d : Nat) : ∀ (n : Int) (s : ByteArray), 0 ≤ n → n < 10 ^ d → n ≤ 9223372036854775807 → s.size + d + 1 ≤ 9223372036854775807 → ∃ t, Ev (fun k => laws_markText.l0 k n s) t := by
  induction d with
  | zero =>
    intro n s h0 h1 h2 h3
    have hn : n = 0 := by simp at h1; omega
    subst hn
    refine ⟨_, Ev.step (f := fun _ => some ((⟨#[109]⟩ : ByteArray) ++ s)) (fun k => ?_) (Ev.now _)⟩
    simp only [laws_markText.l0]
    rw [if_neg (by omega), if_pos (by omega)]
  | succ d ih =>
    intro n s h0 h1 h2 h3
    by_cases hn : n > 0
    · have hd : Int.tdiv n 10 = n / 10 := Int.tdiv_eq_ediv_of_nonneg h0
      have hq : n / 10 < 10 ^ d := by rw [Int.pow_succ] at h1; omega
      obtain ⟨t, ht⟩ := ih (n / 10) (strOfNums [(wrap64 (48 + (Int.tmod n 10))) % 256] ++ s) (by omega) hq (by omega) (by
        rw [ByteArray.size_append]
        have : (strOfNums [(wrap64 (48 + (Int.tmod n 10))) % 256]).size = 1 := by rfl
        omega)
      refine ⟨t, Ev.step (f := fun k => laws_markText.l0 k (n / 10) (strOfNums [(wrap64 (48 + (Int.tmod n 10))) % 256] ++ s)) (fun k => ?_) ht⟩
      simp only [laws_markText.l0]
      rw [if_pos hn]
      simp only [Option.bind_some]
      rw [if_pos (by have : (strOfNums [(wrap64 (48 + (Int.tmod n 10))) % 256]).size = 1 := by rfl
                     omega), hd, wrap_in (by omega) (by omega)]
    · refine ⟨_, Ev.step (f := fun _ => some ((⟨#[109]⟩ : ByteArray) ++ s)) (fun k => ?_) (Ev.now _)⟩
      simp only [laws_markText.l0]
      rw [if_neg hn, if_pos (by omega)]
theorem markText_some (n : Int) (h : n ≤ 9223372036854775807) : ∃ t, Ev (fun k => laws_markText.f k n) t := by
  unfold laws_markText.f
  by_cases h0 : n ≤ 0
  · simp only [if_pos h0]
    exact ⟨_, Ev.now _⟩
  · simp only [if_neg h0]
    exact markText_loop 19 n ⟨#[]⟩ (by omega) (by omega) h (by decide)
/-- The text of a mark's number. -/
noncomputable def mT (n : Int) : ByteArray := Classical.epsilon fun t => Ev (fun k => laws_markText.f k n) t
theorem mT_ev (n : Int) (h : n ≤ 9223372036854775807) : Ev (fun k => laws_markText.f k n) (mT n) := Classical.epsilon_spec (p := fun t => Ev (fun k => laws_markText.f k n) t) (markText_some n h)

noncomputable def marked (m : Int) : List Fld → List Fld
  | [] => []
  | _ :: xs => ⟨mT m, mT (m + 1)⟩ :: marked (m + 2) xs
theorem marked_length (l : List Fld) : ∀ m, (marked m l).length = l.length := by
  induction l with
  | nil => intro m; rfl
  | cons a l ih => intro m; simp [marked, ih]
theorem marked_get (l : List Fld) : ∀ (m : Int) (i : Nat), i < l.length → (marked m l).getD i z67 = ⟨mT (m + 2 * i), mT (m + 2 * i + 1)⟩ := by
  induction l with
  | nil => intro m i h; simp at h
  | cons a l ih =>
    intro m i h
    cases i with
    | zero => simp [marked]
    | succ i =>
      have := ih (m + 2) i (by simpa using h)
      simp only [marked, List.getD_cons_succ, this]
      rw [show m + 2 + 2 * (i : Int) = m + 2 * ((i + 1 : Nat) : Int) by omega]
theorem set_at {α : Type} (a : List α) (x y : α) (b : List α) : (a ++ x :: b).set a.length y = a ++ y :: b := by simp
theorem markFieldS_ev (l : List Fld) (hl : l.length ≤ 1048576) : Ev (fun k => laws_markFieldS.f k l 1) (1 + 2 * (l.length : Int), marked 1 l) := by
  unfold laws_markFieldS.f
  have key : ∀ (r a : List Fld) (m : Int), (marked 1 l).take a.length = a → l.drop a.length = r → a.length + r.length = l.length → m = 1 + 2 * (a.length : Int) → Ev (fun k => laws_markFieldS.l0 k (a ++ r) m (a.length : Int)) (1 + 2 * (l.length : Int), marked 1 l) := by
    intro r
    induction r with
    | nil =>
      intro a m ha hd hn hm
      rw [List.append_nil]
      have ha2 : a = marked 1 l := by rw [← ha, List.take_of_length_le (by rw [marked_length]; simp at hn; omega)]
      refine ev_eq (r := (m, a)) (Ev.step (f := fun _ => some (m, a)) (fun k => ?_) (Ev.now _)) (by rw [hm, ← ha2]; simp at hn; rw [hn])
      simp only [laws_markFieldS.l0]
      rw [if_neg (by omega)]
    | cons x r ih =>
      intro a m ha hd hn hm
      rw [List.length_cons] at hn
      have hlt : a.length < l.length := by omega
      have ha1 : (marked 1 l).take (a ++ [(⟨mT m, mT (m + 1)⟩ : Fld)]).length = a ++ [(⟨mT m, mT (m + 1)⟩ : Fld)] := by
        have hg := marked_get l 1 a.length hlt
        have hlt2 : a.length < (marked 1 l).length := by rw [marked_length]; exact hlt
        rw [List.getD_eq_getElem?_getD, List.getElem?_eq_getElem hlt2] at hg
        rw [List.length_append, List.length_singleton, List.take_add_one, ha, List.getElem?_eq_getElem hlt2]
        simp only [Option.getD_some] at hg
        rw [hg, hm]
        rfl
      have hd1 : l.drop (a ++ [(⟨mT m, mT (m + 1)⟩ : Fld)]).length = r := by
        rw [List.length_append, List.length_singleton, ← List.drop_drop, hd]
        rfl
      have h2 := ih (a ++ [(⟨mT m, mT (m + 1)⟩ : Fld)]) (m + 2) ha1 hd1 (by rw [List.length_append, List.length_singleton]; omega) (by rw [List.length_append, List.length_singleton]; omega)
      rw [List.append_assoc, List.length_append, List.length_singleton] at h2
      refine Ev.step (f := fun k => (laws_markText.f k m).bind fun t101 => (laws_markText.f k (m + 1)).bind fun t103 => laws_markFieldS.l0 k (a ++ (⟨t101, t103⟩ : Fld) :: r) (m + 2) (((a.length + 1 : Nat) : Int))) (fun k => ?_) (Ev.bind (mT_ev m (by omega)) (Ev.bind (mT_ev (m + 1) (by omega)) h2))
      simp only [laws_markFieldS.l0]
      rw [if_pos (by rw [List.length_append, List.length_cons]; omega)]
      simp only [if_pos (show (0 : Int) ≤ (a.length : Int) by omega)]
      rw [wrap_next hlt (by omega), wrap_in (i := m + 1) (by omega) (by omega), wrap_in (i := m + 1 + 1) (by omega) (by omega)]
      simp only [Option.bind_some, Int.toNat_natCast]
      refine congrArg _ (funext fun t101 => congrArg _ (funext fun t103 => ?_))
      rw [rd_fld, rd_fld, set_at, set_at, List.getD_eq_getElem?_getD]
      simp
      rw [Int.add_assoc]
      rfl
  exact key l [] 1 rfl rfl (by simp) rfl
theorem heldFieldS_ev (l : List Fld) (hl : l.length ≤ 1048576) : Ev (fun k => laws_heldFieldS.f k (marked 1 l) 1) (1 + 2 * (l.length : Int)) := by
  unfold laws_heldFieldS.f
  have key : ∀ (n i : Nat), i + n = l.length → Ev (fun k => laws_heldFieldS.l0 k (marked 1 l) (1 + 2 * (i : Int)) (i : Int)) (1 + 2 * (l.length : Int)) := by
    intro n
    induction n with
    | zero =>
      intro i hi
      obtain rfl : i = l.length := by omega
      refine Ev.step (f := fun _ => some (1 + 2 * (l.length : Int))) (fun k => ?_) (Ev.now _)
      simp only [laws_heldFieldS.l0]
      rw [if_neg (by rw [marked_length]; omega)]
    | succ n ih =>
      intro i hi
      have hlt : i < l.length := by omega
      have h2 := ih (i + 1) (by omega)
      refine Ev.step (f := fun k => (laws_markText.f k (1 + 2 * (i : Int))).bind fun t102 => if (mT (1 + 2 * (i : Int))).toList = t102.toList then (laws_markText.f k (1 + 2 * (i : Int) + 1)).bind fun t104 => if (mT (1 + 2 * (i : Int) + 1)).toList = t104.toList then laws_heldFieldS.l0 k (marked 1 l) (1 + 2 * ((i + 1 : Nat) : Int)) (((i + 1 : Nat) : Int)) else some (-1) else some (-1)) (fun k => ?_) (Ev.bind (mT_ev _ (by omega)) ?_)
      · simp only [laws_heldFieldS.l0]
        rw [if_pos (by rw [marked_length]; omega), if_pos (by omega), rd_fld, marked_get l 1 i hlt, wrap_next hlt (by omega), wrap_in (i := 1 + 2 * (i : Int) + 1) (by omega) (by omega), wrap_in (i := 1 + 2 * (i : Int) + 1 + 1) (by omega) (by omega), show 1 + 2 * (i : Int) + 1 + 1 = 1 + 2 * ((i + 1 : Nat) : Int) by omega]
      · simp only [eq_self, if_true]
        refine Ev.bind (mT_ev _ (by omega)) ?_
        simp only [eq_self, if_true]
        exact h2
  exact key l.length 0 (by omega)
end Go.Proofs.YtfebipiccpbdbaaDoor.Q
/-! ## PimplWith -/
/- Functions of the Go program as Lean functions, and proofs that each Go function comes to its Lean function's answers; conditions: those that each theorem states. Written by this session's program hprint.py, which drives the kit's printer. -/
namespace Go.Proofs.YtfebipiccpbdbaaDoor.P
open Go.RowKit Go.Proofs.YtfebipiccpbdbaaDoorW.PrintWords Go.Proofs.YtfebipiccpbdbaaDoorW.PrintLast Go.Proofs.YtfebipiccpbdbaaDoorW.PrintMore
attribute [local go_sem] max2_int min2_int max_two min_two max_three min_three max_four min_four   -- for this text's walks alone
set_option linter.unusedVariables false
set_option linter.unusedSimpArgs false

/-! ### impl_With: function 25 -/
def impl_With.j0 : Nat → List (S67) → ByteArray → Bool → ByteArray → ByteArray → Option ((List (S67)))
  | 0, _, _, _, _, _ => none
  | k + 1, x0, x1, x19, x102000, x102001 => if x19 = true then (some ([] : List (S67))) else ((impl_without.f x0 (([x1] : List ByteArray))).bind fun t107 => ((some (([(⟨x102000, x102001⟩ : S67)] : List (S67)) : List (S67))).bind fun y110 => (if t107.length + y110.length < 4398046511104 then ((some (t107 ++ y110 : List (S67))).bind fun y113 => (if (y113.length : Int) > 30 then (some ([] : List (S67))) else (some y113))) else (none))))
def impl_With.f (k : Nat) (l0 : List (S67)) (a1 : ByteArray) (a2 : ByteArray) : Option ((List (S67))) := (impl_FieldsOk.f l0).bind fun t102 => (if t102 = true then ((impl_isField.f a1 a2).bind fun t103 => (impl_With.j0 k l0 a1 (!t103) a1 a2)) else (impl_With.j0 k l0 a1 true a1 a2))
theorem impl_With.mono_l : ∀ k, (∀ y0 y1 y2 y3 y4, LeO (impl_With.j0 k y0 y1 y2 y3 y4) (impl_With.j0 (k + 1) y0 y1 y2 y3 y4))
  | 0 => fun _ _ _ _ _ r h => by simp [impl_With.j0] at h
  | k + 1 => by
    have ih0 := impl_With.mono_l k
    · intro y0 y1 y2 y3 y4
      unfold impl_With.j0
      repeat' first
      | (with_reducible exact ih0 _ _ _ _ _)
      | (with_reducible exact LeO.refl _)
      | (with_reducible exact LeO.none _)
      | (with_reducible refine LeO.ite ?_ ?_)
      | (with_reducible refine LeO.bind ?_ (fun _ => ?_))
      | exact ih0 _ _ _ _ _
      | exact LeO.none _
      | refine LeO.ite ?_ ?_
      | refine LeO.bind ?_ (fun _ => ?_)
theorem impl_With.mono : ∀ a0 a1 a2 k, LeO (impl_With.f k a0 a1 a2) (impl_With.f (k + 1) a0 a1 a2) := by
  intro a0 a1 a2 k
  have ih0 := impl_With.mono_l k
  unfold impl_With.f
  repeat' first
      | (with_reducible exact ih0 _ _ _ _ _)
      | (with_reducible exact LeO.refl _)
      | (with_reducible exact LeO.none _)
      | (with_reducible refine LeO.ite ?_ ?_)
      | (with_reducible refine LeO.bind ?_ (fun _ => ?_))
      | exact ih0 _ _ _ _ _
      | exact LeO.none _
      | refine LeO.ite ?_ ?_
      | refine LeO.bind ?_ (fun _ => ?_)
def impl_With.T4 : Bool × List (List Nat × List Nat) := (true, [([], []), ([], []), ([1], [1]), ([0, 2], [0, 2]), ([], []), ([4], [4]), ([3, 5, 3], [3, 5]), ([6, 6, 0, 1, 2, 3, 4, 5, 6], [6])])
def impl_With.B4 : List Nat := [0, 0, 2, 7, 0, 16, 63, 127]
theorem impl_With.tab4 : rtab .any (opsOf Tryd.f25 4) = impl_With.T4 := by kernel_rfl
theorem impl_With.bits4 : waitsOk impl_With.T4.2 impl_With.B4 = true := by kernel_rfl
set_option maxHeartbeats 8000000 in
set_option maxRecDepth 100000 in
theorem impl_With.calls (k : Nat) (A0 : Option Addr) (c0 : Nat) (l0 : List (S67)) (a1 : ByteArray) (a2 : ByteArray) (r : List (S67)) (w : World) (hr0 : Kd.C k67 w A0 l0.length l0) (hc0 : l0.length ≤ c0) (h : impl_With.f k l0 a1 a2 = some r) :
    Calls Tryd.prog 25 #[.slice A0 l0.length c0, .string a1, .string a2] w fun e w' => ∃ v0_ : Value, e = .returned (v0_) ∧ Kd.R k67 67 w' w.heap.size (fun _ => True) v0_ r ∧ Below w.heap.size w w' := by
  have hu67 := Tryd.underlying67
  have HR0 := Aside0.mk hr0
  have HC0 := Aside0.mk hc0
  clear hr0 hc0
  have HB := Aside0.mk (Below.refl w.heap.size w)
  have H : ((impl_FieldsOk.f l0).bind fun t102 => (if t102 = true then ((impl_isField.f a1 a2).bind fun t103 => (impl_With.j0 k l0 a1 (!t103) a1 a2)) else (impl_With.j0 k l0 a1 true a1 a2))) = some r := h
  clear h
  have HC4 := Aside0.mk H
  clear H
  go_enter Tryd.func25, Tryd.ntmps25
  go_upto_region 2 with (first | ((with_reducible refine gate_dst (N := 7) rfl ?_); refine box_event ?hg (N := 7) ?hd (cs := #[.string (⟨#[]⟩ : ByteArray), .string (⟨#[]⟩ : ByteArray)]) (t := 67) ?hr ?_; (case hd => rfl); (case hg => rfl); (case hr => first | (go_simp; done) | (go_simp; rfl)); intro gb101 hg w5 hbox hb; have n0_ := Aside0.mk (below_step (by repeat (first | (with_reducible first | exact HB.out | apply below_alloc | apply pw_below_drewN | apply below_drew1) | exact HB.out)) hb); have n1_ := Aside0.mk (hbox); have n2_ := Aside0.mk ((by rw [hg]; exact (below_size (by repeat (first | (with_reducible first | exact HB.out | apply below_alloc | apply pw_below_drewN | apply below_drew1) | exact HB.out))) : w.heap.size ≤ gb101)); have n3_ := Aside0.mk ((by rw [hg]; exact (below_size (by repeat (first | (with_reducible first | exact HB.out | apply below_alloc | apply pw_below_drewN | apply below_drew1) | exact HB.out))) : w.heap.size ≤ gb101)); clear HB; have HB := n0_; have BK101 := n1_; have GW101 := n2_; have GE101 := n3_; clear n0_ n1_ n2_ n3_; clear hb hbox hg; have hcz6_0 : w5.cell? ⟨gb101, 0, none⟩ = some (.string (⟨#[]⟩ : ByteArray)) := (blk_cell BK101.out 0).trans rfl; have hcz6_1 : w5.cell? ⟨gb101, 1, none⟩ = some (.string (⟨#[]⟩ : ByteArray)) := (blk_cell BK101.out 1).trans rfl; have hfz6_0 := blk_frozen BK101.out 0; have hfz6_1 := blk_frozen BK101.out 1))
  (try simp only [Act.put, List.setIfInBounds_toArray, List.set_cons_zero, List.set_cons_succ])
  go_cut [19] (fun v19 wc => ∃ (kq : Nat) (x19_3 : Bool), v19 = .bool x19_3 ∧ Aside0 (impl_With.j0 kq l0 a1 x19_3 a1 a2 = some r) ∧ Aside0 (kq ≤ k) ∧ Aside0 (wc.heap[gb101]? = some (.cells #[.string a1, .string a2] 67 (0, 0))) ∧ Aside0 (Below w.heap.size w wc))
  case first =>
    have H := HC4.out
    clear HC4
    replace H := Option.bind_eq_some_iff.mp H
    obtain ⟨t102, A70, H⟩ := H
    replace H : (if t102 = true then ((impl_isField.f a1 a2).bind fun t103 => (impl_With.j0 k l0 a1 (!t103) a1 a2)) else (impl_With.j0 k l0 a1 true a1 a2)) = some r := H
    have A7 := Aside0.mk A70
    clear A70
    by_cases c8 : t102 = true
    · subst c8
      have H1 : ((impl_isField.f a1 a2).bind fun t103 => (impl_With.j0 k l0 a1 (!t103) a1 a2)) = some r := by rw [if_pos rfl] at H; exact H
      clear H
      have H := H1
      clear H1
      replace H := Option.bind_eq_some_iff.mp H
      obtain ⟨t103, A90, H⟩ := H
      replace H : (impl_With.j0 k l0 a1 (!t103) a1 a2) = some r := H
      have A9 := Aside0.mk A90
      clear A90
      have H' := Aside0.mk H
      clear H
      go_wp2_with (first | ((with_reducible refine gate_callee (f := 16) rfl ?_); refine goesL_ (some 13) rfl rfl Tryd.func16 (by kernel_rfl) rfl #[.slice A0 l0.length c0] rfl (by (try simp only [List.map_toArray, List.map_cons, List.map_nil]); first | done | rfl | (simp only [List.length_drop, List.length_take]; rfl)) ?_; (with_reducible refine (impl_FieldsOk.calls _ _ l0 true _ ?side1 ?side2 A7.out).mono ?_); (case side1 => exact Kd.C_below HR0.out (by repeat (first | (with_reducible first | exact HB.out | apply below_alloc | apply pw_below_drewN | apply below_drew1 | refine below_set ?_ GE101.out) | exact HB.out))); (case side2 => exact HC0.out); rintro e w10 ⟨rfl, hb⟩; refine ⟨_, rfl, ?_⟩; have n0_ := Aside0.mk (blk_below (g := gb101) (o := .cells #[.string a1, .string a2] 67 (0, 0)) (by (with_reducible repeat (first | refine blk_drewN ?_ _ | refine blk_drew ?_ | refine blk_alloc ?_ _)); refine blk_put (cs := #[.string a1, .string (⟨#[]⟩ : ByteArray)]) ?_ 1 _ rfl; (with_reducible repeat (first | refine blk_drewN ?_ _ | refine blk_drew ?_ | refine blk_alloc ?_ _)); refine blk_put (cs := #[.string (⟨#[]⟩ : ByteArray), .string (⟨#[]⟩ : ByteArray)]) ?_ 0 _ rfl; (with_reducible repeat (first | refine blk_drewN ?_ _ | refine blk_drew ?_ | refine blk_alloc ?_ _)); exact BK101.out) hb); have n1_ := Aside0.mk (below_step (by repeat (first | (with_reducible first | exact HB.out | apply below_alloc | apply pw_below_drewN | apply below_drew1 | refine below_set ?_ GE101.out) | exact HB.out)) hb); clear BK101; clear HB; have BK101 := n0_; have HB := n1_; clear n0_ n1_; (try clear hb); (try clear hb2); (try clear hk); (try clear hi); have hcz11_0 : w10.cell? ⟨gb101, 0, none⟩ = some (.string a1) := (blk_cell BK101.out 0).trans rfl; have hcz11_1 : w10.cell? ⟨gb101, 1, none⟩ = some (.string a2) := (blk_cell BK101.out 1).trans rfl; have hfz11_0 := blk_frozen BK101.out 0; have hfz11_1 := blk_frozen BK101.out 1) | (go_at_call 52; (with_reducible refine (impl_isField.calls a1 a2 t103 _ A9.out).mono ?_); rintro e w12 ⟨rfl, hb⟩; have n0_ := Aside0.mk (blk_below (g := gb101) (o := .cells #[.string a1, .string a2] 67 (0, 0)) (by (with_reducible repeat (first | refine blk_drewN ?_ _ | refine blk_drew ?_ | refine blk_alloc ?_ _)); exact BK101.out) hb); have n1_ := Aside0.mk (below_step (by repeat (first | (with_reducible first | exact HB.out | apply below_alloc | apply pw_below_drewN | apply below_drew1 | refine below_set ?_ GE101.out) | exact HB.out)) hb); clear BK101; clear HB; have BK101 := n0_; have HB := n1_; clear n0_ n1_; (try clear hb); (try clear hb2); (try clear hk); (try clear hi)))
      go_meet
      case rel => exact ⟨_, (!t103), (by first | rfl | (simp; done) | (simp [*]; done)), H', ⟨by first | omega | exact Nat.le_refl _⟩, ⟨by (with_reducible repeat (first | refine blk_drewN ?_ _ | refine blk_drew ?_ | refine blk_alloc ?_ _)); exact BK101.out⟩, ⟨by repeat (first | (with_reducible first | exact HB.out | apply below_alloc | apply pw_below_drewN | apply below_drew1 | refine below_set ?_ GE101.out) | exact HB.out)⟩⟩
    · replace c8 := Bool.eq_false_iff.mpr c8
      subst c8
      have H1 : (impl_With.j0 k l0 a1 true a1 a2) = some r := by rw [if_neg (show ¬ (false = true) by decide)] at H; exact H
      clear H
      have H := H1
      clear H1
      have H' := Aside0.mk H
      clear H
      go_wp2_with (first | ((with_reducible refine gate_callee (f := 16) rfl ?_); refine goesL_ (some 13) rfl rfl Tryd.func16 (by kernel_rfl) rfl #[.slice A0 l0.length c0] rfl (by (try simp only [List.map_toArray, List.map_cons, List.map_nil]); first | done | rfl | (simp only [List.length_drop, List.length_take]; rfl)) ?_; (with_reducible refine (impl_FieldsOk.calls _ _ l0 false _ ?side1 ?side2 A7.out).mono ?_); (case side1 => exact Kd.C_below HR0.out (by repeat (first | (with_reducible first | exact HB.out | apply below_alloc | apply pw_below_drewN | apply below_drew1 | refine below_set ?_ GE101.out) | exact HB.out))); (case side2 => exact HC0.out); rintro e w13 ⟨rfl, hb⟩; refine ⟨_, rfl, ?_⟩; have n0_ := Aside0.mk (blk_below (g := gb101) (o := .cells #[.string a1, .string a2] 67 (0, 0)) (by (with_reducible repeat (first | refine blk_drewN ?_ _ | refine blk_drew ?_ | refine blk_alloc ?_ _)); refine blk_put (cs := #[.string a1, .string (⟨#[]⟩ : ByteArray)]) ?_ 1 _ rfl; (with_reducible repeat (first | refine blk_drewN ?_ _ | refine blk_drew ?_ | refine blk_alloc ?_ _)); refine blk_put (cs := #[.string (⟨#[]⟩ : ByteArray), .string (⟨#[]⟩ : ByteArray)]) ?_ 0 _ rfl; (with_reducible repeat (first | refine blk_drewN ?_ _ | refine blk_drew ?_ | refine blk_alloc ?_ _)); exact BK101.out) hb); have n1_ := Aside0.mk (below_step (by repeat (first | (with_reducible first | exact HB.out | apply below_alloc | apply pw_below_drewN | apply below_drew1 | refine below_set ?_ GE101.out) | exact HB.out)) hb); clear BK101; clear HB; have BK101 := n0_; have HB := n1_; clear n0_ n1_; (try clear hb); (try clear hb2); (try clear hk); (try clear hi)))
      go_meet
      case rel => exact ⟨_, (true), (by first | rfl | (simp; done) | (simp [*]; done)), H', ⟨by first | omega | exact Nat.le_refl _⟩, ⟨by (with_reducible repeat (first | refine blk_drewN ?_ _ | refine blk_drew ?_ | refine blk_alloc ?_ _)); exact BK101.out⟩, ⟨by repeat (first | (with_reducible first | exact HB.out | apply below_alloc | apply pw_below_drewN | apply below_drew1 | refine below_set ?_ GE101.out) | exact HB.out)⟩⟩
  case rest =>
    clear HC4
    try clear c1
    try clear c2
    try clear p2
    try clear c8
    try clear hcz11_0
    try clear hcz11_1
    try clear hcz6_0
    try clear hcz6_1
    try clear hfz11_0
    try clear hfz11_1
    try clear hfz6_0
    try clear hfz6_1
    obtain ⟨kq, x19_3, rfl, HA, HJ3, BK101, HB⟩ := hcut
    cases kq with
    | zero => exact absurd HA.out (by simp [impl_With.j0])
    | succ kj3 =>
      have H := HA.out
      clear HA
      simp only [impl_With.j0] at H
      by_cases c14 : x19_3 = true
      · subst c14
        have H1 : (some ([] : List (S67))) = some r := by rw [if_pos rfl] at H; exact H
        clear H
        have H := H1
        clear H1
        obtain rfl := Option.some.inj H
        go_wp2
        go_ret
        exact ⟨_, by first | rfl | (simp [errW_none, errW_some] <;> rfl) | (simp [*, errW_none, errW_some] <;> rfl), by first | exact Kd.R_nil _ _ _ _ _ | exact Kd.N_nil _ _ _ _ _ | exact Kd.V_nil _ _ _ _ _ | exact Kd.Q_nil _ _ _ _ _ | exact Kd.S_nil _ _ _ _ _, by repeat (first | (with_reducible first | exact HB.out | apply below_alloc | apply pw_below_drewN | apply below_drew1 | refine below_set ?_ GE101.out) | exact HB.out)⟩
      · replace c14 := Bool.eq_false_iff.mpr c14
        subst c14
        have H1 : ((impl_without.f l0 (([a1] : List ByteArray))).bind fun t107 => ((some (([(⟨a1, a2⟩ : S67)] : List (S67)) : List (S67))).bind fun y110 => (if t107.length + y110.length < 4398046511104 then ((some (t107 ++ y110 : List (S67))).bind fun y113 => (if (y113.length : Int) > 30 then (some ([] : List (S67))) else (some y113))) else (none)))) = some r := by rw [if_neg (show ¬ (false = true) by decide)] at H; exact H
        clear H
        have H := H1
        clear H1
        obtain ⟨y104, hy104⟩ : ∃ y_ : List ByteArray, y_ = (([a1] : List ByteArray)) := ⟨_, rfl⟩
        replace H : ((impl_without.f l0 y104).bind fun t107 => ((some (([(⟨a1, a2⟩ : S67)] : List (S67)) : List (S67))).bind fun y110 => (if t107.length + y110.length < 4398046511104 then ((some (t107 ++ y110 : List (S67))).bind fun y113 => (if (y113.length : Int) > 30 then (some ([] : List (S67))) else (some y113))) else (none)))) = some r := by first | (rw [hy104]; with_reducible exact H) | (have H2_ := (Option.bind_some _ _).symm.trans H; rw [hy104]; with_reducible exact H2_) | (have H2_ := (Option.bind_some _ _).symm.trans H; with_reducible exact H2_) | with_reducible exact H | (rw [hy104]; exact H) | exact H
        have Ny104 := Aside0.mk hy104
        clear hy104
        replace H := Option.bind_eq_some_iff.mp H
        obtain ⟨t107, A150, H⟩ := H
        replace H : ((some (([(⟨a1, a2⟩ : S67)] : List (S67)) : List (S67))).bind fun y110 => (if t107.length + y110.length < 4398046511104 then ((some (t107 ++ y110 : List (S67))).bind fun y113 => (if (y113.length : Int) > 30 then (some ([] : List (S67))) else (some y113))) else (none))) = some r := H
        have A15 := Aside0.mk A150
        clear A150
        obtain ⟨y110, hy110⟩ : ∃ y_ : List (S67), y_ = (([(⟨a1, a2⟩ : S67)] : List (S67))) := ⟨_, rfl⟩
        replace H : (if t107.length + y110.length < 4398046511104 then ((some (t107 ++ y110 : List (S67))).bind fun y113 => (if (y113.length : Int) > 30 then (some ([] : List (S67))) else (some y113))) else (none)) = some r := by first | (rw [hy110]; with_reducible exact H) | (have H2_ := (Option.bind_some _ _).symm.trans H; rw [hy110]; with_reducible exact H2_) | (have H2_ := (Option.bind_some _ _).symm.trans H; with_reducible exact H2_) | with_reducible exact H | (rw [hy110]; exact H) | exact H
        have Ny110 := Aside0.mk hy110
        clear hy110
        by_cases c16 : t107.length + y110.length < 4398046511104
        · rw [if_pos c16] at H
          have LMc16 := Aside0.mk c16
          clear c16
          obtain ⟨y113, hy113⟩ : ∃ y_ : List (S67), y_ = (t107 ++ y110) := ⟨_, rfl⟩
          replace H : (if (y113.length : Int) > 30 then (some ([] : List (S67))) else (some y113)) = some r := by first | (rw [hy113]; with_reducible exact H) | (have H2_ := (Option.bind_some _ _).symm.trans H; rw [hy113]; with_reducible exact H2_) | (have H2_ := (Option.bind_some _ _).symm.trans H; with_reducible exact H2_) | with_reducible exact H | (rw [hy113]; exact H) | exact H
          have Ny113 := Aside0.mk hy113
          clear hy113
          by_cases c17 : (y113.length : Int) > 30
          · rw [if_pos c17] at H
            have c17b0 : decide (30 < (y113.length : Int)) = true := decide_eq_true c17
            have c17b1 : decide (30 < y113.length) = true := decide_eq_true (by omega)
            clear c17
            obtain rfl := Option.some.inj H
            try go_wp2
            have n0_ := Aside0.mk (blk_drew BK101.out)
            have n1_ := Aside0.mk (below_drew1 HB.out)
            clear BK101
            clear HB
            have BK101 := n0_
            have HB := n1_
            clear n0_ n1_
            refine start_ (n := 8) (S := fun w' => w'.cell? ⟨gb101, 0, none⟩ = some (.string a1) ∧ w'.cell? ⟨gb101, 1, none⟩ = some (.string a2)) (ds := []) #[false, false, false, false, false, false, false, false] (by kernel_rfl) rfl rfl ⟨(blk_cell BK101.out 0).trans rfl, (blk_cell BK101.out 1).trans rfl⟩ (fun hHeld => ?_); refine with_tabW impl_With.tab4 impl_With.bits4 (fun HT_ HW_ => ?_)
            generalize wc.drew = w18 at BK101 HB hHeld ⊢
            refine pure_ (i := 0) (N := some 20) (v := ?_) (a' := ?_) #[true, false, false, false, false, false, false, false] rfl rfl (any_of HT_.out (by kernel_rfl)) (fun _ _ _ h => h) (Or.inl ⟨by rfl, ?_⟩) ?_ ?_
            rotate_left
            · intro w'
              go_simp
              with_reducible rfl
            rotate_left
            · simp only [Act.put, List.setIfInBounds_toArray, List.set_cons_zero, List.set_cons_succ, i64_w, i32_w]
              rfl
            refine pure_ (i := 1) (N := some 21) (v := ?_) (a' := ?_) #[true, true, false, false, false, false, false, false] rfl rfl (any_of HT_.out (by kernel_rfl)) (fun _ _ _ h => h) (Or.inl ⟨by rfl, ?_⟩) ?_ ?_
            rotate_left
            · intro w'
              go_simp
              with_reducible rfl
            rotate_left
            · simp only [Act.put, List.setIfInBounds_toArray, List.set_cons_zero, List.set_cons_succ, i64_w, i32_w]
              rfl
            refine take_ (i := 4) (N := some 24) (v := ?_) (a' := ?_) #[true, true, false, false, true, false, false, false] rfl rfl (take_ofW HT_.out HW_.out (by kernel_rfl)) (fun _ _ _ h => h) (Or.inl ⟨by rfl, ?_⟩) hHeld ?_ ?_
            rotate_left
            · rintro w' ⟨s0, s1⟩
              go_simp
              with_reducible rfl
            rotate_left
            · simp only [Act.put, List.setIfInBounds_toArray, List.set_cons_zero, List.set_cons_succ, i64_w, i32_w]
              rfl
            refine join_ (σ := Value × Value × Value) 2 #[true, true, true, true, true, true, false, false] (fun s_ => [(22, s_.1), (23, s_.2.1), (25, s_.2.2)]) (fun s_ w' => (w'.cell? ⟨gb101, 0, none⟩ = some (.string a1) ∧ w'.cell? ⟨gb101, 1, none⟩ = some (.string a2)) ∧ (Kd.R Kd.string 9 w' w.heap.size (fun _ => True) s_.1 y104) ∧ (Kd.R k67 67 w' w.heap.size (fun k_ => some k_ ≠ (s_.2.2 : Value).ownBlock ∧ k_ ≠ gb101) s_.2.1 t107) ∧ (Kd.R k67 67 w' w.heap.size (fun k_ => some k_ ≠ (s_.2.1 : Value).ownBlock ∧ k_ ≠ gb101) s_.2.2 y110) ∧ (w'.heap[gb101]? = some (.cells #[.string a1, .string a2] 67 (0, 0))) ∧ (Below w.heap.size w w')) ?_ ?_
            rotate_left
            · intro hCont
              refine two_ (i := 2) (j := 5) (Ni := some 22) (Nj := some 25) #[true, true, true, false, true, false, false, false] #[true, true, false, false, true, true, false, false] rfl rfl rfl rfl (two_of HT_.out (by kernel_rfl)) (by decide) (by decide) (fun K hK => ?_) (fun K hK => ?_)
              · skip
                refine Kd.R_lit_step Kd.string _ 9 ?hg (N := 22) ?hd (xs := ([a1] : List ByteArray)) (inner := [.string a1]) (ok := fun _ => True) (okp := fun _ => True) ?hr ?hp (fun _ hk => hk) trivial (Below.refl _ _) (Nat.le_refl _) (by simp) ?_; (case hd => rfl); (case hg => rfl); (case hr => first | (go_simp; done) | (go_simp; rfl)); (case hp => exact (Reps.one (show Kd.M Kd.string _ _ _ a1 [.string a1] from rfl) (Reps.none _ _)))
                intro v105 w19 ho20 hb hg_ hnew_
                clear hg_ hnew_
                (first | rw [← Ny104.out] at ho20 | (simp only [Int.reduceToNat] at ho20; rw [← Ny104.out] at ho20))
                have n0_ := Aside0.mk (Kd.R_lower ho20 (below_size (by repeat (first | (with_reducible first | exact HB.out | apply below_alloc | apply pw_below_drewN | apply below_drew1 | refine below_set ?_ GE101.out) | exact HB.out))))
                have n1_ := Aside0.mk (blk_below (g := gb101) (o := .cells #[.string a1, .string a2] 67 (0, 0)) (by (with_reducible repeat (first | refine blk_drewN ?_ _ | refine blk_drew ?_ | refine blk_alloc ?_ _)); exact BK101.out) hb)
                have n2_ := Aside0.mk (below_step (by repeat (first | (with_reducible first | exact HB.out | apply below_alloc | apply pw_below_drewN | apply below_drew1 | refine below_set ?_ GE101.out) | exact HB.out)) hb)
                clear BK101
                clear HB
                have HO106 := n0_
                have BK101 := n1_
                have HB := n2_
                clear n0_ n1_ n2_
                clear hb ho20
                obtain ⟨Ao21, co21, eo21⟩ := Kd.R_slice HO106.out
                (first | subst eo21 | (injection eo21 with f1_ f2_ f3_; have f4_ := f1_.symm; have f5_ := f3_.symm; clear f1_ f2_ f3_; subst f4_; subst f5_))
                refine hK.out _ _ ⟨(blk_cell BK101.out 0).trans rfl, (blk_cell BK101.out 1).trans rfl⟩ (fun hHeld => ?_)
                clear hK K
                refine norm_ (a' := ?_) ?_ ?_
                rotate_left
                · show Act.put _ (some 22) _ = _
                  simp only [Act.put, List.setIfInBounds_toArray, List.set_cons_zero, List.set_cons_succ, i64_w, i32_w]
                  rfl
                refine two_ (i := 3) (j := 5) (Ni := some 23) (Nj := some 25) #[true, true, true, true, true, false, false, false] #[true, true, true, false, true, true, false, false] rfl rfl rfl rfl (two_of HT_.out (by kernel_rfl)) (by decide) (by decide) (fun K hK => ?_) (fun K hK => ?_)
                · skip
                  refine goes_ Tryd.func59 (by kernel_rfl) rfl #[.slice A0 l0.length c0, .slice Ao21 y104.length co21] (by rfl) rfl rfl (by (try simp only [List.map_toArray, List.map_cons, List.map_nil]); first | done | rfl | (simp only [List.length_drop, List.length_take]; rfl)) ?_
                  with_reducible refine (impl_without.calls _ _ l0 _ _ y104 t107 _ ?side1 ?side2 ?side3 ?side4 A15.out).mono ?_
                  (case side1 => repeat (first | exact (Kd.C_below HR0.out HB.out) | (with_reducible refine Kd.C_alloc ?_ _) | (with_reducible refine Kd.C_drewN ?_ _) | (with_reducible refine Kd.C_drew ?_)))
                  (case side2 => exact HC0.out)
                  (case side3 => repeat (first | exact (Kd.R_reads' HO106.out).2.2 | (with_reducible refine Kd.C_alloc ?_ _) | (with_reducible refine Kd.C_drewN ?_ _) | (with_reducible refine Kd.C_drew ?_)))
                  (case side4 => exact (Kd.R_reads' HO106.out).2.1)
                  rintro e w22 ⟨v108, rfl, ho0, hb⟩
                  refine ⟨_, rfl, ?_⟩
                  have n0_ := Aside0.mk (Kd.R_below (by (with_reducible repeat (first | apply Kd.R_alloc | apply Kd.R_drewN | apply Kd.R_drew)); exact HO106.out) hb)
                  have n1_ := Aside0.mk (Kd.R_lower (Kd.R_newB ho0 (g := gb101) (o := .cells #[.string a1, .string a2] 67 (0, 0)) (by (with_reducible repeat (first | refine blk_drewN ?_ _ | refine blk_drew ?_ | refine blk_alloc ?_ _)); exact BK101.out)) (below_size (by repeat (first | (with_reducible first | exact HB.out | apply below_alloc | apply pw_below_drewN | apply below_drew1 | refine below_set ?_ GE101.out) | exact HB.out))))
                  have n2_ := Aside0.mk (blk_below (g := gb101) (o := .cells #[.string a1, .string a2] 67 (0, 0)) (by (with_reducible repeat (first | refine blk_drewN ?_ _ | refine blk_drew ?_ | refine blk_alloc ?_ _)); exact BK101.out) hb)
                  have n3_ := Aside0.mk (below_step (by repeat (first | (with_reducible first | exact HB.out | apply below_alloc | apply pw_below_drewN | apply below_drew1 | refine below_set ?_ GE101.out) | exact HB.out)) hb)
                  clear HO106
                  clear BK101
                  clear HB
                  have HO106 := n0_
                  have HO109 := n1_
                  have BK101 := n2_
                  have HB := n3_
                  clear n0_ n1_ n2_ n3_
                  (try clear hb)
                  (try clear hb2)
                  (try clear hk)
                  (try clear hi)
                  (try clear ho0)
                  refine hK.out _ _ ⟨(blk_cell BK101.out 0).trans rfl, (blk_cell BK101.out 1).trans rfl⟩ (fun hHeld => ?_)
                  clear hK K
                  refine norm_ (a' := ?_) ?_ ?_
                  rotate_left
                  · show Act.put _ (some 23) _ = _
                    simp only [Act.put, List.setIfInBounds_toArray, List.set_cons_zero, List.set_cons_succ, i64_w, i32_w]
                    rfl
                  refine one_ (i := 5) (N := some 25) #[true, true, true, true, true, true, false, false] rfl rfl (one_of HT_.out (by kernel_rfl)) (by decide) (fun K hK => ?_)
                  refine Kd.R_lit_step k67 _ 67 ?hg (N := 25) ?hd (xs := ([(⟨a1, a2⟩ : S67)] : List (S67))) (inner := [.string a1, .string a2]) (ok := fun _ => True) (okp := fun _ => True) ?hr ?hp (fun _ hk => hk) trivial (Below.refl _ _) (Nat.le_refl _) (by simp) ?_; (case hd => rfl); (case hg => rfl); (case hr => first | (go_simp; done) | (go_simp; rfl)); (case hp => exact (Reps.c2 (show Kd.M k67 _ _ _ (⟨a1, a2⟩ : S67) [.string a1, .string a2] from (k67_mkM _ _ _ (⟨a1, a2⟩ : S67) )) (Reps.none _ _)))
                  intro v111 w23 ho24 hb hg_ hnew_
                  clear hg_ hnew_
                  (first | rw [← Ny110.out] at ho24 | (simp only [Int.reduceToNat] at ho24; rw [← Ny110.out] at ho24))
                  have n0_ := Aside0.mk (Kd.R_below (by (with_reducible repeat (first | apply Kd.R_alloc | apply Kd.R_drewN | apply Kd.R_drew)); exact HO106.out) hb)
                  have n1_ := Aside0.mk (Kd.R_elder' (by (with_reducible repeat (first | apply Kd.R_alloc | apply Kd.R_drewN | apply Kd.R_drew)); exact HO109.out) (Kd.R_base ho24) hb)
                  have n2_ := Aside0.mk (Kd.R_lower (Kd.R_newB (Kd.R_new' ho24 (Kd.R_lt (by (with_reducible repeat (first | apply Kd.R_alloc | apply Kd.R_drewN | apply Kd.R_drew)); exact HO109.out))) (g := gb101) (o := .cells #[.string a1, .string a2] 67 (0, 0)) (by (with_reducible repeat (first | refine blk_drewN ?_ _ | refine blk_drew ?_ | refine blk_alloc ?_ _)); exact BK101.out)) (below_size (by repeat (first | (with_reducible first | exact HB.out | apply below_alloc | apply pw_below_drewN | apply below_drew1 | refine below_set ?_ GE101.out) | exact HB.out))))
                  have n3_ := Aside0.mk (blk_below (g := gb101) (o := .cells #[.string a1, .string a2] 67 (0, 0)) (by (with_reducible repeat (first | refine blk_drewN ?_ _ | refine blk_drew ?_ | refine blk_alloc ?_ _)); exact BK101.out) hb)
                  have n4_ := Aside0.mk (below_step (by repeat (first | (with_reducible first | exact HB.out | apply below_alloc | apply pw_below_drewN | apply below_drew1 | refine below_set ?_ GE101.out) | exact HB.out)) hb)
                  clear HO106
                  clear HO109
                  clear BK101
                  clear HB
                  have HO106 := n0_
                  have HO109 := n1_
                  have HO112 := n2_
                  have BK101 := n3_
                  have HB := n4_
                  clear n0_ n1_ n2_ n3_ n4_
                  clear hb ho24
                  refine hK.out _ _ ⟨(blk_cell BK101.out 0).trans rfl, (blk_cell BK101.out 1).trans rfl⟩ (fun hHeld => ?_)
                  clear hK K
                  refine norm_ (a' := ?_) ?_ ?_
                  rotate_left
                  · show Act.put _ (some 25) _ = _
                    simp only [Act.put, List.setIfInBounds_toArray, List.set_cons_zero, List.set_cons_succ, i64_w, i32_w]
                    rfl
                  exact norm_ (by simp only [putAll, Act.put, List.setIfInBounds_toArray, List.set_cons_zero, List.set_cons_succ]) (hCont (.slice Ao21 y104.length co21, v108, v111) _ ⟨hHeld, (by (with_reducible repeat (first | apply Kd.R_alloc | apply Kd.R_drewN | apply Kd.R_drew)); exact HO106.out), (by (with_reducible repeat (first | apply Kd.R_alloc | apply Kd.R_drewN | apply Kd.R_drew)); exact Kd.R_mono HO109.out (fun _ hk => ⟨hk.2, hk.1.2⟩)), (by (with_reducible repeat (first | apply Kd.R_alloc | apply Kd.R_drewN | apply Kd.R_drew)); exact Kd.R_mono HO112.out (fun _ hk => ⟨hk.1.2, hk.2⟩)), (by (with_reducible repeat (first | refine blk_drewN ?_ _ | refine blk_drew ?_ | refine blk_alloc ?_ _)); exact BK101.out), (by repeat (first | (with_reducible first | exact HB.out | apply below_alloc | apply pw_below_drewN | apply below_drew1 | refine below_set ?_ GE101.out) | exact HB.out))⟩)
                · skip
                  refine Kd.R_lit_step k67 _ 67 ?hg (N := 25) ?hd (xs := ([(⟨a1, a2⟩ : S67)] : List (S67))) (inner := [.string a1, .string a2]) (ok := fun _ => True) (okp := fun _ => True) ?hr ?hp (fun _ hk => hk) trivial (Below.refl _ _) (Nat.le_refl _) (by simp) ?_; (case hd => rfl); (case hg => rfl); (case hr => first | (go_simp; done) | (go_simp; rfl)); (case hp => exact (Reps.c2 (show Kd.M k67 _ _ _ (⟨a1, a2⟩ : S67) [.string a1, .string a2] from (k67_mkM _ _ _ (⟨a1, a2⟩ : S67) )) (Reps.none _ _)))
                  intro v111 w21 ho22 hb hg_ hnew_
                  clear hg_ hnew_
                  (first | rw [← Ny110.out] at ho22 | (simp only [Int.reduceToNat] at ho22; rw [← Ny110.out] at ho22))
                  have n0_ := Aside0.mk (Kd.R_below (by (with_reducible repeat (first | apply Kd.R_alloc | apply Kd.R_drewN | apply Kd.R_drew)); exact HO106.out) hb)
                  have n1_ := Aside0.mk (Kd.R_lower (Kd.R_newB ho22 (g := gb101) (o := .cells #[.string a1, .string a2] 67 (0, 0)) (by (with_reducible repeat (first | refine blk_drewN ?_ _ | refine blk_drew ?_ | refine blk_alloc ?_ _)); exact BK101.out)) (below_size (by repeat (first | (with_reducible first | exact HB.out | apply below_alloc | apply pw_below_drewN | apply below_drew1 | refine below_set ?_ GE101.out) | exact HB.out))))
                  have n2_ := Aside0.mk (blk_below (g := gb101) (o := .cells #[.string a1, .string a2] 67 (0, 0)) (by (with_reducible repeat (first | refine blk_drewN ?_ _ | refine blk_drew ?_ | refine blk_alloc ?_ _)); exact BK101.out) hb)
                  have n3_ := Aside0.mk (below_step (by repeat (first | (with_reducible first | exact HB.out | apply below_alloc | apply pw_below_drewN | apply below_drew1 | refine below_set ?_ GE101.out) | exact HB.out)) hb)
                  clear HO106
                  clear BK101
                  clear HB
                  have HO106 := n0_
                  have HO112 := n1_
                  have BK101 := n2_
                  have HB := n3_
                  clear n0_ n1_ n2_ n3_
                  clear hb ho22
                  obtain ⟨Ao23, co23, eo23⟩ := Kd.R_slice HO106.out
                  (first | subst eo23 | (injection eo23 with f1_ f2_ f3_; have f4_ := f1_.symm; have f5_ := f3_.symm; clear f1_ f2_ f3_; subst f4_; subst f5_))
                  refine hK.out _ _ ⟨(blk_cell BK101.out 0).trans rfl, (blk_cell BK101.out 1).trans rfl⟩ (fun hHeld => ?_)
                  clear hK K
                  refine norm_ (a' := ?_) ?_ ?_
                  rotate_left
                  · show Act.put _ (some 25) _ = _
                    simp only [Act.put, List.setIfInBounds_toArray, List.set_cons_zero, List.set_cons_succ, i64_w, i32_w]
                    rfl
                  refine one_ (i := 3) (N := some 23) #[true, true, true, true, true, true, false, false] rfl rfl (one_of HT_.out (by kernel_rfl)) (by decide) (fun K hK => ?_)
                  refine goes_ Tryd.func59 (by kernel_rfl) rfl #[.slice A0 l0.length c0, .slice Ao23 y104.length co23] (by rfl) rfl rfl (by (try simp only [List.map_toArray, List.map_cons, List.map_nil]); first | done | rfl | (simp only [List.length_drop, List.length_take]; rfl)) ?_
                  with_reducible refine (impl_without.calls _ _ l0 _ _ y104 t107 _ ?side1 ?side2 ?side3 ?side4 A15.out).mono ?_
                  (case side1 => repeat (first | exact (Kd.C_below HR0.out HB.out) | (with_reducible refine Kd.C_alloc ?_ _) | (with_reducible refine Kd.C_drewN ?_ _) | (with_reducible refine Kd.C_drew ?_)))
                  (case side2 => exact HC0.out)
                  (case side3 => repeat (first | exact (Kd.R_reads' HO106.out).2.2 | (with_reducible refine Kd.C_alloc ?_ _) | (with_reducible refine Kd.C_drewN ?_ _) | (with_reducible refine Kd.C_drew ?_)))
                  (case side4 => exact (Kd.R_reads' HO106.out).2.1)
                  rintro e w24 ⟨v108, rfl, ho0, hb⟩
                  refine ⟨_, rfl, ?_⟩
                  have n0_ := Aside0.mk (Kd.R_below (by (with_reducible repeat (first | apply Kd.R_alloc | apply Kd.R_drewN | apply Kd.R_drew)); exact HO106.out) hb)
                  have n1_ := Aside0.mk (Kd.R_elder' (by (with_reducible repeat (first | apply Kd.R_alloc | apply Kd.R_drewN | apply Kd.R_drew)); exact HO112.out) (Kd.R_base ho0) hb)
                  have n2_ := Aside0.mk (Kd.R_lower (Kd.R_newB (Kd.R_new' ho0 (Kd.R_lt (by (with_reducible repeat (first | apply Kd.R_alloc | apply Kd.R_drewN | apply Kd.R_drew)); exact HO112.out))) (g := gb101) (o := .cells #[.string a1, .string a2] 67 (0, 0)) (by (with_reducible repeat (first | refine blk_drewN ?_ _ | refine blk_drew ?_ | refine blk_alloc ?_ _)); exact BK101.out)) (below_size (by repeat (first | (with_reducible first | exact HB.out | apply below_alloc | apply pw_below_drewN | apply below_drew1 | refine below_set ?_ GE101.out) | exact HB.out))))
                  have n3_ := Aside0.mk (blk_below (g := gb101) (o := .cells #[.string a1, .string a2] 67 (0, 0)) (by (with_reducible repeat (first | refine blk_drewN ?_ _ | refine blk_drew ?_ | refine blk_alloc ?_ _)); exact BK101.out) hb)
                  have n4_ := Aside0.mk (below_step (by repeat (first | (with_reducible first | exact HB.out | apply below_alloc | apply pw_below_drewN | apply below_drew1 | refine below_set ?_ GE101.out) | exact HB.out)) hb)
                  clear HO106
                  clear HO112
                  clear BK101
                  clear HB
                  have HO106 := n0_
                  have HO112 := n1_
                  have HO109 := n2_
                  have BK101 := n3_
                  have HB := n4_
                  clear n0_ n1_ n2_ n3_ n4_
                  (try clear hb)
                  (try clear hb2)
                  (try clear hk)
                  (try clear hi)
                  (try clear ho0)
                  refine hK.out _ _ ⟨(blk_cell BK101.out 0).trans rfl, (blk_cell BK101.out 1).trans rfl⟩ (fun hHeld => ?_)
                  clear hK K
                  refine norm_ (a' := ?_) ?_ ?_
                  rotate_left
                  · show Act.put _ (some 23) _ = _
                    simp only [Act.put, List.setIfInBounds_toArray, List.set_cons_zero, List.set_cons_succ, i64_w, i32_w]
                    rfl
                  exact norm_ (by simp only [putAll, Act.put, List.setIfInBounds_toArray, List.set_cons_zero, List.set_cons_succ]) (hCont (.slice Ao23 y104.length co23, v108, v111) _ ⟨hHeld, (by (with_reducible repeat (first | apply Kd.R_alloc | apply Kd.R_drewN | apply Kd.R_drew)); exact HO106.out), (by (with_reducible repeat (first | apply Kd.R_alloc | apply Kd.R_drewN | apply Kd.R_drew)); exact Kd.R_mono HO109.out (fun _ hk => ⟨hk.1.2, hk.2⟩)), (by (with_reducible repeat (first | apply Kd.R_alloc | apply Kd.R_drewN | apply Kd.R_drew)); exact Kd.R_mono HO112.out (fun _ hk => ⟨hk.2, hk.1.2⟩)), (by (with_reducible repeat (first | refine blk_drewN ?_ _ | refine blk_drew ?_ | refine blk_alloc ?_ _)); exact BK101.out), (by repeat (first | (with_reducible first | exact HB.out | apply below_alloc | apply pw_below_drewN | apply below_drew1 | refine below_set ?_ GE101.out) | exact HB.out))⟩)
              · skip
                refine Kd.R_lit_step k67 _ 67 ?hg (N := 25) ?hd (xs := ([(⟨a1, a2⟩ : S67)] : List (S67))) (inner := [.string a1, .string a2]) (ok := fun _ => True) (okp := fun _ => True) ?hr ?hp (fun _ hk => hk) trivial (Below.refl _ _) (Nat.le_refl _) (by simp) ?_; (case hd => rfl); (case hg => rfl); (case hr => first | (go_simp; done) | (go_simp; rfl)); (case hp => exact (Reps.c2 (show Kd.M k67 _ _ _ (⟨a1, a2⟩ : S67) [.string a1, .string a2] from (k67_mkM _ _ _ (⟨a1, a2⟩ : S67) )) (Reps.none _ _)))
                intro v111 w19 ho20 hb hg_ hnew_
                clear hg_ hnew_
                (first | rw [← Ny110.out] at ho20 | (simp only [Int.reduceToNat] at ho20; rw [← Ny110.out] at ho20))
                have n0_ := Aside0.mk (Kd.R_lower (Kd.R_newB ho20 (g := gb101) (o := .cells #[.string a1, .string a2] 67 (0, 0)) (by (with_reducible repeat (first | refine blk_drewN ?_ _ | refine blk_drew ?_ | refine blk_alloc ?_ _)); exact BK101.out)) (below_size (by repeat (first | (with_reducible first | exact HB.out | apply below_alloc | apply pw_below_drewN | apply below_drew1 | refine below_set ?_ GE101.out) | exact HB.out))))
                have n1_ := Aside0.mk (blk_below (g := gb101) (o := .cells #[.string a1, .string a2] 67 (0, 0)) (by (with_reducible repeat (first | refine blk_drewN ?_ _ | refine blk_drew ?_ | refine blk_alloc ?_ _)); exact BK101.out) hb)
                have n2_ := Aside0.mk (below_step (by repeat (first | (with_reducible first | exact HB.out | apply below_alloc | apply pw_below_drewN | apply below_drew1 | refine below_set ?_ GE101.out) | exact HB.out)) hb)
                clear BK101
                clear HB
                have HO112 := n0_
                have BK101 := n1_
                have HB := n2_
                clear n0_ n1_ n2_
                clear hb ho20
                refine hK.out _ _ ⟨(blk_cell BK101.out 0).trans rfl, (blk_cell BK101.out 1).trans rfl⟩ (fun hHeld => ?_)
                clear hK K
                refine norm_ (a' := ?_) ?_ ?_
                rotate_left
                · show Act.put _ (some 25) _ = _
                  simp only [Act.put, List.setIfInBounds_toArray, List.set_cons_zero, List.set_cons_succ, i64_w, i32_w]
                  rfl
                refine one_ (i := 2) (N := some 22) #[true, true, true, false, true, true, false, false] rfl rfl (one_of HT_.out (by kernel_rfl)) (by decide) (fun K hK => ?_)
                refine Kd.R_lit_step Kd.string _ 9 ?hg (N := 22) ?hd (xs := ([a1] : List ByteArray)) (inner := [.string a1]) (ok := fun _ => True) (okp := fun _ => True) ?hr ?hp (fun _ hk => hk) trivial (Below.refl _ _) (Nat.le_refl _) (by simp) ?_; (case hd => rfl); (case hg => rfl); (case hr => first | (go_simp; done) | (go_simp; rfl)); (case hp => exact (Reps.one (show Kd.M Kd.string _ _ _ a1 [.string a1] from rfl) (Reps.none _ _)))
                intro v105 w21 ho22 hb hg_ hnew_
                clear hg_ hnew_
                (first | rw [← Ny104.out] at ho22 | (simp only [Int.reduceToNat] at ho22; rw [← Ny104.out] at ho22))
                have n0_ := Aside0.mk (Kd.R_below (by (with_reducible repeat (first | apply Kd.R_alloc | apply Kd.R_drewN | apply Kd.R_drew)); exact HO112.out) hb)
                have n1_ := Aside0.mk (Kd.R_lower ho22 (below_size (by repeat (first | (with_reducible first | exact HB.out | apply below_alloc | apply pw_below_drewN | apply below_drew1 | refine below_set ?_ GE101.out) | exact HB.out))))
                have n2_ := Aside0.mk (blk_below (g := gb101) (o := .cells #[.string a1, .string a2] 67 (0, 0)) (by (with_reducible repeat (first | refine blk_drewN ?_ _ | refine blk_drew ?_ | refine blk_alloc ?_ _)); exact BK101.out) hb)
                have n3_ := Aside0.mk (below_step (by repeat (first | (with_reducible first | exact HB.out | apply below_alloc | apply pw_below_drewN | apply below_drew1 | refine below_set ?_ GE101.out) | exact HB.out)) hb)
                clear HO112
                clear BK101
                clear HB
                have HO112 := n0_
                have HO106 := n1_
                have BK101 := n2_
                have HB := n3_
                clear n0_ n1_ n2_ n3_
                clear hb ho22
                obtain ⟨Ao23, co23, eo23⟩ := Kd.R_slice HO106.out
                (first | subst eo23 | (injection eo23 with f1_ f2_ f3_; have f4_ := f1_.symm; have f5_ := f3_.symm; clear f1_ f2_ f3_; subst f4_; subst f5_))
                refine hK.out _ _ ⟨(blk_cell BK101.out 0).trans rfl, (blk_cell BK101.out 1).trans rfl⟩ (fun hHeld => ?_)
                clear hK K
                refine norm_ (a' := ?_) ?_ ?_
                rotate_left
                · show Act.put _ (some 22) _ = _
                  simp only [Act.put, List.setIfInBounds_toArray, List.set_cons_zero, List.set_cons_succ, i64_w, i32_w]
                  rfl
                refine one_ (i := 3) (N := some 23) #[true, true, true, true, true, true, false, false] rfl rfl (one_of HT_.out (by kernel_rfl)) (by decide) (fun K hK => ?_)
                refine goes_ Tryd.func59 (by kernel_rfl) rfl #[.slice A0 l0.length c0, .slice Ao23 y104.length co23] (by rfl) rfl rfl (by (try simp only [List.map_toArray, List.map_cons, List.map_nil]); first | done | rfl | (simp only [List.length_drop, List.length_take]; rfl)) ?_
                with_reducible refine (impl_without.calls _ _ l0 _ _ y104 t107 _ ?side1 ?side2 ?side3 ?side4 A15.out).mono ?_
                (case side1 => repeat (first | exact (Kd.C_below HR0.out HB.out) | (with_reducible refine Kd.C_alloc ?_ _) | (with_reducible refine Kd.C_drewN ?_ _) | (with_reducible refine Kd.C_drew ?_)))
                (case side2 => exact HC0.out)
                (case side3 => repeat (first | exact (Kd.R_reads' HO106.out).2.2 | (with_reducible refine Kd.C_alloc ?_ _) | (with_reducible refine Kd.C_drewN ?_ _) | (with_reducible refine Kd.C_drew ?_)))
                (case side4 => exact (Kd.R_reads' HO106.out).2.1)
                rintro e w24 ⟨v108, rfl, ho0, hb⟩
                refine ⟨_, rfl, ?_⟩
                have n0_ := Aside0.mk (Kd.R_elder' (by (with_reducible repeat (first | apply Kd.R_alloc | apply Kd.R_drewN | apply Kd.R_drew)); exact HO112.out) (Kd.R_base ho0) hb)
                have n1_ := Aside0.mk (Kd.R_below (by (with_reducible repeat (first | apply Kd.R_alloc | apply Kd.R_drewN | apply Kd.R_drew)); exact HO106.out) hb)
                have n2_ := Aside0.mk (Kd.R_lower (Kd.R_newB (Kd.R_new' ho0 (Kd.R_lt (by (with_reducible repeat (first | apply Kd.R_alloc | apply Kd.R_drewN | apply Kd.R_drew)); exact HO112.out))) (g := gb101) (o := .cells #[.string a1, .string a2] 67 (0, 0)) (by (with_reducible repeat (first | refine blk_drewN ?_ _ | refine blk_drew ?_ | refine blk_alloc ?_ _)); exact BK101.out)) (below_size (by repeat (first | (with_reducible first | exact HB.out | apply below_alloc | apply pw_below_drewN | apply below_drew1 | refine below_set ?_ GE101.out) | exact HB.out))))
                have n3_ := Aside0.mk (blk_below (g := gb101) (o := .cells #[.string a1, .string a2] 67 (0, 0)) (by (with_reducible repeat (first | refine blk_drewN ?_ _ | refine blk_drew ?_ | refine blk_alloc ?_ _)); exact BK101.out) hb)
                have n4_ := Aside0.mk (below_step (by repeat (first | (with_reducible first | exact HB.out | apply below_alloc | apply pw_below_drewN | apply below_drew1 | refine below_set ?_ GE101.out) | exact HB.out)) hb)
                clear HO112
                clear HO106
                clear BK101
                clear HB
                have HO112 := n0_
                have HO106 := n1_
                have HO109 := n2_
                have BK101 := n3_
                have HB := n4_
                clear n0_ n1_ n2_ n3_ n4_
                (try clear hb)
                (try clear hb2)
                (try clear hk)
                (try clear hi)
                (try clear ho0)
                refine hK.out _ _ ⟨(blk_cell BK101.out 0).trans rfl, (blk_cell BK101.out 1).trans rfl⟩ (fun hHeld => ?_)
                clear hK K
                refine norm_ (a' := ?_) ?_ ?_
                rotate_left
                · show Act.put _ (some 23) _ = _
                  simp only [Act.put, List.setIfInBounds_toArray, List.set_cons_zero, List.set_cons_succ, i64_w, i32_w]
                  rfl
                exact norm_ (by simp only [putAll, Act.put, List.setIfInBounds_toArray, List.set_cons_zero, List.set_cons_succ]) (hCont (.slice Ao23 y104.length co23, v108, v111) _ ⟨hHeld, (by (with_reducible repeat (first | apply Kd.R_alloc | apply Kd.R_drewN | apply Kd.R_drew)); exact HO106.out), (by (with_reducible repeat (first | apply Kd.R_alloc | apply Kd.R_drewN | apply Kd.R_drew)); exact Kd.R_mono HO109.out (fun _ hk => ⟨hk.1.2, hk.2⟩)), (by (with_reducible repeat (first | apply Kd.R_alloc | apply Kd.R_drewN | apply Kd.R_drew)); exact Kd.R_mono HO112.out (fun _ hk => ⟨hk.2, hk.1.2⟩)), (by (with_reducible repeat (first | refine blk_drewN ?_ _ | refine blk_drew ?_ | refine blk_alloc ?_ _)); exact BK101.out), (by repeat (first | (with_reducible first | exact HB.out | apply below_alloc | apply pw_below_drewN | apply below_drew1 | refine below_set ?_ GE101.out) | exact HB.out))⟩)
            rintro ⟨v105, v108, v111⟩ w25 ⟨hS_, h0_, h1_, h2_, h3_, h4_⟩
            have n0_ : Aside0 (Kd.R Kd.string 9 w25 w.heap.size (fun _ => True) v105 y104) := ⟨h0_⟩
            have n1_ : Aside0 (Kd.R k67 67 w25 w.heap.size (fun k_ => some k_ ≠ (v111 : Value).ownBlock ∧ k_ ≠ gb101) v108 t107) := ⟨h1_⟩
            have n2_ : Aside0 (Kd.R k67 67 w25 w.heap.size (fun k_ => some k_ ≠ (v108 : Value).ownBlock ∧ k_ ≠ gb101) v111 y110) := ⟨h2_⟩
            have n3_ : Aside0 (w25.heap[gb101]? = some (.cells #[.string a1, .string a2] 67 (0, 0))) := ⟨h3_⟩
            have n4_ : Aside0 (Below w.heap.size w w25) := ⟨h4_⟩
            clear BK101
            clear HB
            clear h0_ h1_ h2_ h3_ h4_
            have HO106 := n0_
            have HO109 := n1_
            have HO112 := n2_
            have BK101 := n3_
            have HB := n4_
            clear n0_ n1_ n2_ n3_ n4_
            have hHeld : w25.cell? ⟨gb101, 0, none⟩ = some (.string a1) ∧ w25.cell? ⟨gb101, 1, none⟩ = some (.string a2) := hS_
            obtain ⟨Ao27, co27, eo27⟩ := Kd.R_slice HO112.out
            (first | subst eo27 | (injection eo27 with f1_ f2_ f3_; have f4_ := f1_.symm; have f5_ := f3_.symm; clear f1_ f2_ f3_; subst f4_; subst f5_))
            refine norm_ (a' := ?_) ?_ ?_
            rotate_left
            · simp only [putAll, Act.put, List.setIfInBounds_toArray, List.set_cons_zero, List.set_cons_succ]
              rfl
            refine one_ (i := 6) (N := some 26) #[true, true, true, true, true, true, true, false] rfl rfl (one_of HT_.out (by kernel_rfl)) (by decide) (fun K hK => ?_)
            refine Kd.R_append_rows_step k67 (w0 := w) w.heap.size (by rfl) (.tmp 23) (.tmp 25) 25 67 (.agg #[(.string ⟨#[]⟩), (.string ⟨#[]⟩)]) 32 rfl Tryd.underlying25 info67 rfl (by decide) (by omega) v108 t107 y110 _ _ _ (fun k_ => some k_ ≠ (.slice Ao27 y110.length co27 : Value).ownBlock ∧ k_ ≠ gb101) (fun _ => False) rfl rfl ?aO ?aR (fun _ _ h => h) (fun _ h => h.elim) ?aF ?aB ?aS ?aL ?_
            (case aR => repeat (first | exact (Kd.R_reads' HO112.out).2.2 | (with_reducible refine Kd.C_alloc ?_ _) | (with_reducible refine Kd.C_drewN ?_ _) | (with_reducible refine Kd.C_drew ?_)))
            (case aB => exact (by repeat (first | (with_reducible first | exact HB.out | apply below_alloc | apply pw_below_drewN | apply below_drew1 | refine below_set ?_ GE101.out) | exact HB.out)))
            (case aF => exact (fun k_ hk => ⟨Kd.fresh' (Kd.R_lt (by (with_reducible repeat (first | apply Kd.R_alloc | apply Kd.R_drewN | apply Kd.R_drew)); exact HO112.out)) k_ hk, Kd.freshB (g := gb101) (o := .cells #[.string a1, .string a2] 67 (0, 0)) (by (with_reducible repeat (first | refine blk_drewN ?_ _ | refine blk_drew ?_ | refine blk_alloc ?_ _)); exact BK101.out) k_ hk⟩))
            (case aO => exact (by (with_reducible repeat (first | apply Kd.R_alloc | apply Kd.R_drewN | apply Kd.R_drew)); exact HO109.out))
            (case aS => exact (below_size (by repeat (first | (with_reducible first | exact HB.out | apply below_alloc | apply pw_below_drewN | apply below_drew1 | refine below_set ?_ GE101.out) | exact HB.out))))
            (case aL => have := LMc16.out; omega)
            intro v114 w26 ho hb hg hat
            rw [← Ny113.out] at ho
            have n0_ := Aside0.mk (blk_grown (g := gb101) (o := .cells #[.string a1, .string a2] 67 (0, 0)) (by (with_reducible repeat (first | refine blk_drewN ?_ _ | refine blk_drew ?_ | refine blk_alloc ?_ _)); exact BK101.out) hg (Kd.R_away HO109.out (fun _ hk => hk.2)))
            have n1_ := Aside0.mk (Kd.R_over' (by (with_reducible repeat (first | apply Kd.R_alloc | apply Kd.R_drewN | apply Kd.R_drew)); exact HO106.out) (Kd.R_typed (by (with_reducible repeat (first | apply Kd.R_alloc | apply Kd.R_drewN | apply Kd.R_drew)); exact HO109.out)) (by decide) hg)
            have n2_ := Aside0.mk (Kd.R_after (ok := (fun k_ => k_ ≠ gb101)) (by (with_reducible repeat (first | apply Kd.R_alloc | apply Kd.R_drewN | apply Kd.R_drew)); exact Kd.R_mono HO112.out (fun _ hk => ⟨hk.2, hk.1⟩)) hg hat)
            have n3_ := Aside0.mk (hb)
            have n4_ := Aside0.mk (ho)
            clear BK101
            clear HO106
            clear HO112
            clear HB
            clear HO109
            have BK101 := n0_
            have HO106 := n1_
            have HO112 := n2_
            have HB := n3_
            have HO115 := n4_
            clear n0_ n1_ n2_ n3_ n4_
            clear ho hb hg hat
            refine hK.out _ _ ⟨(blk_cell BK101.out 0).trans rfl, (blk_cell BK101.out 1).trans rfl⟩ (fun hHeld => ?_)
            clear hK K
            refine norm_ (a' := ?_) ?_ ?_
            rotate_left
            · show Act.put _ (some 26) _ = _
              simp only [Act.put, List.setIfInBounds_toArray, List.set_cons_zero, List.set_cons_succ, i64_w, i32_w]
              rfl
            refine pure_ (i := 7) (N := some 8) (v := ?_) (a' := ?_) #[true, true, true, true, true, true, true, true] rfl rfl (any_of HT_.out (by kernel_rfl)) (fun _ _ _ h => h) (Or.inl ⟨by rfl, ?_⟩) ?_ ?_
            rotate_left
            · intro w'
              go_simp
              with_reducible rfl
            rotate_left
            · simp only [Act.put, List.setIfInBounds_toArray, List.set_cons_zero, List.set_cons_succ, i64_w, i32_w]
              rfl
            refine done_ (done_of HT_.out (by kernel_rfl)) ?_
            obtain ⟨Ao28, co28, eo28⟩ := Kd.R_slice HO115.out
            subst eo28
            try go_wp2
            go_ret
            exact ⟨_, by first | rfl | (simp [errW_none, errW_some] <;> rfl) | (simp [*, errW_none, errW_some] <;> rfl), by first | exact Kd.R_nil _ _ _ _ _ | exact Kd.N_nil _ _ _ _ _ | exact Kd.V_nil _ _ _ _ _ | exact Kd.Q_nil _ _ _ _ _ | exact Kd.S_nil _ _ _ _ _, by repeat (first | (with_reducible first | exact HB.out | apply below_alloc | apply pw_below_drewN | apply below_drew1 | refine below_set ?_ GE101.out) | exact HB.out)⟩
          · rw [if_neg c17] at H
            have c17b0 : decide (30 < (y113.length : Int)) = false := decide_eq_false c17
            have c17b1 : decide (30 < y113.length) = false := decide_eq_false (by omega)
            clear c17
            obtain rfl := Option.some.inj H
            try go_wp2
            have n0_ := Aside0.mk (blk_drew BK101.out)
            have n1_ := Aside0.mk (below_drew1 HB.out)
            clear BK101
            clear HB
            have BK101 := n0_
            have HB := n1_
            clear n0_ n1_
            refine start_ (n := 8) (S := fun w' => w'.cell? ⟨gb101, 0, none⟩ = some (.string a1) ∧ w'.cell? ⟨gb101, 1, none⟩ = some (.string a2)) (ds := []) #[false, false, false, false, false, false, false, false] (by kernel_rfl) rfl rfl ⟨(blk_cell BK101.out 0).trans rfl, (blk_cell BK101.out 1).trans rfl⟩ (fun hHeld => ?_); refine with_tabW impl_With.tab4 impl_With.bits4 (fun HT_ HW_ => ?_)
            generalize wc.drew = w29 at BK101 HB hHeld ⊢
            refine pure_ (i := 0) (N := some 20) (v := ?_) (a' := ?_) #[true, false, false, false, false, false, false, false] rfl rfl (any_of HT_.out (by kernel_rfl)) (fun _ _ _ h => h) (Or.inl ⟨by rfl, ?_⟩) ?_ ?_
            rotate_left
            · intro w'
              go_simp
              with_reducible rfl
            rotate_left
            · simp only [Act.put, List.setIfInBounds_toArray, List.set_cons_zero, List.set_cons_succ, i64_w, i32_w]
              rfl
            refine pure_ (i := 1) (N := some 21) (v := ?_) (a' := ?_) #[true, true, false, false, false, false, false, false] rfl rfl (any_of HT_.out (by kernel_rfl)) (fun _ _ _ h => h) (Or.inl ⟨by rfl, ?_⟩) ?_ ?_
            rotate_left
            · intro w'
              go_simp
              with_reducible rfl
            rotate_left
            · simp only [Act.put, List.setIfInBounds_toArray, List.set_cons_zero, List.set_cons_succ, i64_w, i32_w]
              rfl
            refine take_ (i := 4) (N := some 24) (v := ?_) (a' := ?_) #[true, true, false, false, true, false, false, false] rfl rfl (take_ofW HT_.out HW_.out (by kernel_rfl)) (fun _ _ _ h => h) (Or.inl ⟨by rfl, ?_⟩) hHeld ?_ ?_
            rotate_left
            · rintro w' ⟨s0, s1⟩
              go_simp
              with_reducible rfl
            rotate_left
            · simp only [Act.put, List.setIfInBounds_toArray, List.set_cons_zero, List.set_cons_succ, i64_w, i32_w]
              rfl
            refine join_ (σ := Value × Value × Value) 2 #[true, true, true, true, true, true, false, false] (fun s_ => [(22, s_.1), (23, s_.2.1), (25, s_.2.2)]) (fun s_ w' => (w'.cell? ⟨gb101, 0, none⟩ = some (.string a1) ∧ w'.cell? ⟨gb101, 1, none⟩ = some (.string a2)) ∧ (Kd.R Kd.string 9 w' w.heap.size (fun _ => True) s_.1 y104) ∧ (Kd.R k67 67 w' w.heap.size (fun k_ => some k_ ≠ (s_.2.2 : Value).ownBlock ∧ k_ ≠ gb101) s_.2.1 t107) ∧ (Kd.R k67 67 w' w.heap.size (fun k_ => some k_ ≠ (s_.2.1 : Value).ownBlock ∧ k_ ≠ gb101) s_.2.2 y110) ∧ (w'.heap[gb101]? = some (.cells #[.string a1, .string a2] 67 (0, 0))) ∧ (Below w.heap.size w w')) ?_ ?_
            rotate_left
            · intro hCont
              refine two_ (i := 2) (j := 5) (Ni := some 22) (Nj := some 25) #[true, true, true, false, true, false, false, false] #[true, true, false, false, true, true, false, false] rfl rfl rfl rfl (two_of HT_.out (by kernel_rfl)) (by decide) (by decide) (fun K hK => ?_) (fun K hK => ?_)
              · skip
                refine Kd.R_lit_step Kd.string _ 9 ?hg (N := 22) ?hd (xs := ([a1] : List ByteArray)) (inner := [.string a1]) (ok := fun _ => True) (okp := fun _ => True) ?hr ?hp (fun _ hk => hk) trivial (Below.refl _ _) (Nat.le_refl _) (by simp) ?_; (case hd => rfl); (case hg => rfl); (case hr => first | (go_simp; done) | (go_simp; rfl)); (case hp => exact (Reps.one (show Kd.M Kd.string _ _ _ a1 [.string a1] from rfl) (Reps.none _ _)))
                intro v105 w30 ho31 hb hg_ hnew_
                clear hg_ hnew_
                (first | rw [← Ny104.out] at ho31 | (simp only [Int.reduceToNat] at ho31; rw [← Ny104.out] at ho31))
                have n0_ := Aside0.mk (Kd.R_lower ho31 (below_size (by repeat (first | (with_reducible first | exact HB.out | apply below_alloc | apply pw_below_drewN | apply below_drew1 | refine below_set ?_ GE101.out) | exact HB.out))))
                have n1_ := Aside0.mk (blk_below (g := gb101) (o := .cells #[.string a1, .string a2] 67 (0, 0)) (by (with_reducible repeat (first | refine blk_drewN ?_ _ | refine blk_drew ?_ | refine blk_alloc ?_ _)); exact BK101.out) hb)
                have n2_ := Aside0.mk (below_step (by repeat (first | (with_reducible first | exact HB.out | apply below_alloc | apply pw_below_drewN | apply below_drew1 | refine below_set ?_ GE101.out) | exact HB.out)) hb)
                clear BK101
                clear HB
                have HO106 := n0_
                have BK101 := n1_
                have HB := n2_
                clear n0_ n1_ n2_
                clear hb ho31
                obtain ⟨Ao32, co32, eo32⟩ := Kd.R_slice HO106.out
                (first | subst eo32 | (injection eo32 with f1_ f2_ f3_; have f4_ := f1_.symm; have f5_ := f3_.symm; clear f1_ f2_ f3_; subst f4_; subst f5_))
                refine hK.out _ _ ⟨(blk_cell BK101.out 0).trans rfl, (blk_cell BK101.out 1).trans rfl⟩ (fun hHeld => ?_)
                clear hK K
                refine norm_ (a' := ?_) ?_ ?_
                rotate_left
                · show Act.put _ (some 22) _ = _
                  simp only [Act.put, List.setIfInBounds_toArray, List.set_cons_zero, List.set_cons_succ, i64_w, i32_w]
                  rfl
                refine two_ (i := 3) (j := 5) (Ni := some 23) (Nj := some 25) #[true, true, true, true, true, false, false, false] #[true, true, true, false, true, true, false, false] rfl rfl rfl rfl (two_of HT_.out (by kernel_rfl)) (by decide) (by decide) (fun K hK => ?_) (fun K hK => ?_)
                · skip
                  refine goes_ Tryd.func59 (by kernel_rfl) rfl #[.slice A0 l0.length c0, .slice Ao32 y104.length co32] (by rfl) rfl rfl (by (try simp only [List.map_toArray, List.map_cons, List.map_nil]); first | done | rfl | (simp only [List.length_drop, List.length_take]; rfl)) ?_
                  with_reducible refine (impl_without.calls _ _ l0 _ _ y104 t107 _ ?side1 ?side2 ?side3 ?side4 A15.out).mono ?_
                  (case side1 => repeat (first | exact (Kd.C_below HR0.out HB.out) | (with_reducible refine Kd.C_alloc ?_ _) | (with_reducible refine Kd.C_drewN ?_ _) | (with_reducible refine Kd.C_drew ?_)))
                  (case side2 => exact HC0.out)
                  (case side3 => repeat (first | exact (Kd.R_reads' HO106.out).2.2 | (with_reducible refine Kd.C_alloc ?_ _) | (with_reducible refine Kd.C_drewN ?_ _) | (with_reducible refine Kd.C_drew ?_)))
                  (case side4 => exact (Kd.R_reads' HO106.out).2.1)
                  rintro e w33 ⟨v108, rfl, ho0, hb⟩
                  refine ⟨_, rfl, ?_⟩
                  have n0_ := Aside0.mk (Kd.R_below (by (with_reducible repeat (first | apply Kd.R_alloc | apply Kd.R_drewN | apply Kd.R_drew)); exact HO106.out) hb)
                  have n1_ := Aside0.mk (Kd.R_lower (Kd.R_newB ho0 (g := gb101) (o := .cells #[.string a1, .string a2] 67 (0, 0)) (by (with_reducible repeat (first | refine blk_drewN ?_ _ | refine blk_drew ?_ | refine blk_alloc ?_ _)); exact BK101.out)) (below_size (by repeat (first | (with_reducible first | exact HB.out | apply below_alloc | apply pw_below_drewN | apply below_drew1 | refine below_set ?_ GE101.out) | exact HB.out))))
                  have n2_ := Aside0.mk (blk_below (g := gb101) (o := .cells #[.string a1, .string a2] 67 (0, 0)) (by (with_reducible repeat (first | refine blk_drewN ?_ _ | refine blk_drew ?_ | refine blk_alloc ?_ _)); exact BK101.out) hb)
                  have n3_ := Aside0.mk (below_step (by repeat (first | (with_reducible first | exact HB.out | apply below_alloc | apply pw_below_drewN | apply below_drew1 | refine below_set ?_ GE101.out) | exact HB.out)) hb)
                  clear HO106
                  clear BK101
                  clear HB
                  have HO106 := n0_
                  have HO109 := n1_
                  have BK101 := n2_
                  have HB := n3_
                  clear n0_ n1_ n2_ n3_
                  (try clear hb)
                  (try clear hb2)
                  (try clear hk)
                  (try clear hi)
                  (try clear ho0)
                  refine hK.out _ _ ⟨(blk_cell BK101.out 0).trans rfl, (blk_cell BK101.out 1).trans rfl⟩ (fun hHeld => ?_)
                  clear hK K
                  refine norm_ (a' := ?_) ?_ ?_
                  rotate_left
                  · show Act.put _ (some 23) _ = _
                    simp only [Act.put, List.setIfInBounds_toArray, List.set_cons_zero, List.set_cons_succ, i64_w, i32_w]
                    rfl
                  refine one_ (i := 5) (N := some 25) #[true, true, true, true, true, true, false, false] rfl rfl (one_of HT_.out (by kernel_rfl)) (by decide) (fun K hK => ?_)
                  refine Kd.R_lit_step k67 _ 67 ?hg (N := 25) ?hd (xs := ([(⟨a1, a2⟩ : S67)] : List (S67))) (inner := [.string a1, .string a2]) (ok := fun _ => True) (okp := fun _ => True) ?hr ?hp (fun _ hk => hk) trivial (Below.refl _ _) (Nat.le_refl _) (by simp) ?_; (case hd => rfl); (case hg => rfl); (case hr => first | (go_simp; done) | (go_simp; rfl)); (case hp => exact (Reps.c2 (show Kd.M k67 _ _ _ (⟨a1, a2⟩ : S67) [.string a1, .string a2] from (k67_mkM _ _ _ (⟨a1, a2⟩ : S67) )) (Reps.none _ _)))
                  intro v111 w34 ho35 hb hg_ hnew_
                  clear hg_ hnew_
                  (first | rw [← Ny110.out] at ho35 | (simp only [Int.reduceToNat] at ho35; rw [← Ny110.out] at ho35))
                  have n0_ := Aside0.mk (Kd.R_below (by (with_reducible repeat (first | apply Kd.R_alloc | apply Kd.R_drewN | apply Kd.R_drew)); exact HO106.out) hb)
                  have n1_ := Aside0.mk (Kd.R_elder' (by (with_reducible repeat (first | apply Kd.R_alloc | apply Kd.R_drewN | apply Kd.R_drew)); exact HO109.out) (Kd.R_base ho35) hb)
                  have n2_ := Aside0.mk (Kd.R_lower (Kd.R_newB (Kd.R_new' ho35 (Kd.R_lt (by (with_reducible repeat (first | apply Kd.R_alloc | apply Kd.R_drewN | apply Kd.R_drew)); exact HO109.out))) (g := gb101) (o := .cells #[.string a1, .string a2] 67 (0, 0)) (by (with_reducible repeat (first | refine blk_drewN ?_ _ | refine blk_drew ?_ | refine blk_alloc ?_ _)); exact BK101.out)) (below_size (by repeat (first | (with_reducible first | exact HB.out | apply below_alloc | apply pw_below_drewN | apply below_drew1 | refine below_set ?_ GE101.out) | exact HB.out))))
                  have n3_ := Aside0.mk (blk_below (g := gb101) (o := .cells #[.string a1, .string a2] 67 (0, 0)) (by (with_reducible repeat (first | refine blk_drewN ?_ _ | refine blk_drew ?_ | refine blk_alloc ?_ _)); exact BK101.out) hb)
                  have n4_ := Aside0.mk (below_step (by repeat (first | (with_reducible first | exact HB.out | apply below_alloc | apply pw_below_drewN | apply below_drew1 | refine below_set ?_ GE101.out) | exact HB.out)) hb)
                  clear HO106
                  clear HO109
                  clear BK101
                  clear HB
                  have HO106 := n0_
                  have HO109 := n1_
                  have HO112 := n2_
                  have BK101 := n3_
                  have HB := n4_
                  clear n0_ n1_ n2_ n3_ n4_
                  clear hb ho35
                  refine hK.out _ _ ⟨(blk_cell BK101.out 0).trans rfl, (blk_cell BK101.out 1).trans rfl⟩ (fun hHeld => ?_)
                  clear hK K
                  refine norm_ (a' := ?_) ?_ ?_
                  rotate_left
                  · show Act.put _ (some 25) _ = _
                    simp only [Act.put, List.setIfInBounds_toArray, List.set_cons_zero, List.set_cons_succ, i64_w, i32_w]
                    rfl
                  exact norm_ (by simp only [putAll, Act.put, List.setIfInBounds_toArray, List.set_cons_zero, List.set_cons_succ]) (hCont (.slice Ao32 y104.length co32, v108, v111) _ ⟨hHeld, (by (with_reducible repeat (first | apply Kd.R_alloc | apply Kd.R_drewN | apply Kd.R_drew)); exact HO106.out), (by (with_reducible repeat (first | apply Kd.R_alloc | apply Kd.R_drewN | apply Kd.R_drew)); exact Kd.R_mono HO109.out (fun _ hk => ⟨hk.2, hk.1.2⟩)), (by (with_reducible repeat (first | apply Kd.R_alloc | apply Kd.R_drewN | apply Kd.R_drew)); exact Kd.R_mono HO112.out (fun _ hk => ⟨hk.1.2, hk.2⟩)), (by (with_reducible repeat (first | refine blk_drewN ?_ _ | refine blk_drew ?_ | refine blk_alloc ?_ _)); exact BK101.out), (by repeat (first | (with_reducible first | exact HB.out | apply below_alloc | apply pw_below_drewN | apply below_drew1 | refine below_set ?_ GE101.out) | exact HB.out))⟩)
                · skip
                  refine Kd.R_lit_step k67 _ 67 ?hg (N := 25) ?hd (xs := ([(⟨a1, a2⟩ : S67)] : List (S67))) (inner := [.string a1, .string a2]) (ok := fun _ => True) (okp := fun _ => True) ?hr ?hp (fun _ hk => hk) trivial (Below.refl _ _) (Nat.le_refl _) (by simp) ?_; (case hd => rfl); (case hg => rfl); (case hr => first | (go_simp; done) | (go_simp; rfl)); (case hp => exact (Reps.c2 (show Kd.M k67 _ _ _ (⟨a1, a2⟩ : S67) [.string a1, .string a2] from (k67_mkM _ _ _ (⟨a1, a2⟩ : S67) )) (Reps.none _ _)))
                  intro v111 w32 ho33 hb hg_ hnew_
                  clear hg_ hnew_
                  (first | rw [← Ny110.out] at ho33 | (simp only [Int.reduceToNat] at ho33; rw [← Ny110.out] at ho33))
                  have n0_ := Aside0.mk (Kd.R_below (by (with_reducible repeat (first | apply Kd.R_alloc | apply Kd.R_drewN | apply Kd.R_drew)); exact HO106.out) hb)
                  have n1_ := Aside0.mk (Kd.R_lower (Kd.R_newB ho33 (g := gb101) (o := .cells #[.string a1, .string a2] 67 (0, 0)) (by (with_reducible repeat (first | refine blk_drewN ?_ _ | refine blk_drew ?_ | refine blk_alloc ?_ _)); exact BK101.out)) (below_size (by repeat (first | (with_reducible first | exact HB.out | apply below_alloc | apply pw_below_drewN | apply below_drew1 | refine below_set ?_ GE101.out) | exact HB.out))))
                  have n2_ := Aside0.mk (blk_below (g := gb101) (o := .cells #[.string a1, .string a2] 67 (0, 0)) (by (with_reducible repeat (first | refine blk_drewN ?_ _ | refine blk_drew ?_ | refine blk_alloc ?_ _)); exact BK101.out) hb)
                  have n3_ := Aside0.mk (below_step (by repeat (first | (with_reducible first | exact HB.out | apply below_alloc | apply pw_below_drewN | apply below_drew1 | refine below_set ?_ GE101.out) | exact HB.out)) hb)
                  clear HO106
                  clear BK101
                  clear HB
                  have HO106 := n0_
                  have HO112 := n1_
                  have BK101 := n2_
                  have HB := n3_
                  clear n0_ n1_ n2_ n3_
                  clear hb ho33
                  obtain ⟨Ao34, co34, eo34⟩ := Kd.R_slice HO106.out
                  (first | subst eo34 | (injection eo34 with f1_ f2_ f3_; have f4_ := f1_.symm; have f5_ := f3_.symm; clear f1_ f2_ f3_; subst f4_; subst f5_))
                  refine hK.out _ _ ⟨(blk_cell BK101.out 0).trans rfl, (blk_cell BK101.out 1).trans rfl⟩ (fun hHeld => ?_)
                  clear hK K
                  refine norm_ (a' := ?_) ?_ ?_
                  rotate_left
                  · show Act.put _ (some 25) _ = _
                    simp only [Act.put, List.setIfInBounds_toArray, List.set_cons_zero, List.set_cons_succ, i64_w, i32_w]
                    rfl
                  refine one_ (i := 3) (N := some 23) #[true, true, true, true, true, true, false, false] rfl rfl (one_of HT_.out (by kernel_rfl)) (by decide) (fun K hK => ?_)
                  refine goes_ Tryd.func59 (by kernel_rfl) rfl #[.slice A0 l0.length c0, .slice Ao34 y104.length co34] (by rfl) rfl rfl (by (try simp only [List.map_toArray, List.map_cons, List.map_nil]); first | done | rfl | (simp only [List.length_drop, List.length_take]; rfl)) ?_
                  with_reducible refine (impl_without.calls _ _ l0 _ _ y104 t107 _ ?side1 ?side2 ?side3 ?side4 A15.out).mono ?_
                  (case side1 => repeat (first | exact (Kd.C_below HR0.out HB.out) | (with_reducible refine Kd.C_alloc ?_ _) | (with_reducible refine Kd.C_drewN ?_ _) | (with_reducible refine Kd.C_drew ?_)))
                  (case side2 => exact HC0.out)
                  (case side3 => repeat (first | exact (Kd.R_reads' HO106.out).2.2 | (with_reducible refine Kd.C_alloc ?_ _) | (with_reducible refine Kd.C_drewN ?_ _) | (with_reducible refine Kd.C_drew ?_)))
                  (case side4 => exact (Kd.R_reads' HO106.out).2.1)
                  rintro e w35 ⟨v108, rfl, ho0, hb⟩
                  refine ⟨_, rfl, ?_⟩
                  have n0_ := Aside0.mk (Kd.R_below (by (with_reducible repeat (first | apply Kd.R_alloc | apply Kd.R_drewN | apply Kd.R_drew)); exact HO106.out) hb)
                  have n1_ := Aside0.mk (Kd.R_elder' (by (with_reducible repeat (first | apply Kd.R_alloc | apply Kd.R_drewN | apply Kd.R_drew)); exact HO112.out) (Kd.R_base ho0) hb)
                  have n2_ := Aside0.mk (Kd.R_lower (Kd.R_newB (Kd.R_new' ho0 (Kd.R_lt (by (with_reducible repeat (first | apply Kd.R_alloc | apply Kd.R_drewN | apply Kd.R_drew)); exact HO112.out))) (g := gb101) (o := .cells #[.string a1, .string a2] 67 (0, 0)) (by (with_reducible repeat (first | refine blk_drewN ?_ _ | refine blk_drew ?_ | refine blk_alloc ?_ _)); exact BK101.out)) (below_size (by repeat (first | (with_reducible first | exact HB.out | apply below_alloc | apply pw_below_drewN | apply below_drew1 | refine below_set ?_ GE101.out) | exact HB.out))))
                  have n3_ := Aside0.mk (blk_below (g := gb101) (o := .cells #[.string a1, .string a2] 67 (0, 0)) (by (with_reducible repeat (first | refine blk_drewN ?_ _ | refine blk_drew ?_ | refine blk_alloc ?_ _)); exact BK101.out) hb)
                  have n4_ := Aside0.mk (below_step (by repeat (first | (with_reducible first | exact HB.out | apply below_alloc | apply pw_below_drewN | apply below_drew1 | refine below_set ?_ GE101.out) | exact HB.out)) hb)
                  clear HO106
                  clear HO112
                  clear BK101
                  clear HB
                  have HO106 := n0_
                  have HO112 := n1_
                  have HO109 := n2_
                  have BK101 := n3_
                  have HB := n4_
                  clear n0_ n1_ n2_ n3_ n4_
                  (try clear hb)
                  (try clear hb2)
                  (try clear hk)
                  (try clear hi)
                  (try clear ho0)
                  refine hK.out _ _ ⟨(blk_cell BK101.out 0).trans rfl, (blk_cell BK101.out 1).trans rfl⟩ (fun hHeld => ?_)
                  clear hK K
                  refine norm_ (a' := ?_) ?_ ?_
                  rotate_left
                  · show Act.put _ (some 23) _ = _
                    simp only [Act.put, List.setIfInBounds_toArray, List.set_cons_zero, List.set_cons_succ, i64_w, i32_w]
                    rfl
                  exact norm_ (by simp only [putAll, Act.put, List.setIfInBounds_toArray, List.set_cons_zero, List.set_cons_succ]) (hCont (.slice Ao34 y104.length co34, v108, v111) _ ⟨hHeld, (by (with_reducible repeat (first | apply Kd.R_alloc | apply Kd.R_drewN | apply Kd.R_drew)); exact HO106.out), (by (with_reducible repeat (first | apply Kd.R_alloc | apply Kd.R_drewN | apply Kd.R_drew)); exact Kd.R_mono HO109.out (fun _ hk => ⟨hk.1.2, hk.2⟩)), (by (with_reducible repeat (first | apply Kd.R_alloc | apply Kd.R_drewN | apply Kd.R_drew)); exact Kd.R_mono HO112.out (fun _ hk => ⟨hk.2, hk.1.2⟩)), (by (with_reducible repeat (first | refine blk_drewN ?_ _ | refine blk_drew ?_ | refine blk_alloc ?_ _)); exact BK101.out), (by repeat (first | (with_reducible first | exact HB.out | apply below_alloc | apply pw_below_drewN | apply below_drew1 | refine below_set ?_ GE101.out) | exact HB.out))⟩)
              · skip
                refine Kd.R_lit_step k67 _ 67 ?hg (N := 25) ?hd (xs := ([(⟨a1, a2⟩ : S67)] : List (S67))) (inner := [.string a1, .string a2]) (ok := fun _ => True) (okp := fun _ => True) ?hr ?hp (fun _ hk => hk) trivial (Below.refl _ _) (Nat.le_refl _) (by simp) ?_; (case hd => rfl); (case hg => rfl); (case hr => first | (go_simp; done) | (go_simp; rfl)); (case hp => exact (Reps.c2 (show Kd.M k67 _ _ _ (⟨a1, a2⟩ : S67) [.string a1, .string a2] from (k67_mkM _ _ _ (⟨a1, a2⟩ : S67) )) (Reps.none _ _)))
                intro v111 w30 ho31 hb hg_ hnew_
                clear hg_ hnew_
                (first | rw [← Ny110.out] at ho31 | (simp only [Int.reduceToNat] at ho31; rw [← Ny110.out] at ho31))
                have n0_ := Aside0.mk (Kd.R_lower (Kd.R_newB ho31 (g := gb101) (o := .cells #[.string a1, .string a2] 67 (0, 0)) (by (with_reducible repeat (first | refine blk_drewN ?_ _ | refine blk_drew ?_ | refine blk_alloc ?_ _)); exact BK101.out)) (below_size (by repeat (first | (with_reducible first | exact HB.out | apply below_alloc | apply pw_below_drewN | apply below_drew1 | refine below_set ?_ GE101.out) | exact HB.out))))
                have n1_ := Aside0.mk (blk_below (g := gb101) (o := .cells #[.string a1, .string a2] 67 (0, 0)) (by (with_reducible repeat (first | refine blk_drewN ?_ _ | refine blk_drew ?_ | refine blk_alloc ?_ _)); exact BK101.out) hb)
                have n2_ := Aside0.mk (below_step (by repeat (first | (with_reducible first | exact HB.out | apply below_alloc | apply pw_below_drewN | apply below_drew1 | refine below_set ?_ GE101.out) | exact HB.out)) hb)
                clear BK101
                clear HB
                have HO112 := n0_
                have BK101 := n1_
                have HB := n2_
                clear n0_ n1_ n2_
                clear hb ho31
                refine hK.out _ _ ⟨(blk_cell BK101.out 0).trans rfl, (blk_cell BK101.out 1).trans rfl⟩ (fun hHeld => ?_)
                clear hK K
                refine norm_ (a' := ?_) ?_ ?_
                rotate_left
                · show Act.put _ (some 25) _ = _
                  simp only [Act.put, List.setIfInBounds_toArray, List.set_cons_zero, List.set_cons_succ, i64_w, i32_w]
                  rfl
                refine one_ (i := 2) (N := some 22) #[true, true, true, false, true, true, false, false] rfl rfl (one_of HT_.out (by kernel_rfl)) (by decide) (fun K hK => ?_)
                refine Kd.R_lit_step Kd.string _ 9 ?hg (N := 22) ?hd (xs := ([a1] : List ByteArray)) (inner := [.string a1]) (ok := fun _ => True) (okp := fun _ => True) ?hr ?hp (fun _ hk => hk) trivial (Below.refl _ _) (Nat.le_refl _) (by simp) ?_; (case hd => rfl); (case hg => rfl); (case hr => first | (go_simp; done) | (go_simp; rfl)); (case hp => exact (Reps.one (show Kd.M Kd.string _ _ _ a1 [.string a1] from rfl) (Reps.none _ _)))
                intro v105 w32 ho33 hb hg_ hnew_
                clear hg_ hnew_
                (first | rw [← Ny104.out] at ho33 | (simp only [Int.reduceToNat] at ho33; rw [← Ny104.out] at ho33))
                have n0_ := Aside0.mk (Kd.R_below (by (with_reducible repeat (first | apply Kd.R_alloc | apply Kd.R_drewN | apply Kd.R_drew)); exact HO112.out) hb)
                have n1_ := Aside0.mk (Kd.R_lower ho33 (below_size (by repeat (first | (with_reducible first | exact HB.out | apply below_alloc | apply pw_below_drewN | apply below_drew1 | refine below_set ?_ GE101.out) | exact HB.out))))
                have n2_ := Aside0.mk (blk_below (g := gb101) (o := .cells #[.string a1, .string a2] 67 (0, 0)) (by (with_reducible repeat (first | refine blk_drewN ?_ _ | refine blk_drew ?_ | refine blk_alloc ?_ _)); exact BK101.out) hb)
                have n3_ := Aside0.mk (below_step (by repeat (first | (with_reducible first | exact HB.out | apply below_alloc | apply pw_below_drewN | apply below_drew1 | refine below_set ?_ GE101.out) | exact HB.out)) hb)
                clear HO112
                clear BK101
                clear HB
                have HO112 := n0_
                have HO106 := n1_
                have BK101 := n2_
                have HB := n3_
                clear n0_ n1_ n2_ n3_
                clear hb ho33
                obtain ⟨Ao34, co34, eo34⟩ := Kd.R_slice HO106.out
                (first | subst eo34 | (injection eo34 with f1_ f2_ f3_; have f4_ := f1_.symm; have f5_ := f3_.symm; clear f1_ f2_ f3_; subst f4_; subst f5_))
                refine hK.out _ _ ⟨(blk_cell BK101.out 0).trans rfl, (blk_cell BK101.out 1).trans rfl⟩ (fun hHeld => ?_)
                clear hK K
                refine norm_ (a' := ?_) ?_ ?_
                rotate_left
                · show Act.put _ (some 22) _ = _
                  simp only [Act.put, List.setIfInBounds_toArray, List.set_cons_zero, List.set_cons_succ, i64_w, i32_w]
                  rfl
                refine one_ (i := 3) (N := some 23) #[true, true, true, true, true, true, false, false] rfl rfl (one_of HT_.out (by kernel_rfl)) (by decide) (fun K hK => ?_)
                refine goes_ Tryd.func59 (by kernel_rfl) rfl #[.slice A0 l0.length c0, .slice Ao34 y104.length co34] (by rfl) rfl rfl (by (try simp only [List.map_toArray, List.map_cons, List.map_nil]); first | done | rfl | (simp only [List.length_drop, List.length_take]; rfl)) ?_
                with_reducible refine (impl_without.calls _ _ l0 _ _ y104 t107 _ ?side1 ?side2 ?side3 ?side4 A15.out).mono ?_
                (case side1 => repeat (first | exact (Kd.C_below HR0.out HB.out) | (with_reducible refine Kd.C_alloc ?_ _) | (with_reducible refine Kd.C_drewN ?_ _) | (with_reducible refine Kd.C_drew ?_)))
                (case side2 => exact HC0.out)
                (case side3 => repeat (first | exact (Kd.R_reads' HO106.out).2.2 | (with_reducible refine Kd.C_alloc ?_ _) | (with_reducible refine Kd.C_drewN ?_ _) | (with_reducible refine Kd.C_drew ?_)))
                (case side4 => exact (Kd.R_reads' HO106.out).2.1)
                rintro e w35 ⟨v108, rfl, ho0, hb⟩
                refine ⟨_, rfl, ?_⟩
                have n0_ := Aside0.mk (Kd.R_elder' (by (with_reducible repeat (first | apply Kd.R_alloc | apply Kd.R_drewN | apply Kd.R_drew)); exact HO112.out) (Kd.R_base ho0) hb)
                have n1_ := Aside0.mk (Kd.R_below (by (with_reducible repeat (first | apply Kd.R_alloc | apply Kd.R_drewN | apply Kd.R_drew)); exact HO106.out) hb)
                have n2_ := Aside0.mk (Kd.R_lower (Kd.R_newB (Kd.R_new' ho0 (Kd.R_lt (by (with_reducible repeat (first | apply Kd.R_alloc | apply Kd.R_drewN | apply Kd.R_drew)); exact HO112.out))) (g := gb101) (o := .cells #[.string a1, .string a2] 67 (0, 0)) (by (with_reducible repeat (first | refine blk_drewN ?_ _ | refine blk_drew ?_ | refine blk_alloc ?_ _)); exact BK101.out)) (below_size (by repeat (first | (with_reducible first | exact HB.out | apply below_alloc | apply pw_below_drewN | apply below_drew1 | refine below_set ?_ GE101.out) | exact HB.out))))
                have n3_ := Aside0.mk (blk_below (g := gb101) (o := .cells #[.string a1, .string a2] 67 (0, 0)) (by (with_reducible repeat (first | refine blk_drewN ?_ _ | refine blk_drew ?_ | refine blk_alloc ?_ _)); exact BK101.out) hb)
                have n4_ := Aside0.mk (below_step (by repeat (first | (with_reducible first | exact HB.out | apply below_alloc | apply pw_below_drewN | apply below_drew1 | refine below_set ?_ GE101.out) | exact HB.out)) hb)
                clear HO112
                clear HO106
                clear BK101
                clear HB
                have HO112 := n0_
                have HO106 := n1_
                have HO109 := n2_
                have BK101 := n3_
                have HB := n4_
                clear n0_ n1_ n2_ n3_ n4_
                (try clear hb)
                (try clear hb2)
                (try clear hk)
                (try clear hi)
                (try clear ho0)
                refine hK.out _ _ ⟨(blk_cell BK101.out 0).trans rfl, (blk_cell BK101.out 1).trans rfl⟩ (fun hHeld => ?_)
                clear hK K
                refine norm_ (a' := ?_) ?_ ?_
                rotate_left
                · show Act.put _ (some 23) _ = _
                  simp only [Act.put, List.setIfInBounds_toArray, List.set_cons_zero, List.set_cons_succ, i64_w, i32_w]
                  rfl
                exact norm_ (by simp only [putAll, Act.put, List.setIfInBounds_toArray, List.set_cons_zero, List.set_cons_succ]) (hCont (.slice Ao34 y104.length co34, v108, v111) _ ⟨hHeld, (by (with_reducible repeat (first | apply Kd.R_alloc | apply Kd.R_drewN | apply Kd.R_drew)); exact HO106.out), (by (with_reducible repeat (first | apply Kd.R_alloc | apply Kd.R_drewN | apply Kd.R_drew)); exact Kd.R_mono HO109.out (fun _ hk => ⟨hk.1.2, hk.2⟩)), (by (with_reducible repeat (first | apply Kd.R_alloc | apply Kd.R_drewN | apply Kd.R_drew)); exact Kd.R_mono HO112.out (fun _ hk => ⟨hk.2, hk.1.2⟩)), (by (with_reducible repeat (first | refine blk_drewN ?_ _ | refine blk_drew ?_ | refine blk_alloc ?_ _)); exact BK101.out), (by repeat (first | (with_reducible first | exact HB.out | apply below_alloc | apply pw_below_drewN | apply below_drew1 | refine below_set ?_ GE101.out) | exact HB.out))⟩)
            rintro ⟨v105, v108, v111⟩ w36 ⟨hS_, h0_, h1_, h2_, h3_, h4_⟩
            have n0_ : Aside0 (Kd.R Kd.string 9 w36 w.heap.size (fun _ => True) v105 y104) := ⟨h0_⟩
            have n1_ : Aside0 (Kd.R k67 67 w36 w.heap.size (fun k_ => some k_ ≠ (v111 : Value).ownBlock ∧ k_ ≠ gb101) v108 t107) := ⟨h1_⟩
            have n2_ : Aside0 (Kd.R k67 67 w36 w.heap.size (fun k_ => some k_ ≠ (v108 : Value).ownBlock ∧ k_ ≠ gb101) v111 y110) := ⟨h2_⟩
            have n3_ : Aside0 (w36.heap[gb101]? = some (.cells #[.string a1, .string a2] 67 (0, 0))) := ⟨h3_⟩
            have n4_ : Aside0 (Below w.heap.size w w36) := ⟨h4_⟩
            clear BK101
            clear HB
            clear h0_ h1_ h2_ h3_ h4_
            have HO106 := n0_
            have HO109 := n1_
            have HO112 := n2_
            have BK101 := n3_
            have HB := n4_
            clear n0_ n1_ n2_ n3_ n4_
            have hHeld : w36.cell? ⟨gb101, 0, none⟩ = some (.string a1) ∧ w36.cell? ⟨gb101, 1, none⟩ = some (.string a2) := hS_
            obtain ⟨Ao38, co38, eo38⟩ := Kd.R_slice HO112.out
            (first | subst eo38 | (injection eo38 with f1_ f2_ f3_; have f4_ := f1_.symm; have f5_ := f3_.symm; clear f1_ f2_ f3_; subst f4_; subst f5_))
            refine norm_ (a' := ?_) ?_ ?_
            rotate_left
            · simp only [putAll, Act.put, List.setIfInBounds_toArray, List.set_cons_zero, List.set_cons_succ]
              rfl
            refine one_ (i := 6) (N := some 26) #[true, true, true, true, true, true, true, false] rfl rfl (one_of HT_.out (by kernel_rfl)) (by decide) (fun K hK => ?_)
            refine Kd.R_append_rows_step k67 (w0 := w) w.heap.size (by rfl) (.tmp 23) (.tmp 25) 25 67 (.agg #[(.string ⟨#[]⟩), (.string ⟨#[]⟩)]) 32 rfl Tryd.underlying25 info67 rfl (by decide) (by omega) v108 t107 y110 _ _ _ (fun k_ => some k_ ≠ (.slice Ao38 y110.length co38 : Value).ownBlock ∧ k_ ≠ gb101) (fun _ => False) rfl rfl ?aO ?aR (fun _ _ h => h) (fun _ h => h.elim) ?aF ?aB ?aS ?aL ?_
            (case aR => repeat (first | exact (Kd.R_reads' HO112.out).2.2 | (with_reducible refine Kd.C_alloc ?_ _) | (with_reducible refine Kd.C_drewN ?_ _) | (with_reducible refine Kd.C_drew ?_)))
            (case aB => exact (by repeat (first | (with_reducible first | exact HB.out | apply below_alloc | apply pw_below_drewN | apply below_drew1 | refine below_set ?_ GE101.out) | exact HB.out)))
            (case aF => exact (fun k_ hk => ⟨Kd.fresh' (Kd.R_lt (by (with_reducible repeat (first | apply Kd.R_alloc | apply Kd.R_drewN | apply Kd.R_drew)); exact HO112.out)) k_ hk, Kd.freshB (g := gb101) (o := .cells #[.string a1, .string a2] 67 (0, 0)) (by (with_reducible repeat (first | refine blk_drewN ?_ _ | refine blk_drew ?_ | refine blk_alloc ?_ _)); exact BK101.out) k_ hk⟩))
            (case aO => exact (by (with_reducible repeat (first | apply Kd.R_alloc | apply Kd.R_drewN | apply Kd.R_drew)); exact HO109.out))
            (case aS => exact (below_size (by repeat (first | (with_reducible first | exact HB.out | apply below_alloc | apply pw_below_drewN | apply below_drew1 | refine below_set ?_ GE101.out) | exact HB.out))))
            (case aL => have := LMc16.out; omega)
            intro v114 w37 ho hb hg hat
            rw [← Ny113.out] at ho
            have n0_ := Aside0.mk (blk_grown (g := gb101) (o := .cells #[.string a1, .string a2] 67 (0, 0)) (by (with_reducible repeat (first | refine blk_drewN ?_ _ | refine blk_drew ?_ | refine blk_alloc ?_ _)); exact BK101.out) hg (Kd.R_away HO109.out (fun _ hk => hk.2)))
            have n1_ := Aside0.mk (Kd.R_over' (by (with_reducible repeat (first | apply Kd.R_alloc | apply Kd.R_drewN | apply Kd.R_drew)); exact HO106.out) (Kd.R_typed (by (with_reducible repeat (first | apply Kd.R_alloc | apply Kd.R_drewN | apply Kd.R_drew)); exact HO109.out)) (by decide) hg)
            have n2_ := Aside0.mk (Kd.R_after (ok := (fun k_ => k_ ≠ gb101)) (by (with_reducible repeat (first | apply Kd.R_alloc | apply Kd.R_drewN | apply Kd.R_drew)); exact Kd.R_mono HO112.out (fun _ hk => ⟨hk.2, hk.1⟩)) hg hat)
            have n3_ := Aside0.mk (hb)
            have n4_ := Aside0.mk (ho)
            clear BK101
            clear HO106
            clear HO112
            clear HB
            clear HO109
            have BK101 := n0_
            have HO106 := n1_
            have HO112 := n2_
            have HB := n3_
            have HO115 := n4_
            clear n0_ n1_ n2_ n3_ n4_
            clear ho hb hg hat
            refine hK.out _ _ ⟨(blk_cell BK101.out 0).trans rfl, (blk_cell BK101.out 1).trans rfl⟩ (fun hHeld => ?_)
            clear hK K
            refine norm_ (a' := ?_) ?_ ?_
            rotate_left
            · show Act.put _ (some 26) _ = _
              simp only [Act.put, List.setIfInBounds_toArray, List.set_cons_zero, List.set_cons_succ, i64_w, i32_w]
              rfl
            refine pure_ (i := 7) (N := some 8) (v := ?_) (a' := ?_) #[true, true, true, true, true, true, true, true] rfl rfl (any_of HT_.out (by kernel_rfl)) (fun _ _ _ h => h) (Or.inl ⟨by rfl, ?_⟩) ?_ ?_
            rotate_left
            · intro w'
              go_simp
              with_reducible rfl
            rotate_left
            · simp only [Act.put, List.setIfInBounds_toArray, List.set_cons_zero, List.set_cons_succ, i64_w, i32_w]
              rfl
            refine done_ (done_of HT_.out (by kernel_rfl)) ?_
            obtain ⟨Ao39, co39, eo39⟩ := Kd.R_slice HO115.out
            subst eo39
            try go_wp2
            go_ret
            exact ⟨_, by first | rfl | (simp [errW_none, errW_some] <;> rfl) | (simp [*, errW_none, errW_some] <;> rfl), by (with_reducible repeat (first | apply Kd.R_alloc | apply Kd.R_drewN | apply Kd.R_drew)); exact Kd.R_mono HO115.out (fun _ hk => trivial), by repeat (first | (with_reducible first | exact HB.out | apply below_alloc | apply pw_below_drewN | apply below_drew1 | refine below_set ?_ GE101.out) | exact HB.out)⟩
        · rw [if_neg c16] at H
          exact absurd H (by simp)

end Go.Proofs.YtfebipiccpbdbaaDoor.P
/-! ## PspecWith -/
/- Functions of the Go program as Lean functions, and proofs that each Go function comes to its Lean function's answers; conditions: those that each theorem states. Written by this session's program hprint.py, which drives the kit's printer. -/
namespace Go.Proofs.YtfebipiccpbdbaaDoor.P
open Go.RowKit Go.Proofs.YtfebipiccpbdbaaDoorW.PrintWords Go.Proofs.YtfebipiccpbdbaaDoorW.PrintLast Go.Proofs.YtfebipiccpbdbaaDoorW.PrintMore
attribute [local go_sem] max2_int min2_int max_two min_two max_three min_three max_four min_four   -- for this text's walks alone
set_option linter.unusedVariables false
set_option linter.unusedSimpArgs false

/-! ### spec_With: function 24 -/
def spec_With.j0 : Nat → List (S67) → ByteArray → Bool → ByteArray → ByteArray → Option ((List (S67)))
  | 0, _, _, _, _, _ => none
  | k + 1, x0, x1, x19, x102000, x102001 => if x19 = true then (some (([] : List (S67)))) else ((spec_l4Without.f k x0 x1).bind fun t107 => ((some (([(⟨x102000, x102001⟩ : S67)] : List (S67)) : List (S67))).bind fun y110 => (if t107.length + y110.length < 4398046511104 then ((some (t107 ++ y110 : List (S67))).bind fun y113 => (if (y113.length : Int) > 30 then (some (([] : List (S67)))) else (some y113))) else (none))))
def spec_With.f (k : Nat) (l0 : List (S67)) (a1 : ByteArray) (a2 : ByteArray) : Option ((List (S67))) := (spec_FieldsOk.f k l0).bind fun t102 => (if t102 = true then ((spec_l4Field.f k a1 a2).bind fun t103 => (spec_With.j0 k l0 a1 (!t103) a1 a2)) else (spec_With.j0 k l0 a1 true a1 a2))
theorem spec_With.mono_l : ∀ k, (∀ y0 y1 y2 y3 y4, LeO (spec_With.j0 k y0 y1 y2 y3 y4) (spec_With.j0 (k + 1) y0 y1 y2 y3 y4))
  | 0 => fun _ _ _ _ _ r h => by simp [spec_With.j0] at h
  | k + 1 => by
    have ih0 := spec_With.mono_l k
    · intro y0 y1 y2 y3 y4
      unfold spec_With.j0
      repeat' first
      | (with_reducible exact ih0 _ _ _ _ _)
      | (with_reducible exact spec_FieldsOk.mono _ _)
      | (with_reducible exact spec_l4Field.mono _ _ _)
      | (with_reducible exact spec_l4Without.mono _ _ _)
      | (with_reducible exact LeO.refl _)
      | (with_reducible exact LeO.none _)
      | (with_reducible refine LeO.ite ?_ ?_)
      | (with_reducible refine LeO.bind ?_ (fun _ => ?_))
      | exact ih0 _ _ _ _ _
      | exact spec_FieldsOk.mono _ _
      | exact spec_l4Field.mono _ _ _
      | exact spec_l4Without.mono _ _ _
      | exact LeO.none _
      | refine LeO.ite ?_ ?_
      | refine LeO.bind ?_ (fun _ => ?_)
theorem spec_With.mono : ∀ a0 a1 a2 k, LeO (spec_With.f k a0 a1 a2) (spec_With.f (k + 1) a0 a1 a2) := by
  intro a0 a1 a2 k
  have ih0 := spec_With.mono_l k
  unfold spec_With.f
  repeat' first
      | (with_reducible exact ih0 _ _ _ _ _)
      | (with_reducible exact spec_FieldsOk.mono _ _)
      | (with_reducible exact spec_l4Field.mono _ _ _)
      | (with_reducible exact spec_l4Without.mono _ _ _)
      | (with_reducible exact LeO.refl _)
      | (with_reducible exact LeO.none _)
      | (with_reducible refine LeO.ite ?_ ?_)
      | (with_reducible refine LeO.bind ?_ (fun _ => ?_))
      | exact ih0 _ _ _ _ _
      | exact spec_FieldsOk.mono _ _
      | exact spec_l4Field.mono _ _ _
      | exact spec_l4Without.mono _ _ _
      | exact LeO.none _
      | refine LeO.ite ?_ ?_
      | refine LeO.bind ?_ (fun _ => ?_)
set_option maxHeartbeats 8000000 in
set_option maxRecDepth 100000 in
theorem spec_With.calls (k : Nat) (A0 : Option Addr) (c0 : Nat) (l0 : List (S67)) (a1 : ByteArray) (a2 : ByteArray) (r : List (S67)) (w : World) (hr0 : Kd.C k67 w A0 l0.length l0) (hc0 : l0.length ≤ c0) (h : spec_With.f k l0 a1 a2 = some r) :
    Calls Tryd.prog 24 #[.slice A0 l0.length c0, .string a1, .string a2] w fun e w' => ∃ v0_ : Value, e = .returned (v0_) ∧ Kd.R k67 67 w' w.heap.size (fun _ => True) v0_ r ∧ Below w.heap.size w w' := by
  have hu67 := Tryd.underlying67
  have HR0 := Aside0.mk hr0
  have HC0 := Aside0.mk hc0
  clear hr0 hc0
  have HB := Aside0.mk (Below.refl w.heap.size w)
  have H : ((spec_FieldsOk.f k l0).bind fun t102 => (if t102 = true then ((spec_l4Field.f k a1 a2).bind fun t103 => (spec_With.j0 k l0 a1 (!t103) a1 a2)) else (spec_With.j0 k l0 a1 true a1 a2))) = some r := h
  clear h
  have HC4 := Aside0.mk H
  clear H
  go_enter Tryd.func24, Tryd.ntmps24
  go_upto_region 2 with (first | ((with_reducible refine gate_dst (N := 7) rfl ?_); refine box_event ?hg (N := 7) ?hd (cs := #[.string (⟨#[]⟩ : ByteArray), .string (⟨#[]⟩ : ByteArray)]) (t := 67) ?hr ?_; (case hd => rfl); (case hg => rfl); (case hr => first | (go_simp; done) | (go_simp; rfl)); intro gb101 hg w5 hbox hb; have n0_ := Aside0.mk (below_step (by repeat (first | (with_reducible first | exact HB.out | apply below_alloc | apply pw_below_drewN | apply below_drew1) | exact HB.out)) hb); have n1_ := Aside0.mk (hbox); have n2_ := Aside0.mk ((by rw [hg]; exact (below_size (by repeat (first | (with_reducible first | exact HB.out | apply below_alloc | apply pw_below_drewN | apply below_drew1) | exact HB.out))) : w.heap.size ≤ gb101)); have n3_ := Aside0.mk ((by rw [hg]; exact (below_size (by repeat (first | (with_reducible first | exact HB.out | apply below_alloc | apply pw_below_drewN | apply below_drew1) | exact HB.out))) : w.heap.size ≤ gb101)); clear HB; have HB := n0_; have BK101 := n1_; have GW101 := n2_; have GE101 := n3_; clear n0_ n1_ n2_ n3_; clear hb hbox hg; have hcz6_0 : w5.cell? ⟨gb101, 0, none⟩ = some (.string (⟨#[]⟩ : ByteArray)) := (blk_cell BK101.out 0).trans rfl; have hcz6_1 : w5.cell? ⟨gb101, 1, none⟩ = some (.string (⟨#[]⟩ : ByteArray)) := (blk_cell BK101.out 1).trans rfl; have hfz6_0 := blk_frozen BK101.out 0; have hfz6_1 := blk_frozen BK101.out 1))
  (try simp only [Act.put, List.setIfInBounds_toArray, List.set_cons_zero, List.set_cons_succ])
  go_cut [19] (fun v19 wc => ∃ (kq : Nat) (x19_3 : Bool), v19 = .bool x19_3 ∧ Aside0 (spec_With.j0 kq l0 a1 x19_3 a1 a2 = some r) ∧ Aside0 (kq ≤ k) ∧ Aside0 (wc.heap[gb101]? = some (.cells #[.string a1, .string a2] 67 (0, 0))) ∧ Aside0 (Below w.heap.size w wc))
  case first =>
    have H := HC4.out
    clear HC4
    replace H := Option.bind_eq_some_iff.mp H
    obtain ⟨t102, A70, H⟩ := H
    replace H : (if t102 = true then ((spec_l4Field.f k a1 a2).bind fun t103 => (spec_With.j0 k l0 a1 (!t103) a1 a2)) else (spec_With.j0 k l0 a1 true a1 a2)) = some r := H
    have A7 := Aside0.mk A70
    clear A70
    by_cases c8 : t102 = true
    · subst c8
      have H1 : ((spec_l4Field.f k a1 a2).bind fun t103 => (spec_With.j0 k l0 a1 (!t103) a1 a2)) = some r := by rw [if_pos rfl] at H; exact H
      clear H
      have H := H1
      clear H1
      replace H := Option.bind_eq_some_iff.mp H
      obtain ⟨t103, A90, H⟩ := H
      replace H : (spec_With.j0 k l0 a1 (!t103) a1 a2) = some r := H
      have A9 := Aside0.mk A90
      clear A90
      have H' := Aside0.mk H
      clear H
      go_wp2_with (first | ((with_reducible refine gate_callee (f := 14) rfl ?_); refine goesL_ (some 13) rfl rfl Tryd.func14 (by kernel_rfl) rfl #[.slice A0 l0.length c0] rfl (by (try simp only [List.map_toArray, List.map_cons, List.map_nil]); first | done | rfl | (simp only [List.length_drop, List.length_take]; rfl)) ?_; (with_reducible refine (spec_FieldsOk.calls k _ _ l0 true _ ?side1 ?side2 A7.out).mono ?_); (case side1 => exact Kd.C_below HR0.out (by repeat (first | (with_reducible first | exact HB.out | apply below_alloc | apply pw_below_drewN | apply below_drew1 | refine below_set ?_ GE101.out) | exact HB.out))); (case side2 => exact HC0.out); rintro e w10 ⟨rfl, hb⟩; refine ⟨_, rfl, ?_⟩; have n0_ := Aside0.mk (blk_below (g := gb101) (o := .cells #[.string a1, .string a2] 67 (0, 0)) (by (with_reducible repeat (first | refine blk_drewN ?_ _ | refine blk_drew ?_ | refine blk_alloc ?_ _)); refine blk_put (cs := #[.string a1, .string (⟨#[]⟩ : ByteArray)]) ?_ 1 _ rfl; (with_reducible repeat (first | refine blk_drewN ?_ _ | refine blk_drew ?_ | refine blk_alloc ?_ _)); refine blk_put (cs := #[.string (⟨#[]⟩ : ByteArray), .string (⟨#[]⟩ : ByteArray)]) ?_ 0 _ rfl; (with_reducible repeat (first | refine blk_drewN ?_ _ | refine blk_drew ?_ | refine blk_alloc ?_ _)); exact BK101.out) hb); have n1_ := Aside0.mk (below_step (by repeat (first | (with_reducible first | exact HB.out | apply below_alloc | apply pw_below_drewN | apply below_drew1 | refine below_set ?_ GE101.out) | exact HB.out)) hb); clear BK101; clear HB; have BK101 := n0_; have HB := n1_; clear n0_ n1_; (try clear hb); (try clear hb2); (try clear hk); (try clear hi); have hcz11_0 : w10.cell? ⟨gb101, 0, none⟩ = some (.string a1) := (blk_cell BK101.out 0).trans rfl; have hcz11_1 : w10.cell? ⟨gb101, 1, none⟩ = some (.string a2) := (blk_cell BK101.out 1).trans rfl; have hfz11_0 := blk_frozen BK101.out 0; have hfz11_1 := blk_frozen BK101.out 1) | (go_at_call 48; (with_reducible refine (spec_l4Field.calls k a1 a2 t103 _ A9.out).mono ?_); rintro e w12 ⟨rfl, hb⟩; have n0_ := Aside0.mk (blk_below (g := gb101) (o := .cells #[.string a1, .string a2] 67 (0, 0)) (by (with_reducible repeat (first | refine blk_drewN ?_ _ | refine blk_drew ?_ | refine blk_alloc ?_ _)); exact BK101.out) hb); have n1_ := Aside0.mk (below_step (by repeat (first | (with_reducible first | exact HB.out | apply below_alloc | apply pw_below_drewN | apply below_drew1 | refine below_set ?_ GE101.out) | exact HB.out)) hb); clear BK101; clear HB; have BK101 := n0_; have HB := n1_; clear n0_ n1_; (try clear hb); (try clear hb2); (try clear hk); (try clear hi)))
      go_meet
      case rel => exact ⟨_, (!t103), (by first | rfl | (simp; done) | (simp [*]; done)), H', ⟨by first | omega | exact Nat.le_refl _⟩, ⟨by (with_reducible repeat (first | refine blk_drewN ?_ _ | refine blk_drew ?_ | refine blk_alloc ?_ _)); exact BK101.out⟩, ⟨by repeat (first | (with_reducible first | exact HB.out | apply below_alloc | apply pw_below_drewN | apply below_drew1 | refine below_set ?_ GE101.out) | exact HB.out)⟩⟩
    · replace c8 := Bool.eq_false_iff.mpr c8
      subst c8
      have H1 : (spec_With.j0 k l0 a1 true a1 a2) = some r := by rw [if_neg (show ¬ (false = true) by decide)] at H; exact H
      clear H
      have H := H1
      clear H1
      have H' := Aside0.mk H
      clear H
      go_wp2_with (first | ((with_reducible refine gate_callee (f := 14) rfl ?_); refine goesL_ (some 13) rfl rfl Tryd.func14 (by kernel_rfl) rfl #[.slice A0 l0.length c0] rfl (by (try simp only [List.map_toArray, List.map_cons, List.map_nil]); first | done | rfl | (simp only [List.length_drop, List.length_take]; rfl)) ?_; (with_reducible refine (spec_FieldsOk.calls k _ _ l0 false _ ?side1 ?side2 A7.out).mono ?_); (case side1 => exact Kd.C_below HR0.out (by repeat (first | (with_reducible first | exact HB.out | apply below_alloc | apply pw_below_drewN | apply below_drew1 | refine below_set ?_ GE101.out) | exact HB.out))); (case side2 => exact HC0.out); rintro e w13 ⟨rfl, hb⟩; refine ⟨_, rfl, ?_⟩; have n0_ := Aside0.mk (blk_below (g := gb101) (o := .cells #[.string a1, .string a2] 67 (0, 0)) (by (with_reducible repeat (first | refine blk_drewN ?_ _ | refine blk_drew ?_ | refine blk_alloc ?_ _)); refine blk_put (cs := #[.string a1, .string (⟨#[]⟩ : ByteArray)]) ?_ 1 _ rfl; (with_reducible repeat (first | refine blk_drewN ?_ _ | refine blk_drew ?_ | refine blk_alloc ?_ _)); refine blk_put (cs := #[.string (⟨#[]⟩ : ByteArray), .string (⟨#[]⟩ : ByteArray)]) ?_ 0 _ rfl; (with_reducible repeat (first | refine blk_drewN ?_ _ | refine blk_drew ?_ | refine blk_alloc ?_ _)); exact BK101.out) hb); have n1_ := Aside0.mk (below_step (by repeat (first | (with_reducible first | exact HB.out | apply below_alloc | apply pw_below_drewN | apply below_drew1 | refine below_set ?_ GE101.out) | exact HB.out)) hb); clear BK101; clear HB; have BK101 := n0_; have HB := n1_; clear n0_ n1_; (try clear hb); (try clear hb2); (try clear hk); (try clear hi)))
      go_meet
      case rel => exact ⟨_, (true), (by first | rfl | (simp; done) | (simp [*]; done)), H', ⟨by first | omega | exact Nat.le_refl _⟩, ⟨by (with_reducible repeat (first | refine blk_drewN ?_ _ | refine blk_drew ?_ | refine blk_alloc ?_ _)); exact BK101.out⟩, ⟨by repeat (first | (with_reducible first | exact HB.out | apply below_alloc | apply pw_below_drewN | apply below_drew1 | refine below_set ?_ GE101.out) | exact HB.out)⟩⟩
  case rest =>
    clear HC4
    try clear c1
    try clear c2
    try clear p2
    try clear c8
    try clear hcz11_0
    try clear hcz11_1
    try clear hcz6_0
    try clear hcz6_1
    try clear hfz11_0
    try clear hfz11_1
    try clear hfz6_0
    try clear hfz6_1
    obtain ⟨kq, x19_3, rfl, HA, HJ3, BK101, HB⟩ := hcut
    cases kq with
    | zero => exact absurd HA.out (by simp [spec_With.j0])
    | succ kj3 =>
      have H := HA.out
      clear HA
      simp only [spec_With.j0] at H
      by_cases c14 : x19_3 = true
      · subst c14
        have H1 : (some (([] : List (S67)))) = some r := by rw [if_pos rfl] at H; exact H
        clear H
        have H := H1
        clear H1
        obtain ⟨y104, hy104⟩ : ∃ y_ : List (S67), y_ = (([] : List (S67))) := ⟨_, rfl⟩
        replace H : (some y104) = some r := by first | (rw [hy104]; with_reducible exact H) | (have H2_ := (Option.bind_some _ _).symm.trans H; rw [hy104]; with_reducible exact H2_) | (have H2_ := (Option.bind_some _ _).symm.trans H; with_reducible exact H2_) | with_reducible exact H | (rw [hy104]; exact H) | exact H
        have Ny104 := Aside0.mk hy104
        clear hy104
        obtain rfl := Option.some.inj H
        go_wp2_with (first | ((with_reducible refine gate_dst (N := 20) rfl ?_); refine Kd.R_lit k67 _ 67 ?hg (N := 20) ?hd (xs := ([] : List (S67))) (inner := []) (ok := fun _ => True) (okp := fun _ => True) ?hr ?hp (fun _ hk => hk) trivial (Below.refl _ _) (Nat.le_refl _) (by simp) ?_; (case hd => rfl); (case hg => rfl); (case hr => first | (go_simp; done) | (go_simp; rfl)); (case hp => exact (Reps.none _ _)); intro v105 w15 ho16 hb hg_ hnew_; clear hg_ hnew_; (first | rw [← Ny104.out] at ho16 | (simp only [Int.reduceToNat] at ho16; rw [← Ny104.out] at ho16)); have n0_ := Aside0.mk (Kd.R_lower (Kd.R_newB ho16 (g := gb101) (o := .cells #[.string a1, .string a2] 67 (0, 0)) (by (with_reducible repeat (first | refine blk_drewN ?_ _ | refine blk_drew ?_ | refine blk_alloc ?_ _)); exact BK101.out)) (below_size (by repeat (first | (with_reducible first | exact HB.out | apply below_alloc | apply pw_below_drewN | apply below_drew1 | refine below_set ?_ GE101.out) | exact HB.out)))); have n1_ := Aside0.mk (blk_below (g := gb101) (o := .cells #[.string a1, .string a2] 67 (0, 0)) (by (with_reducible repeat (first | refine blk_drewN ?_ _ | refine blk_drew ?_ | refine blk_alloc ?_ _)); exact BK101.out) hb); have n2_ := Aside0.mk (below_step (by repeat (first | (with_reducible first | exact HB.out | apply below_alloc | apply pw_below_drewN | apply below_drew1 | refine below_set ?_ GE101.out) | exact HB.out)) hb); clear BK101; clear HB; have HO106 := n0_; have BK101 := n1_; have HB := n2_; clear n0_ n1_ n2_; clear hb ho16))
        go_ret
        exact ⟨_, by first | rfl | (simp [errW_none, errW_some] <;> rfl) | (simp [*, errW_none, errW_some] <;> rfl), by (with_reducible repeat (first | apply Kd.R_alloc | apply Kd.R_drewN | apply Kd.R_drew)); exact Kd.R_mono HO106.out (fun _ hk => trivial), by repeat (first | (with_reducible first | exact HB.out | apply below_alloc | apply pw_below_drewN | apply below_drew1 | refine below_set ?_ GE101.out) | exact HB.out)⟩
      · replace c14 := Bool.eq_false_iff.mpr c14
        subst c14
        have H1 : ((spec_l4Without.f kj3 l0 a1).bind fun t107 => ((some (([(⟨a1, a2⟩ : S67)] : List (S67)) : List (S67))).bind fun y110 => (if t107.length + y110.length < 4398046511104 then ((some (t107 ++ y110 : List (S67))).bind fun y113 => (if (y113.length : Int) > 30 then (some (([] : List (S67)))) else (some y113))) else (none)))) = some r := by rw [if_neg (show ¬ (false = true) by decide)] at H; exact H
        clear H
        have H := H1
        clear H1
        replace H := Option.bind_eq_some_iff.mp H
        obtain ⟨t107, A170, H⟩ := H
        replace H : ((some (([(⟨a1, a2⟩ : S67)] : List (S67)) : List (S67))).bind fun y110 => (if t107.length + y110.length < 4398046511104 then ((some (t107 ++ y110 : List (S67))).bind fun y113 => (if (y113.length : Int) > 30 then (some (([] : List (S67)))) else (some y113))) else (none))) = some r := H
        have A17 := Aside0.mk A170
        clear A170
        obtain ⟨y110, hy110⟩ : ∃ y_ : List (S67), y_ = (([(⟨a1, a2⟩ : S67)] : List (S67))) := ⟨_, rfl⟩
        replace H : (if t107.length + y110.length < 4398046511104 then ((some (t107 ++ y110 : List (S67))).bind fun y113 => (if (y113.length : Int) > 30 then (some (([] : List (S67)))) else (some y113))) else (none)) = some r := by first | (rw [hy110]; with_reducible exact H) | (have H2_ := (Option.bind_some _ _).symm.trans H; rw [hy110]; with_reducible exact H2_) | (have H2_ := (Option.bind_some _ _).symm.trans H; with_reducible exact H2_) | with_reducible exact H | (rw [hy110]; exact H) | exact H
        have Ny110 := Aside0.mk hy110
        clear hy110
        by_cases c18 : t107.length + y110.length < 4398046511104
        · rw [if_pos c18] at H
          have LMc18 := Aside0.mk c18
          clear c18
          obtain ⟨y113, hy113⟩ : ∃ y_ : List (S67), y_ = (t107 ++ y110) := ⟨_, rfl⟩
          replace H : (if (y113.length : Int) > 30 then (some (([] : List (S67)))) else (some y113)) = some r := by first | (rw [hy113]; with_reducible exact H) | (have H2_ := (Option.bind_some _ _).symm.trans H; rw [hy113]; with_reducible exact H2_) | (have H2_ := (Option.bind_some _ _).symm.trans H; with_reducible exact H2_) | with_reducible exact H | (rw [hy113]; exact H) | exact H
          have Ny113 := Aside0.mk hy113
          clear hy113
          by_cases c19 : (y113.length : Int) > 30
          · rw [if_pos c19] at H
            have c19b0 : decide (30 < (y113.length : Int)) = true := decide_eq_true c19
            have c19b1 : decide (30 < y113.length) = true := decide_eq_true (by omega)
            clear c19
            obtain ⟨y116, hy116⟩ : ∃ y_ : List (S67), y_ = (([] : List (S67))) := ⟨_, rfl⟩
            replace H : (some y116) = some r := by first | (rw [hy116]; with_reducible exact H) | (have H2_ := (Option.bind_some _ _).symm.trans H; rw [hy116]; with_reducible exact H2_) | (have H2_ := (Option.bind_some _ _).symm.trans H; with_reducible exact H2_) | with_reducible exact H | (rw [hy116]; exact H) | exact H
            have Ny116 := Aside0.mk hy116
            clear hy116
            obtain rfl := Option.some.inj H
            try go_wp2
            have n0_ := Aside0.mk (blk_drew BK101.out)
            have n1_ := Aside0.mk (below_drew1 HB.out)
            clear BK101
            clear HB
            have BK101 := n0_
            have HB := n1_
            clear n0_ n1_
            refine start_ (n := 7) (S := fun w' => w'.cell? ⟨gb101, 0, none⟩ = some (.string a1) ∧ w'.cell? ⟨gb101, 1, none⟩ = some (.string a2)) (ds := []) #[false, false, false, false, false, false, false] (by kernel_rfl) rfl rfl ⟨(blk_cell BK101.out 0).trans rfl, (blk_cell BK101.out 1).trans rfl⟩ (fun hHeld => ?_)
            generalize wc.drew = w20 at BK101 HB hHeld ⊢
            refine pure_ (i := 0) (N := some 21) (v := ?_) (a' := ?_) #[true, false, false, false, false, false, false] rfl rfl (by kernel_rfl) (fun _ _ _ h => h) (Or.inl ⟨by rfl, ?_⟩) ?_ ?_
            rotate_left
            · intro w'
              go_simp
              with_reducible rfl
            rotate_left
            · simp only [Act.put, List.setIfInBounds_toArray, List.set_cons_zero, List.set_cons_succ, i64_w, i32_w]
              rfl
            refine pure_ (i := 1) (N := some 22) (v := ?_) (a' := ?_) #[true, true, false, false, false, false, false] rfl rfl (by kernel_rfl) (fun _ _ _ h => h) (Or.inl ⟨by rfl, ?_⟩) ?_ ?_
            rotate_left
            · intro w'
              go_simp
              with_reducible rfl
            rotate_left
            · simp only [Act.put, List.setIfInBounds_toArray, List.set_cons_zero, List.set_cons_succ, i64_w, i32_w]
              rfl
            refine take_ (i := 3) (N := some 24) (v := ?_) (a' := ?_) #[true, true, false, true, false, false, false] rfl rfl (by kernel_rfl) (fun _ _ _ h => h) (Or.inl ⟨by rfl, ?_⟩) hHeld ?_ ?_
            rotate_left
            · rintro w' ⟨s0, s1⟩
              go_simp
              with_reducible rfl
            rotate_left
            · simp only [Act.put, List.setIfInBounds_toArray, List.set_cons_zero, List.set_cons_succ, i64_w, i32_w]
              rfl
            refine join_ (σ := Value × Value) 2 #[true, true, true, true, true, false, false] (fun s_ => [(23, s_.1), (25, s_.2)]) (fun s_ w' => (w'.cell? ⟨gb101, 0, none⟩ = some (.string a1) ∧ w'.cell? ⟨gb101, 1, none⟩ = some (.string a2)) ∧ (Kd.R k67 67 w' w.heap.size (fun k_ => some k_ ≠ (s_.2 : Value).ownBlock ∧ k_ ≠ gb101) s_.1 t107) ∧ (Kd.R k67 67 w' w.heap.size (fun k_ => some k_ ≠ (s_.1 : Value).ownBlock ∧ k_ ≠ gb101) s_.2 y110) ∧ (w'.heap[gb101]? = some (.cells #[.string a1, .string a2] 67 (0, 0))) ∧ (Below w.heap.size w w')) ?_ ?_
            rotate_left
            · intro hCont
              refine two_ (i := 2) (j := 4) (Ni := some 23) (Nj := some 25) #[true, true, true, true, false, false, false] #[true, true, false, true, true, false, false] rfl rfl rfl rfl (by kernel_rfl) (by decide) (by decide) (fun K hK => ?_) (fun K hK => ?_)
              · skip
                refine goes_ Tryd.func57 (by kernel_rfl) rfl #[.slice A0 l0.length c0, .string a1] (by rfl) rfl rfl (by (try simp only [List.map_toArray, List.map_cons, List.map_nil]); first | done | rfl | (simp only [List.length_drop, List.length_take]; rfl)) ?_
                with_reducible refine (spec_l4Without.calls kj3 _ _ l0 a1 t107 _ ?side1 ?side2 A17.out).mono ?_
                (case side1 => repeat (first | exact (Kd.C_below HR0.out HB.out) | (with_reducible refine Kd.C_alloc ?_ _) | (with_reducible refine Kd.C_drewN ?_ _) | (with_reducible refine Kd.C_drew ?_)))
                (case side2 => exact HC0.out)
                rintro e w21 ⟨v108, rfl, ho0, hb⟩
                refine ⟨_, rfl, ?_⟩
                have n0_ := Aside0.mk (Kd.R_lower (Kd.R_newB ho0 (g := gb101) (o := .cells #[.string a1, .string a2] 67 (0, 0)) (by (with_reducible repeat (first | refine blk_drewN ?_ _ | refine blk_drew ?_ | refine blk_alloc ?_ _)); exact BK101.out)) (below_size (by repeat (first | (with_reducible first | exact HB.out | apply below_alloc | apply pw_below_drewN | apply below_drew1 | refine below_set ?_ GE101.out) | exact HB.out))))
                have n1_ := Aside0.mk (blk_below (g := gb101) (o := .cells #[.string a1, .string a2] 67 (0, 0)) (by (with_reducible repeat (first | refine blk_drewN ?_ _ | refine blk_drew ?_ | refine blk_alloc ?_ _)); exact BK101.out) hb)
                have n2_ := Aside0.mk (below_step (by repeat (first | (with_reducible first | exact HB.out | apply below_alloc | apply pw_below_drewN | apply below_drew1 | refine below_set ?_ GE101.out) | exact HB.out)) hb)
                clear BK101
                clear HB
                have HO109 := n0_
                have BK101 := n1_
                have HB := n2_
                clear n0_ n1_ n2_
                (try clear hb)
                (try clear hb2)
                (try clear hk)
                (try clear hi)
                (try clear ho0)
                refine hK.out _ _ ⟨(blk_cell BK101.out 0).trans rfl, (blk_cell BK101.out 1).trans rfl⟩ (fun hHeld => ?_)
                clear hK K
                refine norm_ (a' := ?_) ?_ ?_
                rotate_left
                · show Act.put _ (some 23) _ = _
                  simp only [Act.put, List.setIfInBounds_toArray, List.set_cons_zero, List.set_cons_succ, i64_w, i32_w]
                  rfl
                refine one_ (i := 4) (N := some 25) #[true, true, true, true, true, false, false] rfl rfl (by kernel_rfl) (by decide) (fun K hK => ?_)
                refine Kd.R_lit_step k67 _ 67 ?hg (N := 25) ?hd (xs := ([(⟨a1, a2⟩ : S67)] : List (S67))) (inner := [.string a1, .string a2]) (ok := fun _ => True) (okp := fun _ => True) ?hr ?hp (fun _ hk => hk) trivial (Below.refl _ _) (Nat.le_refl _) (by simp) ?_; (case hd => rfl); (case hg => rfl); (case hr => first | (go_simp; done) | (go_simp; rfl)); (case hp => exact (Reps.c2 (show Kd.M k67 _ _ _ (⟨a1, a2⟩ : S67) [.string a1, .string a2] from (k67_mkM _ _ _ (⟨a1, a2⟩ : S67) )) (Reps.none _ _)))
                intro v111 w22 ho23 hb hg_ hnew_
                clear hg_ hnew_
                (first | rw [← Ny110.out] at ho23 | (simp only [Int.reduceToNat] at ho23; rw [← Ny110.out] at ho23))
                have n0_ := Aside0.mk (Kd.R_elder' (by (with_reducible repeat (first | apply Kd.R_alloc | apply Kd.R_drewN | apply Kd.R_drew)); exact HO109.out) (Kd.R_base ho23) hb)
                have n1_ := Aside0.mk (Kd.R_lower (Kd.R_newB (Kd.R_new' ho23 (Kd.R_lt (by (with_reducible repeat (first | apply Kd.R_alloc | apply Kd.R_drewN | apply Kd.R_drew)); exact HO109.out))) (g := gb101) (o := .cells #[.string a1, .string a2] 67 (0, 0)) (by (with_reducible repeat (first | refine blk_drewN ?_ _ | refine blk_drew ?_ | refine blk_alloc ?_ _)); exact BK101.out)) (below_size (by repeat (first | (with_reducible first | exact HB.out | apply below_alloc | apply pw_below_drewN | apply below_drew1 | refine below_set ?_ GE101.out) | exact HB.out))))
                have n2_ := Aside0.mk (blk_below (g := gb101) (o := .cells #[.string a1, .string a2] 67 (0, 0)) (by (with_reducible repeat (first | refine blk_drewN ?_ _ | refine blk_drew ?_ | refine blk_alloc ?_ _)); exact BK101.out) hb)
                have n3_ := Aside0.mk (below_step (by repeat (first | (with_reducible first | exact HB.out | apply below_alloc | apply pw_below_drewN | apply below_drew1 | refine below_set ?_ GE101.out) | exact HB.out)) hb)
                clear HO109
                clear BK101
                clear HB
                have HO109 := n0_
                have HO112 := n1_
                have BK101 := n2_
                have HB := n3_
                clear n0_ n1_ n2_ n3_
                clear hb ho23
                refine hK.out _ _ ⟨(blk_cell BK101.out 0).trans rfl, (blk_cell BK101.out 1).trans rfl⟩ (fun hHeld => ?_)
                clear hK K
                refine norm_ (a' := ?_) ?_ ?_
                rotate_left
                · show Act.put _ (some 25) _ = _
                  simp only [Act.put, List.setIfInBounds_toArray, List.set_cons_zero, List.set_cons_succ, i64_w, i32_w]
                  rfl
                exact norm_ (by simp only [putAll, Act.put, List.setIfInBounds_toArray, List.set_cons_zero, List.set_cons_succ]) (hCont (v108, v111) _ ⟨hHeld, (by (with_reducible repeat (first | apply Kd.R_alloc | apply Kd.R_drewN | apply Kd.R_drew)); exact Kd.R_mono HO109.out (fun _ hk => ⟨hk.2, hk.1.2⟩)), (by (with_reducible repeat (first | apply Kd.R_alloc | apply Kd.R_drewN | apply Kd.R_drew)); exact Kd.R_mono HO112.out (fun _ hk => ⟨hk.1.2, hk.2⟩)), (by (with_reducible repeat (first | refine blk_drewN ?_ _ | refine blk_drew ?_ | refine blk_alloc ?_ _)); exact BK101.out), (by repeat (first | (with_reducible first | exact HB.out | apply below_alloc | apply pw_below_drewN | apply below_drew1 | refine below_set ?_ GE101.out) | exact HB.out))⟩)
              · skip
                refine Kd.R_lit_step k67 _ 67 ?hg (N := 25) ?hd (xs := ([(⟨a1, a2⟩ : S67)] : List (S67))) (inner := [.string a1, .string a2]) (ok := fun _ => True) (okp := fun _ => True) ?hr ?hp (fun _ hk => hk) trivial (Below.refl _ _) (Nat.le_refl _) (by simp) ?_; (case hd => rfl); (case hg => rfl); (case hr => first | (go_simp; done) | (go_simp; rfl)); (case hp => exact (Reps.c2 (show Kd.M k67 _ _ _ (⟨a1, a2⟩ : S67) [.string a1, .string a2] from (k67_mkM _ _ _ (⟨a1, a2⟩ : S67) )) (Reps.none _ _)))
                intro v111 w21 ho22 hb hg_ hnew_
                clear hg_ hnew_
                (first | rw [← Ny110.out] at ho22 | (simp only [Int.reduceToNat] at ho22; rw [← Ny110.out] at ho22))
                have n0_ := Aside0.mk (Kd.R_lower (Kd.R_newB ho22 (g := gb101) (o := .cells #[.string a1, .string a2] 67 (0, 0)) (by (with_reducible repeat (first | refine blk_drewN ?_ _ | refine blk_drew ?_ | refine blk_alloc ?_ _)); exact BK101.out)) (below_size (by repeat (first | (with_reducible first | exact HB.out | apply below_alloc | apply pw_below_drewN | apply below_drew1 | refine below_set ?_ GE101.out) | exact HB.out))))
                have n1_ := Aside0.mk (blk_below (g := gb101) (o := .cells #[.string a1, .string a2] 67 (0, 0)) (by (with_reducible repeat (first | refine blk_drewN ?_ _ | refine blk_drew ?_ | refine blk_alloc ?_ _)); exact BK101.out) hb)
                have n2_ := Aside0.mk (below_step (by repeat (first | (with_reducible first | exact HB.out | apply below_alloc | apply pw_below_drewN | apply below_drew1 | refine below_set ?_ GE101.out) | exact HB.out)) hb)
                clear BK101
                clear HB
                have HO112 := n0_
                have BK101 := n1_
                have HB := n2_
                clear n0_ n1_ n2_
                clear hb ho22
                refine hK.out _ _ ⟨(blk_cell BK101.out 0).trans rfl, (blk_cell BK101.out 1).trans rfl⟩ (fun hHeld => ?_)
                clear hK K
                refine norm_ (a' := ?_) ?_ ?_
                rotate_left
                · show Act.put _ (some 25) _ = _
                  simp only [Act.put, List.setIfInBounds_toArray, List.set_cons_zero, List.set_cons_succ, i64_w, i32_w]
                  rfl
                refine one_ (i := 2) (N := some 23) #[true, true, true, true, true, false, false] rfl rfl (by kernel_rfl) (by decide) (fun K hK => ?_)
                refine goes_ Tryd.func57 (by kernel_rfl) rfl #[.slice A0 l0.length c0, .string a1] (by rfl) rfl rfl (by (try simp only [List.map_toArray, List.map_cons, List.map_nil]); first | done | rfl | (simp only [List.length_drop, List.length_take]; rfl)) ?_
                with_reducible refine (spec_l4Without.calls kj3 _ _ l0 a1 t107 _ ?side1 ?side2 A17.out).mono ?_
                (case side1 => repeat (first | exact (Kd.C_below HR0.out HB.out) | (with_reducible refine Kd.C_alloc ?_ _) | (with_reducible refine Kd.C_drewN ?_ _) | (with_reducible refine Kd.C_drew ?_)))
                (case side2 => exact HC0.out)
                rintro e w23 ⟨v108, rfl, ho0, hb⟩
                refine ⟨_, rfl, ?_⟩
                have n0_ := Aside0.mk (Kd.R_elder' (by (with_reducible repeat (first | apply Kd.R_alloc | apply Kd.R_drewN | apply Kd.R_drew)); exact HO112.out) (Kd.R_base ho0) hb)
                have n1_ := Aside0.mk (Kd.R_lower (Kd.R_newB (Kd.R_new' ho0 (Kd.R_lt (by (with_reducible repeat (first | apply Kd.R_alloc | apply Kd.R_drewN | apply Kd.R_drew)); exact HO112.out))) (g := gb101) (o := .cells #[.string a1, .string a2] 67 (0, 0)) (by (with_reducible repeat (first | refine blk_drewN ?_ _ | refine blk_drew ?_ | refine blk_alloc ?_ _)); exact BK101.out)) (below_size (by repeat (first | (with_reducible first | exact HB.out | apply below_alloc | apply pw_below_drewN | apply below_drew1 | refine below_set ?_ GE101.out) | exact HB.out))))
                have n2_ := Aside0.mk (blk_below (g := gb101) (o := .cells #[.string a1, .string a2] 67 (0, 0)) (by (with_reducible repeat (first | refine blk_drewN ?_ _ | refine blk_drew ?_ | refine blk_alloc ?_ _)); exact BK101.out) hb)
                have n3_ := Aside0.mk (below_step (by repeat (first | (with_reducible first | exact HB.out | apply below_alloc | apply pw_below_drewN | apply below_drew1 | refine below_set ?_ GE101.out) | exact HB.out)) hb)
                clear HO112
                clear BK101
                clear HB
                have HO112 := n0_
                have HO109 := n1_
                have BK101 := n2_
                have HB := n3_
                clear n0_ n1_ n2_ n3_
                (try clear hb)
                (try clear hb2)
                (try clear hk)
                (try clear hi)
                (try clear ho0)
                refine hK.out _ _ ⟨(blk_cell BK101.out 0).trans rfl, (blk_cell BK101.out 1).trans rfl⟩ (fun hHeld => ?_)
                clear hK K
                refine norm_ (a' := ?_) ?_ ?_
                rotate_left
                · show Act.put _ (some 23) _ = _
                  simp only [Act.put, List.setIfInBounds_toArray, List.set_cons_zero, List.set_cons_succ, i64_w, i32_w]
                  rfl
                exact norm_ (by simp only [putAll, Act.put, List.setIfInBounds_toArray, List.set_cons_zero, List.set_cons_succ]) (hCont (v108, v111) _ ⟨hHeld, (by (with_reducible repeat (first | apply Kd.R_alloc | apply Kd.R_drewN | apply Kd.R_drew)); exact Kd.R_mono HO109.out (fun _ hk => ⟨hk.1.2, hk.2⟩)), (by (with_reducible repeat (first | apply Kd.R_alloc | apply Kd.R_drewN | apply Kd.R_drew)); exact Kd.R_mono HO112.out (fun _ hk => ⟨hk.2, hk.1.2⟩)), (by (with_reducible repeat (first | refine blk_drewN ?_ _ | refine blk_drew ?_ | refine blk_alloc ?_ _)); exact BK101.out), (by repeat (first | (with_reducible first | exact HB.out | apply below_alloc | apply pw_below_drewN | apply below_drew1 | refine below_set ?_ GE101.out) | exact HB.out))⟩)
            rintro ⟨v108, v111⟩ w24 ⟨hS_, h0_, h1_, h2_, h3_⟩
            have n0_ : Aside0 (Kd.R k67 67 w24 w.heap.size (fun k_ => some k_ ≠ (v111 : Value).ownBlock ∧ k_ ≠ gb101) v108 t107) := ⟨h0_⟩
            have n1_ : Aside0 (Kd.R k67 67 w24 w.heap.size (fun k_ => some k_ ≠ (v108 : Value).ownBlock ∧ k_ ≠ gb101) v111 y110) := ⟨h1_⟩
            have n2_ : Aside0 (w24.heap[gb101]? = some (.cells #[.string a1, .string a2] 67 (0, 0))) := ⟨h2_⟩
            have n3_ : Aside0 (Below w.heap.size w w24) := ⟨h3_⟩
            clear BK101
            clear HB
            clear h0_ h1_ h2_ h3_
            have HO109 := n0_
            have HO112 := n1_
            have BK101 := n2_
            have HB := n3_
            clear n0_ n1_ n2_ n3_
            have hHeld : w24.cell? ⟨gb101, 0, none⟩ = some (.string a1) ∧ w24.cell? ⟨gb101, 1, none⟩ = some (.string a2) := hS_
            obtain ⟨Ao26, co26, eo26⟩ := Kd.R_slice HO112.out
            (first | subst eo26 | (injection eo26 with f1_ f2_ f3_; have f4_ := f1_.symm; have f5_ := f3_.symm; clear f1_ f2_ f3_; subst f4_; subst f5_))
            refine norm_ (a' := ?_) ?_ ?_
            rotate_left
            · simp only [putAll, Act.put, List.setIfInBounds_toArray, List.set_cons_zero, List.set_cons_succ]
              rfl
            refine one_ (i := 5) (N := some 26) #[true, true, true, true, true, true, false] rfl rfl (by kernel_rfl) (by decide) (fun K hK => ?_)
            refine Kd.R_append_rows_step k67 (w0 := w) w.heap.size (by rfl) (.tmp 23) (.tmp 25) 25 67 (.agg #[(.string ⟨#[]⟩), (.string ⟨#[]⟩)]) 32 rfl Tryd.underlying25 info67 rfl (by decide) (by omega) v108 t107 y110 _ _ _ (fun k_ => some k_ ≠ (.slice Ao26 y110.length co26 : Value).ownBlock ∧ k_ ≠ gb101) (fun _ => False) rfl rfl ?aO ?aR (fun _ _ h => h) (fun _ h => h.elim) ?aF ?aB ?aS ?aL ?_
            (case aR => repeat (first | exact (Kd.R_reads' HO112.out).2.2 | (with_reducible refine Kd.C_alloc ?_ _) | (with_reducible refine Kd.C_drewN ?_ _) | (with_reducible refine Kd.C_drew ?_)))
            (case aB => exact (by repeat (first | (with_reducible first | exact HB.out | apply below_alloc | apply pw_below_drewN | apply below_drew1 | refine below_set ?_ GE101.out) | exact HB.out)))
            (case aF => exact (fun k_ hk => ⟨Kd.fresh' (Kd.R_lt (by (with_reducible repeat (first | apply Kd.R_alloc | apply Kd.R_drewN | apply Kd.R_drew)); exact HO112.out)) k_ hk, Kd.freshB (g := gb101) (o := .cells #[.string a1, .string a2] 67 (0, 0)) (by (with_reducible repeat (first | refine blk_drewN ?_ _ | refine blk_drew ?_ | refine blk_alloc ?_ _)); exact BK101.out) k_ hk⟩))
            (case aO => exact (by (with_reducible repeat (first | apply Kd.R_alloc | apply Kd.R_drewN | apply Kd.R_drew)); exact HO109.out))
            (case aS => exact (below_size (by repeat (first | (with_reducible first | exact HB.out | apply below_alloc | apply pw_below_drewN | apply below_drew1 | refine below_set ?_ GE101.out) | exact HB.out))))
            (case aL => have := LMc18.out; omega)
            intro v114 w25 ho hb hg hat
            rw [← Ny113.out] at ho
            have n0_ := Aside0.mk (blk_grown (g := gb101) (o := .cells #[.string a1, .string a2] 67 (0, 0)) (by (with_reducible repeat (first | refine blk_drewN ?_ _ | refine blk_drew ?_ | refine blk_alloc ?_ _)); exact BK101.out) hg (Kd.R_away HO109.out (fun _ hk => hk.2)))
            have n1_ := Aside0.mk (Kd.R_after (ok := (fun k_ => k_ ≠ gb101)) (by (with_reducible repeat (first | apply Kd.R_alloc | apply Kd.R_drewN | apply Kd.R_drew)); exact Kd.R_mono HO112.out (fun _ hk => ⟨hk.2, hk.1⟩)) hg hat)
            have n2_ := Aside0.mk (hb)
            have n3_ := Aside0.mk (ho)
            clear BK101
            clear HO112
            clear HB
            clear HO109
            have BK101 := n0_
            have HO112 := n1_
            have HB := n2_
            have HO115 := n3_
            clear n0_ n1_ n2_ n3_
            clear ho hb hg hat
            refine hK.out _ _ ⟨(blk_cell BK101.out 0).trans rfl, (blk_cell BK101.out 1).trans rfl⟩ (fun hHeld => ?_)
            clear hK K
            refine norm_ (a' := ?_) ?_ ?_
            rotate_left
            · show Act.put _ (some 26) _ = _
              simp only [Act.put, List.setIfInBounds_toArray, List.set_cons_zero, List.set_cons_succ, i64_w, i32_w]
              rfl
            refine pure_ (i := 6) (N := some 8) (v := ?_) (a' := ?_) #[true, true, true, true, true, true, true] rfl rfl (by kernel_rfl) (fun _ _ _ h => h) (Or.inl ⟨by rfl, ?_⟩) ?_ ?_
            rotate_left
            · intro w'
              go_simp
              with_reducible rfl
            rotate_left
            · simp only [Act.put, List.setIfInBounds_toArray, List.set_cons_zero, List.set_cons_succ, i64_w, i32_w]
              rfl
            refine done_ (by kernel_rfl) ?_
            obtain ⟨Ao27, co27, eo27⟩ := Kd.R_slice HO115.out
            subst eo27
            try go_wp2_with (first | ((with_reducible refine gate_dst (N := 30) rfl ?_); refine Kd.R_lit k67 _ 67 ?hg (N := 30) ?hd (xs := ([] : List (S67))) (inner := []) (ok := fun _ => True) (okp := fun _ => True) ?hr ?hp (fun _ hk => hk) trivial (Below.refl _ _) (Nat.le_refl _) (by simp) ?_; (case hd => rfl); (case hg => rfl); (case hr => first | (go_simp; done) | (go_simp; rfl)); (case hp => exact (Reps.none _ _)); intro v117 w28 ho29 hb hg_ hnew_; clear hg_ hnew_; (first | rw [← Ny116.out] at ho29 | (simp only [Int.reduceToNat] at ho29; rw [← Ny116.out] at ho29)); have n0_ := Aside0.mk (Kd.R_elder' (by (with_reducible repeat (first | apply Kd.R_alloc | apply Kd.R_drewN | apply Kd.R_drew)); exact HO112.out) (Kd.R_base ho29) hb); have n1_ := Aside0.mk (Kd.R_elder' (by (with_reducible repeat (first | apply Kd.R_alloc | apply Kd.R_drewN | apply Kd.R_drew)); exact HO115.out) (Kd.R_base ho29) hb); have n2_ := Aside0.mk (Kd.R_lower (Kd.R_newB (Kd.R_new' (Kd.R_new' ho29 (Kd.R_lt (by (with_reducible repeat (first | apply Kd.R_alloc | apply Kd.R_drewN | apply Kd.R_drew)); exact HO112.out))) (Kd.R_lt (by (with_reducible repeat (first | apply Kd.R_alloc | apply Kd.R_drewN | apply Kd.R_drew)); exact HO115.out))) (g := gb101) (o := .cells #[.string a1, .string a2] 67 (0, 0)) (by (with_reducible repeat (first | refine blk_drewN ?_ _ | refine blk_drew ?_ | refine blk_alloc ?_ _)); exact BK101.out)) (below_size (by repeat (first | (with_reducible first | exact HB.out | apply below_alloc | apply pw_below_drewN | apply below_drew1 | refine below_set ?_ GE101.out) | exact HB.out)))); have n3_ := Aside0.mk (blk_below (g := gb101) (o := .cells #[.string a1, .string a2] 67 (0, 0)) (by (with_reducible repeat (first | refine blk_drewN ?_ _ | refine blk_drew ?_ | refine blk_alloc ?_ _)); exact BK101.out) hb); have n4_ := Aside0.mk (below_step (by repeat (first | (with_reducible first | exact HB.out | apply below_alloc | apply pw_below_drewN | apply below_drew1 | refine below_set ?_ GE101.out) | exact HB.out)) hb); clear HO112; clear HO115; clear BK101; clear HB; have HO112 := n0_; have HO115 := n1_; have HO118 := n2_; have BK101 := n3_; have HB := n4_; clear n0_ n1_ n2_ n3_ n4_; clear hb ho29))
            go_ret
            exact ⟨_, by first | rfl | (simp [errW_none, errW_some] <;> rfl) | (simp [*, errW_none, errW_some] <;> rfl), by (with_reducible repeat (first | apply Kd.R_alloc | apply Kd.R_drewN | apply Kd.R_drew)); exact Kd.R_mono HO118.out (fun _ hk => trivial), by repeat (first | (with_reducible first | exact HB.out | apply below_alloc | apply pw_below_drewN | apply below_drew1 | refine below_set ?_ GE101.out) | exact HB.out)⟩
          · rw [if_neg c19] at H
            have c19b0 : decide (30 < (y113.length : Int)) = false := decide_eq_false c19
            have c19b1 : decide (30 < y113.length) = false := decide_eq_false (by omega)
            clear c19
            obtain rfl := Option.some.inj H
            try go_wp2
            have n0_ := Aside0.mk (blk_drew BK101.out)
            have n1_ := Aside0.mk (below_drew1 HB.out)
            clear BK101
            clear HB
            have BK101 := n0_
            have HB := n1_
            clear n0_ n1_
            refine start_ (n := 7) (S := fun w' => w'.cell? ⟨gb101, 0, none⟩ = some (.string a1) ∧ w'.cell? ⟨gb101, 1, none⟩ = some (.string a2)) (ds := []) #[false, false, false, false, false, false, false] (by kernel_rfl) rfl rfl ⟨(blk_cell BK101.out 0).trans rfl, (blk_cell BK101.out 1).trans rfl⟩ (fun hHeld => ?_)
            generalize wc.drew = w30 at BK101 HB hHeld ⊢
            refine pure_ (i := 0) (N := some 21) (v := ?_) (a' := ?_) #[true, false, false, false, false, false, false] rfl rfl (by kernel_rfl) (fun _ _ _ h => h) (Or.inl ⟨by rfl, ?_⟩) ?_ ?_
            rotate_left
            · intro w'
              go_simp
              with_reducible rfl
            rotate_left
            · simp only [Act.put, List.setIfInBounds_toArray, List.set_cons_zero, List.set_cons_succ, i64_w, i32_w]
              rfl
            refine pure_ (i := 1) (N := some 22) (v := ?_) (a' := ?_) #[true, true, false, false, false, false, false] rfl rfl (by kernel_rfl) (fun _ _ _ h => h) (Or.inl ⟨by rfl, ?_⟩) ?_ ?_
            rotate_left
            · intro w'
              go_simp
              with_reducible rfl
            rotate_left
            · simp only [Act.put, List.setIfInBounds_toArray, List.set_cons_zero, List.set_cons_succ, i64_w, i32_w]
              rfl
            refine take_ (i := 3) (N := some 24) (v := ?_) (a' := ?_) #[true, true, false, true, false, false, false] rfl rfl (by kernel_rfl) (fun _ _ _ h => h) (Or.inl ⟨by rfl, ?_⟩) hHeld ?_ ?_
            rotate_left
            · rintro w' ⟨s0, s1⟩
              go_simp
              with_reducible rfl
            rotate_left
            · simp only [Act.put, List.setIfInBounds_toArray, List.set_cons_zero, List.set_cons_succ, i64_w, i32_w]
              rfl
            refine join_ (σ := Value × Value) 2 #[true, true, true, true, true, false, false] (fun s_ => [(23, s_.1), (25, s_.2)]) (fun s_ w' => (w'.cell? ⟨gb101, 0, none⟩ = some (.string a1) ∧ w'.cell? ⟨gb101, 1, none⟩ = some (.string a2)) ∧ (Kd.R k67 67 w' w.heap.size (fun k_ => some k_ ≠ (s_.2 : Value).ownBlock ∧ k_ ≠ gb101) s_.1 t107) ∧ (Kd.R k67 67 w' w.heap.size (fun k_ => some k_ ≠ (s_.1 : Value).ownBlock ∧ k_ ≠ gb101) s_.2 y110) ∧ (w'.heap[gb101]? = some (.cells #[.string a1, .string a2] 67 (0, 0))) ∧ (Below w.heap.size w w')) ?_ ?_
            rotate_left
            · intro hCont
              refine two_ (i := 2) (j := 4) (Ni := some 23) (Nj := some 25) #[true, true, true, true, false, false, false] #[true, true, false, true, true, false, false] rfl rfl rfl rfl (by kernel_rfl) (by decide) (by decide) (fun K hK => ?_) (fun K hK => ?_)
              · skip
                refine goes_ Tryd.func57 (by kernel_rfl) rfl #[.slice A0 l0.length c0, .string a1] (by rfl) rfl rfl (by (try simp only [List.map_toArray, List.map_cons, List.map_nil]); first | done | rfl | (simp only [List.length_drop, List.length_take]; rfl)) ?_
                with_reducible refine (spec_l4Without.calls kj3 _ _ l0 a1 t107 _ ?side1 ?side2 A17.out).mono ?_
                (case side1 => repeat (first | exact (Kd.C_below HR0.out HB.out) | (with_reducible refine Kd.C_alloc ?_ _) | (with_reducible refine Kd.C_drewN ?_ _) | (with_reducible refine Kd.C_drew ?_)))
                (case side2 => exact HC0.out)
                rintro e w31 ⟨v108, rfl, ho0, hb⟩
                refine ⟨_, rfl, ?_⟩
                have n0_ := Aside0.mk (Kd.R_lower (Kd.R_newB ho0 (g := gb101) (o := .cells #[.string a1, .string a2] 67 (0, 0)) (by (with_reducible repeat (first | refine blk_drewN ?_ _ | refine blk_drew ?_ | refine blk_alloc ?_ _)); exact BK101.out)) (below_size (by repeat (first | (with_reducible first | exact HB.out | apply below_alloc | apply pw_below_drewN | apply below_drew1 | refine below_set ?_ GE101.out) | exact HB.out))))
                have n1_ := Aside0.mk (blk_below (g := gb101) (o := .cells #[.string a1, .string a2] 67 (0, 0)) (by (with_reducible repeat (first | refine blk_drewN ?_ _ | refine blk_drew ?_ | refine blk_alloc ?_ _)); exact BK101.out) hb)
                have n2_ := Aside0.mk (below_step (by repeat (first | (with_reducible first | exact HB.out | apply below_alloc | apply pw_below_drewN | apply below_drew1 | refine below_set ?_ GE101.out) | exact HB.out)) hb)
                clear BK101
                clear HB
                have HO109 := n0_
                have BK101 := n1_
                have HB := n2_
                clear n0_ n1_ n2_
                (try clear hb)
                (try clear hb2)
                (try clear hk)
                (try clear hi)
                (try clear ho0)
                refine hK.out _ _ ⟨(blk_cell BK101.out 0).trans rfl, (blk_cell BK101.out 1).trans rfl⟩ (fun hHeld => ?_)
                clear hK K
                refine norm_ (a' := ?_) ?_ ?_
                rotate_left
                · show Act.put _ (some 23) _ = _
                  simp only [Act.put, List.setIfInBounds_toArray, List.set_cons_zero, List.set_cons_succ, i64_w, i32_w]
                  rfl
                refine one_ (i := 4) (N := some 25) #[true, true, true, true, true, false, false] rfl rfl (by kernel_rfl) (by decide) (fun K hK => ?_)
                refine Kd.R_lit_step k67 _ 67 ?hg (N := 25) ?hd (xs := ([(⟨a1, a2⟩ : S67)] : List (S67))) (inner := [.string a1, .string a2]) (ok := fun _ => True) (okp := fun _ => True) ?hr ?hp (fun _ hk => hk) trivial (Below.refl _ _) (Nat.le_refl _) (by simp) ?_; (case hd => rfl); (case hg => rfl); (case hr => first | (go_simp; done) | (go_simp; rfl)); (case hp => exact (Reps.c2 (show Kd.M k67 _ _ _ (⟨a1, a2⟩ : S67) [.string a1, .string a2] from (k67_mkM _ _ _ (⟨a1, a2⟩ : S67) )) (Reps.none _ _)))
                intro v111 w32 ho33 hb hg_ hnew_
                clear hg_ hnew_
                (first | rw [← Ny110.out] at ho33 | (simp only [Int.reduceToNat] at ho33; rw [← Ny110.out] at ho33))
                have n0_ := Aside0.mk (Kd.R_elder' (by (with_reducible repeat (first | apply Kd.R_alloc | apply Kd.R_drewN | apply Kd.R_drew)); exact HO109.out) (Kd.R_base ho33) hb)
                have n1_ := Aside0.mk (Kd.R_lower (Kd.R_newB (Kd.R_new' ho33 (Kd.R_lt (by (with_reducible repeat (first | apply Kd.R_alloc | apply Kd.R_drewN | apply Kd.R_drew)); exact HO109.out))) (g := gb101) (o := .cells #[.string a1, .string a2] 67 (0, 0)) (by (with_reducible repeat (first | refine blk_drewN ?_ _ | refine blk_drew ?_ | refine blk_alloc ?_ _)); exact BK101.out)) (below_size (by repeat (first | (with_reducible first | exact HB.out | apply below_alloc | apply pw_below_drewN | apply below_drew1 | refine below_set ?_ GE101.out) | exact HB.out))))
                have n2_ := Aside0.mk (blk_below (g := gb101) (o := .cells #[.string a1, .string a2] 67 (0, 0)) (by (with_reducible repeat (first | refine blk_drewN ?_ _ | refine blk_drew ?_ | refine blk_alloc ?_ _)); exact BK101.out) hb)
                have n3_ := Aside0.mk (below_step (by repeat (first | (with_reducible first | exact HB.out | apply below_alloc | apply pw_below_drewN | apply below_drew1 | refine below_set ?_ GE101.out) | exact HB.out)) hb)
                clear HO109
                clear BK101
                clear HB
                have HO109 := n0_
                have HO112 := n1_
                have BK101 := n2_
                have HB := n3_
                clear n0_ n1_ n2_ n3_
                clear hb ho33
                refine hK.out _ _ ⟨(blk_cell BK101.out 0).trans rfl, (blk_cell BK101.out 1).trans rfl⟩ (fun hHeld => ?_)
                clear hK K
                refine norm_ (a' := ?_) ?_ ?_
                rotate_left
                · show Act.put _ (some 25) _ = _
                  simp only [Act.put, List.setIfInBounds_toArray, List.set_cons_zero, List.set_cons_succ, i64_w, i32_w]
                  rfl
                exact norm_ (by simp only [putAll, Act.put, List.setIfInBounds_toArray, List.set_cons_zero, List.set_cons_succ]) (hCont (v108, v111) _ ⟨hHeld, (by (with_reducible repeat (first | apply Kd.R_alloc | apply Kd.R_drewN | apply Kd.R_drew)); exact Kd.R_mono HO109.out (fun _ hk => ⟨hk.2, hk.1.2⟩)), (by (with_reducible repeat (first | apply Kd.R_alloc | apply Kd.R_drewN | apply Kd.R_drew)); exact Kd.R_mono HO112.out (fun _ hk => ⟨hk.1.2, hk.2⟩)), (by (with_reducible repeat (first | refine blk_drewN ?_ _ | refine blk_drew ?_ | refine blk_alloc ?_ _)); exact BK101.out), (by repeat (first | (with_reducible first | exact HB.out | apply below_alloc | apply pw_below_drewN | apply below_drew1 | refine below_set ?_ GE101.out) | exact HB.out))⟩)
              · skip
                refine Kd.R_lit_step k67 _ 67 ?hg (N := 25) ?hd (xs := ([(⟨a1, a2⟩ : S67)] : List (S67))) (inner := [.string a1, .string a2]) (ok := fun _ => True) (okp := fun _ => True) ?hr ?hp (fun _ hk => hk) trivial (Below.refl _ _) (Nat.le_refl _) (by simp) ?_; (case hd => rfl); (case hg => rfl); (case hr => first | (go_simp; done) | (go_simp; rfl)); (case hp => exact (Reps.c2 (show Kd.M k67 _ _ _ (⟨a1, a2⟩ : S67) [.string a1, .string a2] from (k67_mkM _ _ _ (⟨a1, a2⟩ : S67) )) (Reps.none _ _)))
                intro v111 w31 ho32 hb hg_ hnew_
                clear hg_ hnew_
                (first | rw [← Ny110.out] at ho32 | (simp only [Int.reduceToNat] at ho32; rw [← Ny110.out] at ho32))
                have n0_ := Aside0.mk (Kd.R_lower (Kd.R_newB ho32 (g := gb101) (o := .cells #[.string a1, .string a2] 67 (0, 0)) (by (with_reducible repeat (first | refine blk_drewN ?_ _ | refine blk_drew ?_ | refine blk_alloc ?_ _)); exact BK101.out)) (below_size (by repeat (first | (with_reducible first | exact HB.out | apply below_alloc | apply pw_below_drewN | apply below_drew1 | refine below_set ?_ GE101.out) | exact HB.out))))
                have n1_ := Aside0.mk (blk_below (g := gb101) (o := .cells #[.string a1, .string a2] 67 (0, 0)) (by (with_reducible repeat (first | refine blk_drewN ?_ _ | refine blk_drew ?_ | refine blk_alloc ?_ _)); exact BK101.out) hb)
                have n2_ := Aside0.mk (below_step (by repeat (first | (with_reducible first | exact HB.out | apply below_alloc | apply pw_below_drewN | apply below_drew1 | refine below_set ?_ GE101.out) | exact HB.out)) hb)
                clear BK101
                clear HB
                have HO112 := n0_
                have BK101 := n1_
                have HB := n2_
                clear n0_ n1_ n2_
                clear hb ho32
                refine hK.out _ _ ⟨(blk_cell BK101.out 0).trans rfl, (blk_cell BK101.out 1).trans rfl⟩ (fun hHeld => ?_)
                clear hK K
                refine norm_ (a' := ?_) ?_ ?_
                rotate_left
                · show Act.put _ (some 25) _ = _
                  simp only [Act.put, List.setIfInBounds_toArray, List.set_cons_zero, List.set_cons_succ, i64_w, i32_w]
                  rfl
                refine one_ (i := 2) (N := some 23) #[true, true, true, true, true, false, false] rfl rfl (by kernel_rfl) (by decide) (fun K hK => ?_)
                refine goes_ Tryd.func57 (by kernel_rfl) rfl #[.slice A0 l0.length c0, .string a1] (by rfl) rfl rfl (by (try simp only [List.map_toArray, List.map_cons, List.map_nil]); first | done | rfl | (simp only [List.length_drop, List.length_take]; rfl)) ?_
                with_reducible refine (spec_l4Without.calls kj3 _ _ l0 a1 t107 _ ?side1 ?side2 A17.out).mono ?_
                (case side1 => repeat (first | exact (Kd.C_below HR0.out HB.out) | (with_reducible refine Kd.C_alloc ?_ _) | (with_reducible refine Kd.C_drewN ?_ _) | (with_reducible refine Kd.C_drew ?_)))
                (case side2 => exact HC0.out)
                rintro e w33 ⟨v108, rfl, ho0, hb⟩
                refine ⟨_, rfl, ?_⟩
                have n0_ := Aside0.mk (Kd.R_elder' (by (with_reducible repeat (first | apply Kd.R_alloc | apply Kd.R_drewN | apply Kd.R_drew)); exact HO112.out) (Kd.R_base ho0) hb)
                have n1_ := Aside0.mk (Kd.R_lower (Kd.R_newB (Kd.R_new' ho0 (Kd.R_lt (by (with_reducible repeat (first | apply Kd.R_alloc | apply Kd.R_drewN | apply Kd.R_drew)); exact HO112.out))) (g := gb101) (o := .cells #[.string a1, .string a2] 67 (0, 0)) (by (with_reducible repeat (first | refine blk_drewN ?_ _ | refine blk_drew ?_ | refine blk_alloc ?_ _)); exact BK101.out)) (below_size (by repeat (first | (with_reducible first | exact HB.out | apply below_alloc | apply pw_below_drewN | apply below_drew1 | refine below_set ?_ GE101.out) | exact HB.out))))
                have n2_ := Aside0.mk (blk_below (g := gb101) (o := .cells #[.string a1, .string a2] 67 (0, 0)) (by (with_reducible repeat (first | refine blk_drewN ?_ _ | refine blk_drew ?_ | refine blk_alloc ?_ _)); exact BK101.out) hb)
                have n3_ := Aside0.mk (below_step (by repeat (first | (with_reducible first | exact HB.out | apply below_alloc | apply pw_below_drewN | apply below_drew1 | refine below_set ?_ GE101.out) | exact HB.out)) hb)
                clear HO112
                clear BK101
                clear HB
                have HO112 := n0_
                have HO109 := n1_
                have BK101 := n2_
                have HB := n3_
                clear n0_ n1_ n2_ n3_
                (try clear hb)
                (try clear hb2)
                (try clear hk)
                (try clear hi)
                (try clear ho0)
                refine hK.out _ _ ⟨(blk_cell BK101.out 0).trans rfl, (blk_cell BK101.out 1).trans rfl⟩ (fun hHeld => ?_)
                clear hK K
                refine norm_ (a' := ?_) ?_ ?_
                rotate_left
                · show Act.put _ (some 23) _ = _
                  simp only [Act.put, List.setIfInBounds_toArray, List.set_cons_zero, List.set_cons_succ, i64_w, i32_w]
                  rfl
                exact norm_ (by simp only [putAll, Act.put, List.setIfInBounds_toArray, List.set_cons_zero, List.set_cons_succ]) (hCont (v108, v111) _ ⟨hHeld, (by (with_reducible repeat (first | apply Kd.R_alloc | apply Kd.R_drewN | apply Kd.R_drew)); exact Kd.R_mono HO109.out (fun _ hk => ⟨hk.1.2, hk.2⟩)), (by (with_reducible repeat (first | apply Kd.R_alloc | apply Kd.R_drewN | apply Kd.R_drew)); exact Kd.R_mono HO112.out (fun _ hk => ⟨hk.2, hk.1.2⟩)), (by (with_reducible repeat (first | refine blk_drewN ?_ _ | refine blk_drew ?_ | refine blk_alloc ?_ _)); exact BK101.out), (by repeat (first | (with_reducible first | exact HB.out | apply below_alloc | apply pw_below_drewN | apply below_drew1 | refine below_set ?_ GE101.out) | exact HB.out))⟩)
            rintro ⟨v108, v111⟩ w34 ⟨hS_, h0_, h1_, h2_, h3_⟩
            have n0_ : Aside0 (Kd.R k67 67 w34 w.heap.size (fun k_ => some k_ ≠ (v111 : Value).ownBlock ∧ k_ ≠ gb101) v108 t107) := ⟨h0_⟩
            have n1_ : Aside0 (Kd.R k67 67 w34 w.heap.size (fun k_ => some k_ ≠ (v108 : Value).ownBlock ∧ k_ ≠ gb101) v111 y110) := ⟨h1_⟩
            have n2_ : Aside0 (w34.heap[gb101]? = some (.cells #[.string a1, .string a2] 67 (0, 0))) := ⟨h2_⟩
            have n3_ : Aside0 (Below w.heap.size w w34) := ⟨h3_⟩
            clear BK101
            clear HB
            clear h0_ h1_ h2_ h3_
            have HO109 := n0_
            have HO112 := n1_
            have BK101 := n2_
            have HB := n3_
            clear n0_ n1_ n2_ n3_
            have hHeld : w34.cell? ⟨gb101, 0, none⟩ = some (.string a1) ∧ w34.cell? ⟨gb101, 1, none⟩ = some (.string a2) := hS_
            obtain ⟨Ao36, co36, eo36⟩ := Kd.R_slice HO112.out
            (first | subst eo36 | (injection eo36 with f1_ f2_ f3_; have f4_ := f1_.symm; have f5_ := f3_.symm; clear f1_ f2_ f3_; subst f4_; subst f5_))
            refine norm_ (a' := ?_) ?_ ?_
            rotate_left
            · simp only [putAll, Act.put, List.setIfInBounds_toArray, List.set_cons_zero, List.set_cons_succ]
              rfl
            refine one_ (i := 5) (N := some 26) #[true, true, true, true, true, true, false] rfl rfl (by kernel_rfl) (by decide) (fun K hK => ?_)
            refine Kd.R_append_rows_step k67 (w0 := w) w.heap.size (by rfl) (.tmp 23) (.tmp 25) 25 67 (.agg #[(.string ⟨#[]⟩), (.string ⟨#[]⟩)]) 32 rfl Tryd.underlying25 info67 rfl (by decide) (by omega) v108 t107 y110 _ _ _ (fun k_ => some k_ ≠ (.slice Ao36 y110.length co36 : Value).ownBlock ∧ k_ ≠ gb101) (fun _ => False) rfl rfl ?aO ?aR (fun _ _ h => h) (fun _ h => h.elim) ?aF ?aB ?aS ?aL ?_
            (case aR => repeat (first | exact (Kd.R_reads' HO112.out).2.2 | (with_reducible refine Kd.C_alloc ?_ _) | (with_reducible refine Kd.C_drewN ?_ _) | (with_reducible refine Kd.C_drew ?_)))
            (case aB => exact (by repeat (first | (with_reducible first | exact HB.out | apply below_alloc | apply pw_below_drewN | apply below_drew1 | refine below_set ?_ GE101.out) | exact HB.out)))
            (case aF => exact (fun k_ hk => ⟨Kd.fresh' (Kd.R_lt (by (with_reducible repeat (first | apply Kd.R_alloc | apply Kd.R_drewN | apply Kd.R_drew)); exact HO112.out)) k_ hk, Kd.freshB (g := gb101) (o := .cells #[.string a1, .string a2] 67 (0, 0)) (by (with_reducible repeat (first | refine blk_drewN ?_ _ | refine blk_drew ?_ | refine blk_alloc ?_ _)); exact BK101.out) k_ hk⟩))
            (case aO => exact (by (with_reducible repeat (first | apply Kd.R_alloc | apply Kd.R_drewN | apply Kd.R_drew)); exact HO109.out))
            (case aS => exact (below_size (by repeat (first | (with_reducible first | exact HB.out | apply below_alloc | apply pw_below_drewN | apply below_drew1 | refine below_set ?_ GE101.out) | exact HB.out))))
            (case aL => have := LMc18.out; omega)
            intro v114 w35 ho hb hg hat
            rw [← Ny113.out] at ho
            have n0_ := Aside0.mk (blk_grown (g := gb101) (o := .cells #[.string a1, .string a2] 67 (0, 0)) (by (with_reducible repeat (first | refine blk_drewN ?_ _ | refine blk_drew ?_ | refine blk_alloc ?_ _)); exact BK101.out) hg (Kd.R_away HO109.out (fun _ hk => hk.2)))
            have n1_ := Aside0.mk (Kd.R_after (ok := (fun k_ => k_ ≠ gb101)) (by (with_reducible repeat (first | apply Kd.R_alloc | apply Kd.R_drewN | apply Kd.R_drew)); exact Kd.R_mono HO112.out (fun _ hk => ⟨hk.2, hk.1⟩)) hg hat)
            have n2_ := Aside0.mk (hb)
            have n3_ := Aside0.mk (ho)
            clear BK101
            clear HO112
            clear HB
            clear HO109
            have BK101 := n0_
            have HO112 := n1_
            have HB := n2_
            have HO115 := n3_
            clear n0_ n1_ n2_ n3_
            clear ho hb hg hat
            refine hK.out _ _ ⟨(blk_cell BK101.out 0).trans rfl, (blk_cell BK101.out 1).trans rfl⟩ (fun hHeld => ?_)
            clear hK K
            refine norm_ (a' := ?_) ?_ ?_
            rotate_left
            · show Act.put _ (some 26) _ = _
              simp only [Act.put, List.setIfInBounds_toArray, List.set_cons_zero, List.set_cons_succ, i64_w, i32_w]
              rfl
            refine pure_ (i := 6) (N := some 8) (v := ?_) (a' := ?_) #[true, true, true, true, true, true, true] rfl rfl (by kernel_rfl) (fun _ _ _ h => h) (Or.inl ⟨by rfl, ?_⟩) ?_ ?_
            rotate_left
            · intro w'
              go_simp
              with_reducible rfl
            rotate_left
            · simp only [Act.put, List.setIfInBounds_toArray, List.set_cons_zero, List.set_cons_succ, i64_w, i32_w]
              rfl
            refine done_ (by kernel_rfl) ?_
            obtain ⟨Ao37, co37, eo37⟩ := Kd.R_slice HO115.out
            subst eo37
            try go_wp2
            go_ret
            exact ⟨_, by first | rfl | (simp [errW_none, errW_some] <;> rfl) | (simp [*, errW_none, errW_some] <;> rfl), by (with_reducible repeat (first | apply Kd.R_alloc | apply Kd.R_drewN | apply Kd.R_drew)); exact Kd.R_mono HO115.out (fun _ hk => trivial), by repeat (first | (with_reducible first | exact HB.out | apply below_alloc | apply pw_below_drewN | apply below_drew1 | refine below_set ?_ GE101.out) | exact HB.out)⟩
        · rw [if_neg c18] at H
          exact absurd H (by simp)

end Go.Proofs.YtfebipiccpbdbaaDoor.P
/-! ## Qwithout -/
/-
  Fields without those of a name, with another one, marks set into fields and read again. Condition: the texts' greatest lengths.
-/
namespace Go.Proofs.YtfebipiccpbdbaaDoor.Q
set_option linter.unusedVariables false
set_option linter.unusedSimpArgs false
open Go.RowKit Go.Proofs.YtfebipiccpbdbaaDoor.P Go.Proofs.YtfebipiccpbdbaaDoorW.PrintWords Go.Proofs.YtfebipiccpbdbaaDoorW.PrintLast Go.Proofs.YtfebipiccpbdbaaDoorW.PrintMore

theorem spec_Lower_is (s : ByteArray) (hs : s.size ≤ 9223372036854775807) : spec_Lower.f s = some (lowS s) := by
  unfold spec_Lower.f
  rw [if_pos hs]
  rfl
def sameName (n : ByteArray) (x : Fld) : Bool := (lowS x.f0).toList == (lowS n).toList
def withoutF (l : List Fld) (n : ByteArray) : List Fld := l.filter fun x => !sameName n x
theorem runA_filter {α : Type} (p : α → Bool) (l st : List α) : runA (σ := List α) (β := List α) (fun st x => if p x = true then .inl st else .inl (st ++ [x])) (fun st => st) l st = st ++ l.filter fun x => !p x := by
  induction l generalizing st with
  | nil => simp [runA]
  | cons a l ih =>
    unfold runA
    cases hp : p a with
    | true => simp only [if_true]; rw [ih, List.filter_cons_of_neg (by simp [hp])]
    | false =>
      simp only [Bool.false_eq_true, if_false]
      rw [ih, List.filter_cons_of_pos (by simp [hp]), List.append_assoc]
      rfl
theorem spec_l4Without_ev (l : List Fld) (n : ByteArray) (h : Mild l) (hn : n.size ≤ 1048576) : Ev (fun k => spec_l4Without.f k l n) (withoutF l n) := by
  unfold spec_l4Without.f
  have hl := h.1
  have e := ev_list (β := List Fld) l z67 (fun st i => st.length ≤ i) (fun st x => if sameName n x = true then .inl st else .inl (st ++ [x])) (fun st => st) (fun k st i => spec_l4Without.l0 k l n st i)
    (fun st i hi hI => by
      have hm := h.2 _ (mem_getD (d := z67) hi)
      have e0 : ∀ k, spec_l4Without.l0 (k + 1) l n st (i : Int) = if sameName n (l.getD i z67) = true then spec_l4Without.l0 k l n st (((i + 1 : Nat) : Int)) else spec_l4Without.l0 k l n (st ++ [l.getD i z67]) (((i + 1 : Nat) : Int)) := by
        intro k
        simp only [spec_l4Without.l0]
        rw [if_pos (by omega), if_pos (by omega), rd_fld, spec_Lower_is _ (by omega), spec_Lower_is n (by omega), wrap_next hi (by omega)]
        simp only [Option.bind_some]
        unfold sameName
        by_cases hq : (lowS (l.getD i z67).f0).toList = (lowS n).toList
        · rw [if_pos hq, if_pos (by simpa using hq)]
        · rw [if_neg hq, if_pos (by omega), if_neg (by simpa using hq)]
      refine ⟨fun st' hf => ?_, fun b hf => ?_⟩
      · by_cases hq : sameName n (l.getD i z67) = true
        · rw [if_pos hq] at hf
          obtain rfl : st = st' := by injection hf
          exact ⟨by omega, fun r hr => Ev.step (fun k => by rw [e0 k, if_pos hq]) hr⟩
        · rw [if_neg hq] at hf
          obtain rfl : st ++ [l.getD i z67] = st' := by injection hf
          exact ⟨by rw [List.length_append]; simp; omega, fun r hr => Ev.step (fun k => by rw [e0 k, if_neg hq]) hr⟩
      · split at hf <;> cases hf)
    (fun st hI => Ev.step (f := fun _ => some st) (fun k => by simp only [spec_l4Without.l0]; rw [if_neg (by omega)]) (Ev.now _)) [] (by simp)
  rw [runA_filter] at e
  exact e
theorem impl_without_is (l : List Fld) (ns : List ByteArray) (h : Mild l) (hn : ∀ n ∈ ns, n.size ≤ 1048576) : impl_without.f l ns = some (l.filter fun x => !withoutP ns x) := by
  unfold impl_without.f
  have hl := h.1
  rw [if_pos ⟨by omega, List.all_eq_true.2 fun x hx => decide_eq_true (by have := h.2 x hx; omega), List.all_eq_true.2 fun x hx => decide_eq_true (by have := hn x hx; omega)⟩]
theorem withoutP_one (n : ByteArray) (x : Fld) : withoutP [n] x = sameName n x := by
  unfold withoutP sameName
  rw [List.any_cons, List.any_nil, Bool.or_false]
  exact Bool.beq_comm
theorem impl_without_one (l : List Fld) (n : ByteArray) (h : Mild l) (hn : n.size ≤ 1048576) : impl_without.f l [n] = some (withoutF l n) := by
  rw [impl_without_is l [n] h (fun m hm => by rw [List.mem_singleton.1 hm]; exact hn)]
  unfold withoutF
  exact congrArg some (List.filter_congr fun x _ => by rw [withoutP_one])
theorem withoutF_mild (l : List Fld) (n : ByteArray) (h : Mild l) : Mild (withoutF l n) :=
  ⟨Nat.le_trans (List.length_filter_le _ _) h.1, fun x hx => h.2 x (List.mem_filter.1 hx).1⟩
def withoutR (l : List Fld) (n : ByteArray) : List Fld := if fieldsOk l = true then if tokOk n = true then withoutF l n else [] else []
theorem spec_Without_ev (l : List Fld) (n : ByteArray) (h : Mild l) (hn : n.size ≤ 1048576) : Ev (fun k => spec_Without.f k l n) (withoutR l n) := by
  unfold spec_Without.f withoutR
  refine Ev.bind (spec_FieldsOk_ev l h) ?_
  cases fieldsOk l
  · exact Ev.now _
  · simp only [if_true]
    refine Ev.bind (spec_TokenOk_ev n (by omega)) ?_
    cases tokOk n
    · exact Ev.now _
    · simp only [if_true]
      exact Ev.bind (spec_l4Without_ev l n h hn) (Ev.now _)
theorem impl_Without_is (l : List Fld) (n : ByteArray) (h : Mild l) (hn : n.size ≤ 1048576) : impl_Without.f l n = some (withoutR l n) := by
  unfold impl_Without.f withoutR
  rw [impl_FieldsOk_is l h, impl_TokenOk_is n (by omega), impl_without_one l n h hn]
  cases fieldsOk l <;> cases tokOk n <;> rfl
theorem withoutR_len (l : List Fld) (n : ByteArray) (h : Mild l) : (withoutR l n).length ≤ 1048576 := by
  unfold withoutR
  have := (withoutF_mild l n h).1
  split
  · split
    · exact this
    · exact Nat.zero_le _
  · exact Nat.zero_le _
def withR (l : List Fld) (n v : ByteArray) : List Fld := if fieldsOk l = true then if isFieldB n v = true then if 30 < (withoutF l n ++ [(⟨n, v⟩ : Fld)]).length then [] else withoutF l n ++ [(⟨n, v⟩ : Fld)] else [] else []
theorem spec_With_ev (l : List Fld) (n v : ByteArray) (h : Mild l) (hn : n.size ≤ 1048576) (hv : v.size ≤ 1048576) : Ev (fun k => spec_With.f k l n v) (withR l n v) := by
  unfold spec_With.f withR
  have hw := (withoutF_mild l n h).1
  have hbad : Ev (fun k => spec_With.j0 k l n true n v) ([] : List Fld) := Ev.step (f := fun _ => some []) (fun k => by simp only [spec_With.j0, if_true]) (Ev.now _)
  refine Ev.bind (spec_FieldsOk_ev l h) ?_
  cases fieldsOk l
  · simp only [Bool.false_eq_true, if_false]
    exact hbad
  · simp only [if_true]
    refine Ev.bind (spec_l4Field_ev n v (by omega) (by omega)) ?_
    cases isFieldB n v
    · simp only [Bool.false_eq_true, if_false, Bool.not_false]
      exact hbad
    · simp only [if_true, Bool.not_true]
      refine Ev.step (f := fun k => (spec_l4Without.f k l n).bind fun t107 => ((some (([(⟨n, v⟩ : Fld)] : List Fld) : List Fld)).bind fun y110 => (if t107.length + y110.length < 4398046511104 then ((some (t107 ++ y110 : List Fld)).bind fun y113 => (if (y113.length : Int) > 30 then (some (([] : List Fld))) else (some y113))) else (none)))) (fun k => by simp only [spec_With.j0, Bool.false_eq_true, if_false]) (Ev.bind (spec_l4Without_ev l n h hn) ?_)
      simp only [Option.bind_some]
      rw [if_pos (by simp; omega)]
      by_cases hc : 30 < (withoutF l n ++ [(⟨n, v⟩ : Fld)]).length
      · rw [if_pos (by omega), if_pos hc]
        exact Ev.now _
      · rw [if_neg (by omega), if_neg hc]
        exact Ev.now _
theorem impl_With_ev (l : List Fld) (n v : ByteArray) (h : Mild l) (hn : n.size ≤ 1048576) (hv : v.size ≤ 1048576) : Ev (fun k => impl_With.f k l n v) (withR l n v) := by
  unfold impl_With.f withR
  have hw := (withoutF_mild l n h).1
  have hbad : Ev (fun k => impl_With.j0 k l n true n v) ([] : List Fld) := Ev.step (f := fun _ => some []) (fun k => by simp only [impl_With.j0, if_true]) (Ev.now _)
  refine Ev.bind (ev_const (impl_FieldsOk_is l h)) ?_
  cases fieldsOk l
  · simp only [Bool.false_eq_true, if_false]
    exact hbad
  · simp only [if_true]
    refine Ev.bind (ev_const (impl_isField_is n v (by omega) (by omega))) ?_
    cases isFieldB n v
    · simp only [Bool.false_eq_true, if_false, Bool.not_false]
      exact hbad
    · simp only [if_true, Bool.not_true]
      refine Ev.step (f := fun k => some (if 30 < (withoutF l n ++ [(⟨n, v⟩ : Fld)]).length then ([] : List Fld) else withoutF l n ++ [(⟨n, v⟩ : Fld)])) (fun k => ?_) (Ev.now _)
      simp only [impl_With.j0, Bool.false_eq_true, if_false]
      rw [impl_without_one l n h hn]
      simp only [Option.bind_some]
      rw [if_pos (by simp; omega)]
      by_cases hc : 30 < (withoutF l n ++ [(⟨n, v⟩ : Fld)]).length
      · rw [if_pos (by omega), if_pos hc]
      · rw [if_neg (by omega), if_neg hc]
theorem withR_len (l : List Fld) (n v : ByteArray) : (withR l n v).length ≤ 1048576 := by
  unfold withR
  split
  · split
    · split
      · exact Nat.zero_le _
      · omega
    · exact Nat.zero_le _
  · exact Nat.zero_le _
end Go.Proofs.YtfebipiccpbdbaaDoor.Q
/-! ## PureFnExactWithout -/
/-
  FnExactWithout answers true at every argument: both functions come to the same fields, and what is held is the caller's own. No condition.
-/
namespace Go.Proofs.YtfebipiccpbdbaaDoor.Pure
set_option linter.unusedVariables false
set_option linter.unusedSimpArgs false
open Go.RowKit Go.Proofs.YtfebipiccpbdbaaDoor.P Go.Proofs.YtfebipiccpbdbaaDoor.Q Go.Proofs.YtfebipiccpbdbaaDoorW.PrintWords
theorem FnExactWithout : laws_FnExactWithout.Pure := by
  intro l n hl hx hn
  unfold laws_FnExactWithout.f
  by_cases hs : (n.size : Int) > 1048576
  · simp only [if_pos hs]
    exact ⟨0, trivial⟩
  · simp only [if_neg hs]
    obtain ⟨r, hr, hle, hm⟩ := szFieldS_ev l 1048576 (by decide) (by decide) hl hx
    refine Ev.rounds (r := true) (Ev.bind hr ?_)
    by_cases h0 : r < 0
    · simp only [if_pos h0]
      exact Ev.now _
    · simp only [if_neg h0]
      have m := hm (by omega)
      have hlen : l.length ≤ 1048576 := by have := m.1; rwa [List.length_map] at this
      have hR := withoutR_len (l.map conv) n m
      have hS := spec_Without_ev (l.map conv) n m (by omega)
      have hI := ev_const (impl_Without_is (l.map conv) n m (by omega))
      generalize withoutR (l.map conv) n = R at hR hS hI
      have hE := eqFieldS_self R hR
      refine Ev.bind (toFieldS_ev l hlen) (Ev.bind hS (Ev.bind (toFieldS_ev l hlen) (Ev.bind hI (Ev.bind hE ?_))))
      simp only [if_true]
      refine Ev.bind (toFieldS_ev l hlen) (Ev.bind (eqFieldS_self _ m.1) ?_)
      simp only [if_true]
      refine Ev.bind (markFieldS_ev _ m.1) ?_
      simp only [if_neg (show ¬ (1 + 2 * (((l.map conv).length : Nat) : Int) < 0) by omega)]
      refine Ev.bind hE (Ev.step (f := fun k => (laws_markFieldS.f k R 1).bind fun bt122 => ((laws_heldFieldS.f k bt122.2 1).bind fun t124 => (if t124 < 0 then (some false) else (if t124 = bt122.1 then ((laws_toFieldS.f k l).bind fun t125 => ((impl_Without.f t125 n).bind fun t128 => ((laws_eqFieldS.f k t128 R).bind fun t131 => (if t131 = true then ((laws_heldFieldS.f k bt122.2 1).bind fun t132 => (if t132 < 0 then (some false) else (if t132 = bt122.1 then (some true) else (some false)))) else (some false))))) else (some false))))) (fun k => by simp only [laws_FnExactWithout.j0, Bool.not_true, Bool.false_eq_true, if_false]) ?_)
      refine Ev.bind (markFieldS_ev R hR) (Ev.bind (heldFieldS_ev R hR) ?_)
      simp only [if_neg (show ¬ (1 + 2 * ((R.length : Nat) : Int) < 0) by omega), eq_self, if_true]
      refine Ev.bind (toFieldS_ev l hlen) (Ev.bind hI (Ev.bind hE ?_))
      simp only [if_true]
      refine Ev.bind (heldFieldS_ev R hR) ?_
      simp only [if_neg (show ¬ (1 + 2 * ((R.length : Nat) : Int) < 0) by omega), eq_self, if_true]
      exact Ev.now _
end Go.Proofs.YtfebipiccpbdbaaDoor.Pure
/-! ## RowAid -/
/-
  A struct of one-cell fields that came in by value, opened field by field. No condition.
-/
namespace Go.Proofs.YtfebipiccpbdbaaDoor.RowAid
open Go.ChangeShapes Go.WideShapes Go.Deep
variable {H : Type} {enc : TypeId × Value → H} {P : Program} {w : World} {base : Nat} {spare : Nat → Bool} {held : Bool}
theorem open_one {r : Reach} {b0 : Nat} {t : TypeId} {fs : Array Field} {v : Value} {d : DataW H} {p : List MemPlace} (hs : P.underlying t = some (.struct fs)) (hone : oneCellFields P fs = true) (hC : P.cellsOf t = fs.size)
    (hv : Value.okWide P w r b0 t v) (h : DataW.Trod enc P w base spare held t v d p) :
    ∃ cs : List Value, v = .agg cs.toArray ∧ cs.length = fs.size ∧ ∃ n, ∀ (i : Nat) (f : Field) (c : Value), fs[i]? = some f → cs[i]? = some c → ∃ y, DataW.trod enc P w base spare held n f.type [c] = some y := by
  obtain ⟨⟨cs⟩, rfl, hsz⟩ := okWide_struct hs hv
  obtain ⟨fuel, hf⟩ := h
  obtain ⟨xs, n, _, _, hl, hx, hg⟩ := DataW.trod_struct hs hf
  have hcl : cs.length = fs.size := by
    have : (⟨cs⟩ : Array Value).size = cs.length := rfl
    omega
  refine ⟨cs, rfl, hcl, n, fun i f c hi hc => ?_⟩
  have hlt : i < fs.size := (Array.getElem?_eq_some_iff.1 hi).1
  obtain ⟨ho, hk⟩ := hone_of hone i f hi
  have h1 := hg i f hi
  have hcc : (Value.agg ⟨cs⟩).cells.toList = cs := rfl
  rw [hcc, ho, hk] at h1
  have hd : (cs.drop i).take 1 = [c] := by
    have hi' : i < cs.length := by omega
    rw [List.drop_eq_getElem_cons hi', List.take_succ_cons, List.take_zero]
    rw [List.getElem?_eq_getElem hi'] at hc
    rw [Option.some.inj hc]
  rw [hd] at h1
  have hxl : xs[i]? = some (xs[i]'(by omega)) := List.getElem?_eq_getElem (by omega)
  exact ⟨_, h1.trans hxl⟩
end Go.Proofs.YtfebipiccpbdbaaDoor.RowAid
/-! ## RowAidS -/
/-
  Slices that came in, opened element by element: structs of one-cell fields, and one-cell elements. No condition.
-/
namespace Go.Proofs.YtfebipiccpbdbaaDoor.RowAid
open Go.ChangeShapes Go.WideShapes Go.Deep
variable {H : Type} {enc : TypeId × Value → H} {P : Program} {w : World} {base : Nat} {spare : Nat → Bool} {held : Bool}
/-- What each place has, put into a list. -/
theorem list_of {α : Type} (n : Nat) (Q : Nat → α → Prop) (h : ∀ i, i < n → ∃ x, Q i x) : ∃ l : List α, l.length = n ∧ ∀ i x, l[i]? = some x → Q i x := by
  induction n with
  | zero => exact ⟨[], rfl, fun i x hx => by simp at hx⟩
  | succ n ih =>
    obtain ⟨l, hl, hq⟩ := ih fun i hi => h i (by omega)
    obtain ⟨z, hz⟩ := h n (Nat.lt_succ_self n)
    refine ⟨l ++ [z], by simp [hl], fun i x hx => ?_⟩
    by_cases hi : i < n
    · rw [List.getElem?_append_left (by omega)] at hx
      exact hq i x hx
    · by_cases he : i = n
      · subst he
        rw [List.getElem?_append_right (by omega), hl, Nat.sub_self] at hx
        obtain rfl := Option.some.inj hx
        exact hz
      · rw [List.getElem?_eq_none (by simp; omega)] at hx
        cases hx
/-- A slice of structs of one-cell fields: each field's cell, and what it reads as. -/
theorem open_structs {t e : TypeId} {fs : Array Field} {n : Nat} {c : Value} {y : DataW H × List MemPlace} (ht : P.underlying t = some (.slice e)) (he : P.underlying e = some (.struct fs)) (hone : oneCellFields P fs = true) (hC : P.cellsOf e = fs.size)
    (h : DataW.trod enc P w base spare held n t [c] = some y) :
    c = .slice none 0 0 ∨ ∃ (a : Addr) (len cap : Nat), c = .slice (some a) len cap ∧ len ≤ cap ∧ cap ≤ maxLen ∧
      ∀ i, i < len → ∃ m, ∀ (j : Nat) (f : Field), fs[j]? = some f → ∃ (v : Value) (z : DataW H × List MemPlace), w.cell? (a.add (i * fs.size + j)) = some v ∧ DataW.trod enc P w base spare held m f.type [v] = some z := by
  rcases open_slice ht h with ⟨h0, _⟩ | ⟨a, len, cap, m, k, D, Pl, hcs, _, hl, hm, hmm, _, hi⟩
  · exact .inl (List.cons.inj h0).1
  · refine .inr ⟨a, len, cap, (List.cons.inj hcs).1, hl, hm, fun i hil => ?_⟩
    obtain ⟨cs', hc, ht'⟩ := hi i (by rw [hmm]; split <;> omega)
    rw [hC] at hc
    obtain ⟨_, hcl, hat⟩ := World.cells?_some hc
    obtain ⟨xs, q, _, _, _, hlen, hg⟩ := DataW.trod_struct he ht'
    refine ⟨q, fun j f hj => ?_⟩
    have hjl : j < fs.size := (Array.getElem?_eq_some_iff.1 hj).1
    obtain ⟨ho, hk⟩ := hone_of hone j f hj
    have h1 := hg j f hj
    have hd : (cs'.drop j).take 1 = [cs'[j]'(by omega)] := by
      rw [List.drop_eq_getElem_cons (by omega), List.take_succ_cons, List.take_zero]
    rw [ho, hk, hd, List.getElem?_eq_getElem (by omega : j < xs.length)] at h1
    have h2 := hat j hjl
    rw [add_add, List.getElem?_eq_getElem (by omega : j < cs'.length)] at h2
    exact ⟨_, _, h2, h1⟩
/-- A slice of one-cell elements. -/
theorem open_ones {t e : TypeId} {n : Nat} {c : Value} {y : DataW H × List MemPlace} (ht : P.underlying t = some (.slice e)) (hC : P.cellsOf e = 1)
    (h : DataW.trod enc P w base spare held n t [c] = some y) :
    c = .slice none 0 0 ∨ ∃ (a : Addr) (len cap : Nat), c = .slice (some a) len cap ∧ len ≤ cap ∧ cap ≤ maxLen ∧
      ∀ i, i < len → ∃ (m : Nat) (v : Value) (z : DataW H × List MemPlace), w.cell? (a.add (i * 1)) = some v ∧ DataW.trod enc P w base spare held m e [v] = some z := by
  rcases open_slice ht h with ⟨h0, _⟩ | ⟨a, len, cap, m, k, D, Pl, hcs, _, hl, hm, hmm, _, hi⟩
  · exact .inl (List.cons.inj h0).1
  · refine .inr ⟨a, len, cap, (List.cons.inj hcs).1, hl, hm, fun i hil => ?_⟩
    obtain ⟨cs', hc, ht'⟩ := hi i (by rw [hmm]; split <;> omega)
    rw [hC] at hc
    obtain ⟨_, hcl, hat⟩ := World.cells?_some hc
    match cs', hcl with
    | [v], _ =>
      have h2 := hat 0 (Nat.lt_succ_self 0)
      rw [show (a.add (i * 1)).add 0 = a.add (i * 1) from rfl] at h2
      exact ⟨k, v, _, h2, ht'⟩
end Go.Proofs.YtfebipiccpbdbaaDoor.RowAid
/-! ## LawFnExactWithout -/
/- The statement of FnExactWithout, for every input: the row, out of the pure statement and the printed walk. No condition. -/
namespace Go.Proofs.YtfebipiccpbdbaaDoor.fnExactWithout
open Go.ChangeShapes Go.WideShapes Go.ChangeAt Go.RowKit
open Go.Proofs.YtfebipiccpbdbaaDoorW.PrintWords Go.Proofs.YtfebipiccpbdbaaDoorW.PrintLast Go.Proofs.YtfebipiccpbdbaaDoorW.PrintMore Go.Proofs.YtfebipiccpbdbaaDoor.P
open Go.ChangeMaps (open_string shut_string)
set_option linter.unusedVariables false
theorem own : ownKnob Tryd.prog.godebug = none := by kernel_rfl
theorem laidOut : laidOutB Tryd.prog = true := by kernel_rfl
set_option maxRecDepth 100000 in
theorem rows_t22 {H : Type} {enc : TypeId × Value → H} {w : World} {base : Nat} {spare : Nat → Bool} {held : Bool} {n : Nat} {c : Value} {y : DataW H × List MemPlace} (h : DataW.trod enc Tryd.prog w base spare held n 22 [c] = some y) :
    ∃ (A : Option Addr) (cap : Nat) (l : List S65), c = .slice A l.length cap ∧ Kd.C k65 w A l.length l ∧ l.length ≤ cap ∧ l.length ≤ 9223372036854775807 ∧ ∀ x ∈ l, x.f0.size ≤ 9223372036854775807 ∧ x.f1.size ≤ 9223372036854775807 := by
  rcases RowAid.open_structs Tryd.underlying22 Tryd.underlying65 (by kernel_rfl) (by kernel_rfl) h with rfl | ⟨x, len, cap, rfl, hl, hm, hi⟩
  · exact ⟨none, 0, [], rfl, ⟨rfl, Nat.zero_le _, fun h => absurd h (by decide)⟩, Nat.le_refl _, Nat.zero_le _, fun x hx => by cases hx⟩
  · obtain ⟨l, hlen, hl2⟩ := RowAid.list_of len (fun i (z : S65) => w.cell? (x.add (i * 2 + 0)) = some (.string z.f0) ∧ w.cell? (x.add (i * 2 + 1)) = some (.string z.f1) ∧ z.f0.size ≤ 9223372036854775807 ∧ z.f1.size ≤ 9223372036854775807) (fun i hil => by
      obtain ⟨m, hf⟩ := hi i hil
      obtain ⟨v0, y0, e0, t0⟩ := hf 0 _ rfl
      obtain ⟨s0, q0, _, w0⟩ := DataW.trod_string Tryd.underlying9 t0
      obtain rfl := (List.cons.inj q0).1
      obtain ⟨v1, y1, e1, t1⟩ := hf 1 _ rfl
      obtain ⟨s1, q1, _, w1⟩ := DataW.trod_string Tryd.underlying9 t1
      obtain rfl := (List.cons.inj q1).1
      exact ⟨⟨s0, s1⟩, e0, e1, w0, w1⟩)
    subst hlen
    have hb : l.length ≤ 9223372036854775807 := Nat.le_trans hl (Nat.le_trans hm (by decide))
    refine ⟨some x, cap, l, rfl, ⟨rfl, hb, fun _ => ⟨x, rfl, fun j p hj => ⟨[.string p.f0, .string p.f1], rfl, k65_mk w p, fun i u hu => ?_⟩⟩⟩, hl, hb, fun z hz => ?_⟩
    · match i, hu with
      | 0, hu => obtain rfl := Option.some.inj hu; exact (hl2 j p hj).1
      | 1, hu => obtain rfl := Option.some.inj hu; exact (hl2 j p hj).2.1
    · obtain ⟨j, hj⟩ := List.getElem?_of_mem hz
      exact (hl2 j z hj).2.2
set_option maxRecDepth 100000 in
set_option maxHeartbeats 2000000 in
theorem lifted (os : Os) (started : os.Started) (H : Type) (enc : TypeId × Value → H) :
    ReturnsInHanded {} Tryd.checked os 5 .any (fun w args => (Rows.fnExactWithoutSpec.pre enc Tryd.prog Tryd.f5 [] false w args ∧ laidMetH Tryd.prog Rows.fnExactWithoutRow.laid w) ∧ sizedMet enc Tryd.prog Tryd.f5 (OpenSpec.ofChange Rows.fnExactWithoutSpec) false w args) (Rows.fnExactWithoutSpec.post enc Tryd.prog Tryd.f5 false true false false) := by
  refine RowAid.handed_both (C := Tryd.checked) (X := fun w _ => laidMetH Tryd.prog Rows.fnExactWithoutRow.laid w) (fun _ _ _ hh h => h.of_heap hh) own started (by kernel_rfl) Tryd.func5
    (ChangeSpec.witness_shaped (enc := enc) (C := Tryd.checked) (os := os) (X := fun w _ => laidMetH Tryd.prog Rows.fnExactWithoutRow.laid w) false (World.laidAll Tryd.prog os Rows.fnExactWithoutRow.laid) #[.slice none 0 0, .string ByteArray.empty] 8 (World.laidAll_os _ _ _)
      (World.shaped_of_ZipB (by kernel_rfl) (by kernel_rfl)) (by kernel_rfl) (by kernel_rfl) (by kernel_rfl)
      (by rw [MakeChecks.laidMetH_plain _ _ _ (by kernel_rfl)]; exact laidMet_laidAll _ (by kernel_rfl) (by kernel_rfl))) ?_
  intro W base args ds gs before hval0 hW hcnd hsz0 hL hSh _
  have hsz : (DataW.weightsEach Tryd.prog (Tryd.f5.params.toList ++ Rows.fnExactWithoutSpec.plain.varTypes Tryd.prog) (ds ++ gs)).all (· ≤ reachBytes) = true := hsz0
  have hval : ∀ (j : Nat) t v, Tryd.f5.params[j]? = some t → args[j]? = some v → Value.okWide Tryd.prog W .any base t v := hval0
  have hW' := hW
  obtain ⟨p, q, hA0, hV, rfl, hfz, hnd⟩ := hW
  have hA : DataW.TrodAll enc Tryd.prog W 0 (fun _ => true) true Tryd.f5.params.toList args.toList ds p := hA0
  rw [Tryd.params5] at hA hval hsz
  obtain ⟨v0, vs0, d0, ds0, p0, q0, hargs, rfl, rfl, h0, r0⟩ := trodAll_cons hA
  obtain ⟨v1, vs1, d1, ds1, p1, q1, rfl, rfl, rfl, h1, r1⟩ := trodAll_cons r0
  obtain ⟨rfl, rfl, rfl⟩ := trodAll_nil r1
  obtain rfl : args = #[v0, v1] := by cases args; simp_all
  obtain ⟨rfl, rfl⟩ := trodVars_none hV
  obtain ⟨xa0, xn0, xc0, rfl⟩ := okWide_slice Tryd.underlying22 (hval 0 22 v0 rfl rfl)
  have k0 := h0
  have lt0 : ∀ x ∈ p0, x.block < W.heap.size := by obtain ⟨m, hm⟩ := k0; exact DataW.trod_lt m _ _ _ hm
  obtain ⟨fu0, hf0⟩ := h0
  obtain ⟨A0, c0, l0, e0, hr0, hc0, wl0, we0⟩ := rows_t22 (c := .slice xa0 xn0 xc0) hf0
  cases e0
  obtain ⟨a1, rfl, rfl, rfl, y1⟩ := open_string Tryd.underlying9 (hval 1 9 v1 rfl rfl) h1
  have w1 : a1.size ≤ 140737488351232 := by
    have z := sized_string hsz (j := 1) (t := 9) rfl rfl
    rw [Array.length_toList] at z
    exact z
  clear hA0 hval0 hsz0 hsz
  refine (P.laws_FnExactWithout.walk Pure.FnExactWithout xa0 xc0 l0 a1 W wl0 we0 w1 hr0 hc0).mono fun e W' ⟨he, bel⟩ => ?_
  subst he
  exact ⟨_, rfl, _, _, _, [], _, [], hW', trodAll_mk1 (shut_bool Tryd.underlying4 _), (trodAll_cons_mk (Below.trod laidOut (by kernel_rfl) (of_decide_eq_true (by kernel_rfl)) k0 bel lt0) (trodAll_cons_mk (shut_string Tryd.underlying9 y1) trodAll_mk0)), rfl, bel.frame _, fun h => by cases h⟩
theorem over : Rows.fnExactWithoutRow.holds Tryd.pinned (OpenSpec.ofChange Rows.fnExactWithoutSpec) :=
  OpenClaim.holds_of_wide 5 Tryd.f5 rfl rfl rfl rfl rfl rfl rfl ⟨rfl, rfl, rfl, rfl, rfl⟩ rfl rfl rfl rfl rfl (by kernel_rfl) Tryd.func5 (by kernel_rfl)
    (of_decide_eq_true (by kernel_rfl)) (by unfold Func.isWrapper; first | (rw [if_pos (by decide +kernel)]; kernel_rfl) | (rw [if_neg (by decide +kernel)]; exact ⟨rfl, rfl⟩))
    (fun os started H enc _ => lifted os started H enc)
theorem proved : Rows.FnExactWithoutSaid := over
#print axioms proved
end Go.Proofs.YtfebipiccpbdbaaDoor.fnExactWithout
namespace Go.Proofs.YtfebipiccpbdbaaDoor
/-- The tied card, under a short name, for the claim. -/
theorem fnExactWithout_card : Rows.FnExactWithoutCardSaid :=
  Claim7.holds_tied_plain_at .later [] [.data, .pinned] true (true, "090dd8b52d5a9aab87a70a45cd45ba9354c43069745460516db811f4df20d7d4") false
    fnExactWithout.proved (fun _ h => by cases h) (by kernel_rfl) (fun _ h => by cases h) fnExactWithout_row_tie rfl ⟨rfl, rfl⟩ (by kernel_rfl) rfl
    (fun f fn hf hfn => by
      obtain rfl : f = 5 := Option.some.inj ((show Tryd.prog.funcNamed "loop.example/g00207/laws.FnExactWithout" = some 5 by kernel_rfl).symm.trans hf) |>.symm
      obtain rfl : fn = Tryd.f5 := (Option.some.inj (Tryd.func5.symm.trans hfn)).symm
      exact ⟨by kernel_rfl, fun j t ht => by
        rw [Tryd.params5] at ht
        have hm : t ∈ [22, 9] := by simpa using Array.mem_of_getElem? ht
        have hall : ([22, 9].all fun u => !Tryd.prog.wantsStandIn u) = true := by kernel_rfl
        exact (show Tryd.prog.wantsStandIn t = false by simpa using List.all_eq_true.1 hall t hm)⟩)
    (by kernel_rfl)
#print axioms fnExactWithout_card
end Go.Proofs.YtfebipiccpbdbaaDoor
