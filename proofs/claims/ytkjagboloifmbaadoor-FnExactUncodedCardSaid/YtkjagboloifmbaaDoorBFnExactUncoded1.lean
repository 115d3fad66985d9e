/- Functions of the Go program as Lean functions, and proofs about them, merged out of this session's texts by its program bundle.py; conditions: those that each theorem states. -/
import Derived.Below
import Derived.ChangeOld
import Derived.Handed
import Derived.HandedShaped
import Derived.LaidMore
import Derived.Lay
import Derived.Lib.Bytealg
import Derived.Lib.Strings
import Derived.OpenShut
import Derived.ProofKit
import Derived.SevenTiedAt
import Derived.ShutString
import Derived.SizedLaws
import Derived.Stop.Joined
import Derived.Test.YtkjagboloifmbaaDoorCards
import Derived.Test.YtkjagboloifmbaaDoorGParseInt
import Derived.Test.YtkjagboloifmbaaDoorGall
import Derived.Test.YtkjagboloifmbaaDoorGspecl3Plain
import Derived.Test.YtkjagboloifmbaaDoorP0
import Derived.Test.YtkjagboloifmbaaDoorPimplHexDigits
import Derived.Test.YtkjagboloifmbaaDoorPimplUncoded
import Derived.Test.YtkjagboloifmbaaDoorPimplisDigit
import Derived.Test.YtkjagboloifmbaaDoorPimplisHex
import Derived.Test.YtkjagboloifmbaaDoorPimplisLetter
import Derived.Test.YtkjagboloifmbaaDoorPimplisPlain
import Derived.Test.YtkjagboloifmbaaDoorPlawsFnExactUncoded
import Derived.Test.YtkjagboloifmbaaDoorPspecHexDigits
import Derived.Test.YtkjagboloifmbaaDoorPspecUncoded
import Derived.Test.YtkjagboloifmbaaDoorPspecl1Hex
import Derived.Test.YtkjagboloifmbaaDoorRows
import Derived.Test.YtkjagboloifmbaaDoorTie
import Derived.WalkKit
/-! ## RowAidD -/
/-
  The wrap of a row that lists variables, the world's shape kept beside what it lists. No condition.
-/
namespace Go.Proofs.YtkjagboloifmbaaDoor.RowAid
open Go
variable {H : Type} {enc : TypeId × Value → H}
theorem handed_both {a : Assume} {C : Checked} {os : Os} {f : FuncId} {fn : Func} {s : ChangeSpec} {conds : List PathCond} {apart fresh handsOn again : Bool} {X : World → Array Value → Prop}
    (hX : ∀ (w w' : World) (args : Array Value), w.heap = w'.heap → X w args → X w' args)
    (own : ownKnob C.prog.godebug = none) (started : os.Started) (noInit : C.prog.inits.idxOf? f = none) (hfn : C.prog.funcs[f]? = some fn)
    (witness : ∃ (w : World) (tape : Tape) (i : Input), w.os = os ∧ (w.forCall tape i).Shaped C.prog ∧ i.vars = [] ∧ Input.okWide C.prog (w.forCall tape i) .any w.heap.size f i ∧
      ((s.pre enc C.prog fn conds apart (w.forCall tape i).memory i.args ∧ X (w.forCall tape i).memory i.args) ∧ sizedMet enc C.prog fn (OpenSpec.ofChange s) apart (w.forCall tape i).memory i.args) ∧ a.holds C.prog (lone (Frame.enter C.prog f i.args .normal) [] (w.forCall tape i)))
    (contract : ∀ (W : World) (base : Nat) (args : Array Value) (ds gs : List (DataW H)) (before : List MemPlace),
      (∀ (j : Nat) t v, fn.params[j]? = some t → args[j]? = some v → Value.okWide C.prog W .any base t v) →
      DataW.Whole enc C.prog fn.params.toList s.vars apart W args.toList ds gs before →
      conds.all (PathCond.test C.prog ⟨fn.params.toList, ds, s.plain.varTypes C.prog, gs⟩) = true →
      (DataW.weightsEach C.prog (fn.params.toList ++ s.plain.varTypes C.prog) (ds ++ gs)).all (· ≤ reachBytes) = true → X W args → W.ShapedOpen C.prog →
      a.holds C.prog (lone (Frame.enter C.prog f args .normal) [] W) →
      Calls C.prog f args W fun e W' => ∃ v, e = .returned v ∧ s.post enc C.prog fn apart fresh handsOn again W args v W') :
    ReturnsInHanded a C os f .any (fun w args => (s.pre enc C.prog fn conds apart w args ∧ X w args) ∧ sizedMet enc C.prog fn (OpenSpec.ofChange s) apart w args) (s.post enc C.prog fn apart fresh handsOn again) := by
  refine returnsInHanded_of_calls own started noInit witness ?_
  intro w tape i _ hsh _ hok hpre hholds
  obtain ⟨_, _, _, fn', hfn', _, _, _, _, hval⟩ := hok
  have e : fn' = fn := Option.some.inj (hfn'.symm.trans hfn)
  subst e
  obtain ⟨⟨⟨ds, gs, before, hw, hc⟩, hx⟩, hz⟩ := hpre
  have hw' := DataW.Whole.of_heap (w' := w.forCall tape i) (by rfl) hw
  refine (contract (w.forCall tape i) w.heap.size i.args ds gs before hval hw' hc (hz.weights hw) (hX _ _ _ (by rfl) hx) hsh hholds).mono fun e W' ⟨v, he, hp⟩ => ?_
  subst he
  exact ChangeSpec.post_blind hp
end Go.Proofs.YtkjagboloifmbaaDoor.RowAid
/-! ## Q0 -/
/-
  Small laws on the printed functions' words: loops over a text's bytes, from some number of rounds on. No condition beyond those that each law states.
-/
namespace Go.Proofs.YtkjagboloifmbaaDoor.Q
open Go.RowKit Go.Proofs.YtkjagboloifmbaaDoorW.PrintWords Go.Proofs.YtkjagboloifmbaaDoorW.PrintLast Go.Proofs.YtkjagboloifmbaaDoorW.PrintMore

theorem wrap_in {i : Int} (h0 : -9223372036854775808 ≤ i) (h1 : i ≤ 9223372036854775807) : wrap64 i = i := by unfold wrap64; omega
theorem wrap_next {i : Nat} {n : Nat} (h : i < n) (hn : n ≤ 4611686018427387904) : wrap64 ((i : Int) + 1) = ((i + 1 : Nat) : Int) := by unfold wrap64; omega

theorem toList_data (s : ByteArray) : s.toList = s.data.toList := ByteArray.toList_eq s
theorem eq_of_toList {a b : ByteArray} (h : a.toList = b.toList) : a = b := by
  rw [toList_data, toList_data] at h
  exact ByteArray.ext (Array.toList_inj.1 h)
theorem bt_get (s : ByteArray) (i : Nat) (h : i < s.size) : (bytesOf s)[i]? = some (bt s i) := by
  rw [← rd_bytesOf]
  have h1 : i < (bytesOf s).length := by rw [bytesOf_length]; exact h
  simp [rd, List.getD_eq_getElem?_getD, List.getElem?_eq_getElem h1]
theorem drop_bt (s : ByteArray) (i : Nat) (h : i < s.size) : (bytesOf s).drop i = bt s i :: (bytesOf s).drop (i + 1) := by
  have h1 : i < (bytesOf s).length := by rw [bytesOf_length]; exact h
  rw [List.drop_eq_getElem_cons h1]
  have := bt_get s i h
  rw [List.getElem?_eq_getElem h1] at this
  rw [Option.some.inj this]
theorem mem_bytes {s : ByteArray} {c : Int} (h : c ∈ bytesOf s) : 0 ≤ c ∧ c ≤ 255 := by
  unfold bytesOf at h
  obtain ⟨b, _, rfl⟩ := List.mem_map.1 h
  have := b.toNat_lt
  omega
theorem bytes_nums (l : List Int) (h : ∀ c ∈ l, 0 ≤ c ∧ c ≤ 255) : bytesOf (strOfNums l) = l := by
  unfold bytesOf
  rw [strOfNums_data, List.map_map]
  refine (List.map_congr_left fun c hc => ?_).trans (List.map_id l)
  have := h c hc
  simp only [Function.comp, UInt8.toNat_ofNat', id]
  omega
theorem nums_bytes (s : ByteArray) : strOfNums (bytesOf s) = s := by
  apply ByteArray.ext
  apply Array.toList_inj.1
  rw [strOfNums_data]
  unfold bytesOf
  rw [List.map_map]
  refine (List.map_congr_left fun c hc => ?_).trans (List.map_id _)
  simp
theorem bytes_inj {a b : ByteArray} (h : bytesOf a = bytesOf b) : a = b := by rw [← nums_bytes a, ← nums_bytes b, h]
theorem bytes_append (a b : ByteArray) : bytesOf (a ++ b) = bytesOf a ++ bytesOf b := by
  unfold bytesOf
  rw [← List.map_append]
  simp [ByteArray.data_append]

/-- A loop over bytes: what a round does with its state and a byte; an end ahead of time. -/
def runL {σ β : Type} (f : σ → Int → σ ⊕ β) (fin : σ → β) : List Int → σ → β
  | [], st => fin st
  | c :: cs, st => match f st c with
    | .inl st' => runL f fin cs st'
    | .inr b => b
/-- The printed loop comes to what 'runL' comes to, from some number of rounds on. -/
theorem ev_run {σ β : Type} (s : ByteArray) (I : σ → Nat → Prop) (f : σ → Int → σ ⊕ β) (fin : σ → β) (g : Nat → σ → Int → Option β) (K : Nat)
    (hstep : ∀ k st (i : Nat), K ≤ k → i < s.size → I st i → (∀ st', f st (bt s i) = .inl st' → g (k + 1) st i = g k st' ((i + 1 : Nat) : Int) ∧ I st' (i + 1)) ∧ (∀ b, f st (bt s i) = .inr b → g (k + 1) st i = some b))
    (hend : ∀ k st, K ≤ k → I st s.size → g (k + 1) st (s.size : Int) = some (fin st)) (st : σ) (h0 : I st 0) :
    Ev (fun k => g k st 0) (runL f fin (bytesOf s) st) := by
  have key : ∀ (d i : Nat) (st : σ), i + d = s.size → I st i → ∀ k, K + d < k → g k st (i : Int) = some (runL f fin ((bytesOf s).drop i) st) := by
    intro d
    induction d with
    | zero =>
      intro i st hd hI k hk
      obtain ⟨k, rfl⟩ : ∃ m, k = m + 1 := ⟨k - 1, by omega⟩
      have e : i = s.size := by omega
      subst e
      rw [hend k st (by omega) hI, List.drop_of_length_le (by rw [bytesOf_length]; exact Nat.le_refl _)]
      rfl
    | succ d ih =>
      intro i st hd hI k hk
      obtain ⟨k, rfl⟩ : ∃ m, k = m + 1 := ⟨k - 1, by omega⟩
      obtain ⟨h1, h2⟩ := hstep k st i (by omega) (by omega) hI
      rw [drop_bt s i (by omega)]
      show g (k + 1) st i = some (match f st (bt s i) with | .inl st' => runL f fin ((bytesOf s).drop (i + 1)) st' | .inr b => b)
      cases hf : f st (bt s i) with
      | inl st' =>
        obtain ⟨e, hI'⟩ := h1 st' hf
        rw [e]
        exact ih (i + 1) st' (by omega) hI' k (by omega)
      | inr b => exact h2 b hf
  refine ⟨K + s.size + 1, fun k hk => ?_⟩
  have := key s.size 0 st (by omega) h0 k (by omega)
  rw [List.drop_zero] at this
  exact this

/-- A loop that asks each byte. -/
theorem ev_all (s : ByteArray) (p : Int → Bool) (g : Nat → Int → Option Bool) (K : Nat)
    (h1 : ∀ k (i : Nat), K ≤ k → i < s.size → p (bt s i) = true → g (k + 1) i = g k ((i + 1 : Nat) : Int))
    (h0 : ∀ k (i : Nat), K ≤ k → i < s.size → p (bt s i) = false → g (k + 1) i = some false)
    (he : ∀ k, K ≤ k → g (k + 1) (s.size : Int) = some true) : Ev (fun k => g k 0) ((bytesOf s).all p) := by
  have h := ev_run (σ := Unit) (β := Bool) s (fun _ _ => True) (fun _ c => if p c = true then .inl () else .inr false) (fun _ => true) (fun k _ i => g k i) K
    (fun k st i hk hi _ => ⟨fun st' e => ⟨h1 k i hk hi (by
        by_cases hp : p (bt s i) = true
        · exact hp
        · rw [if_neg hp] at e; cases e), trivial⟩, fun b e => by
        by_cases hp : p (bt s i) = true
        · rw [if_pos hp] at e; cases e
        · rw [if_neg hp] at e
          obtain rfl : false = b := by injection e
          exact h0 k i hk hi (by simpa using hp)⟩)
    (fun k st hk _ => he k hk) () trivial
  have e : ∀ l : List Int, runL (σ := Unit) (β := Bool) (fun _ c => if p c = true then .inl () else .inr false) (fun _ => true) l () = l.all p := by
    intro l
    induction l with
    | nil => rfl
    | cons c cs ih =>
      rw [List.all_cons]
      unfold runL
      by_cases hp : p c = true
      · simp only [hp, if_true, Bool.true_and]; exact ih
      · simp only [(by simpa using hp : p c = false), Bool.false_and, Bool.false_eq_true, if_false]
  rw [e] at h
  exact h
theorem runL_all {β : Type} (p : Int → Bool) (r b : β) (l : List Int) : runL (σ := Unit) (fun _ c => if p c = true then .inl () else .inr b) (fun _ => r) l () = if l.all p = true then r else b := by
  induction l with
  | nil => rfl
  | cons c cs ih =>
    rw [List.all_cons]
    unfold runL
    by_cases hp : p c = true
    · simp only [hp, if_true, Bool.true_and]; exact ih
    · simp only [(by simpa using hp : p c = false), Bool.false_and, Bool.false_eq_true, if_false]
/-- A loop that asks each byte, and goes on behind it. -/
theorem ev_allr {β : Type} (s : ByteArray) (p : Int → Bool) (r b : β) (g : Nat → Int → Option β) (K : Nat)
    (h1 : ∀ k (i : Nat), K ≤ k → i < s.size → p (bt s i) = true → g (k + 1) i = g k ((i + 1 : Nat) : Int))
    (h0 : ∀ k (i : Nat), K ≤ k → i < s.size → p (bt s i) = false → g (k + 1) i = some b)
    (he : ∀ k, K ≤ k → g (k + 1) (s.size : Int) = some r) : Ev (fun k => g k 0) (if (bytesOf s).all p = true then r else b) := by
  rw [← runL_all p r b (bytesOf s)]
  refine ev_run (σ := Unit) s (fun _ _ => True) (fun _ c => if p c = true then .inl () else .inr b) (fun _ => r) (fun k _ i => g k i) K
    (fun k st i hk hi _ => ⟨fun st' e => ⟨h1 k i hk hi (by
        by_cases hp : p (bt s i) = true
        · exact hp
        · rw [if_neg hp] at e; cases e), trivial⟩, fun b' e => by
        by_cases hp : p (bt s i) = true
        · rw [if_pos hp] at e; cases e
        · rw [if_neg hp] at e
          obtain rfl : b = b' := by injection e
          exact h0 k i hk hi (by simpa using hp)⟩)
    (fun k st hk _ => he k hk) () trivial
/-- A loop that puts something behind a list for each byte. -/
theorem runL_flat {β : Type} (f : Int → List Int) (fin : List Int → β) (l st : List Int) : runL (fun st c => .inl (st ++ f c)) fin l st = fin (st ++ l.flatMap f) := by
  induction l generalizing st with
  | nil => simp [runL]
  | cons c cs ih =>
    unfold runL
    simp only [ih, List.flatMap_cons, List.append_assoc]
theorem ev_const {α : Type} {x : Option α} {r : α} (h : x = some r) : Ev (fun _ => x) r := ⟨0, fun _ _ => h⟩
theorem ev_eq {α : Type} {g : Nat → Option α} {r r' : α} (h : Ev g r) (e : r = r') : Ev g r' := e ▸ h
/-- From a number of rounds on: a law that holds at each such number. -/
theorem ev_now {α : Type} {g : Nat → Option α} {r : α} (K : Nat) (h : ∀ k, K ≤ k → g k = some r) : Ev g r := ⟨K, h⟩
theorem all_congr' {l : List Int} {p q : Int → Bool} (h : ∀ c ∈ l, p c = q c) : l.all p = l.all q := by
  induction l with
  | nil => rfl
  | cons a l ih =>
    rw [List.all_cons, List.all_cons, h a List.mem_cons_self, ih fun c hc => h c (List.mem_cons_of_mem _ hc)]
end Go.Proofs.YtkjagboloifmbaaDoor.Q
/-! ## Qall -/
/-
  What the byte predicates of impl and spec come to, and 'all' over each. No condition but a text's greatest length.
-/
namespace Go.Proofs.YtkjagboloifmbaaDoor.Q
set_option linter.unusedVariables false
set_option linter.unusedSimpArgs false
open Go.RowKit Go.Proofs.YtkjagboloifmbaaDoor.P Go.Proofs.YtkjagboloifmbaaDoorW.PrintWords Go.Proofs.YtkjagboloifmbaaDoorW.PrintLast Go.Proofs.YtkjagboloifmbaaDoorW.PrintMore

def visB (c : Int) : Bool := decide (32 ≤ c) && decide (c ≤ 126) || decide (c = 9)
def digB (c : Int) : Bool := decide (48 ≤ c) && decide (c ≤ 57)
def letB (c : Int) : Bool := decide (97 ≤ c) && decide (c ≤ 122) || decide (65 ≤ c) && decide (c ≤ 90)
def hexB (c : Int) : Bool := digB c || decide (97 ≤ c) && decide (c ≤ 102) || decide (65 ≤ c) && decide (c ≤ 70)
def tagB (c : Int) : Bool := decide (33 ≤ c) && decide (c ≤ 126) && decide (c ≠ 34)
def tokB (c : Int) : Bool := letB c || digB c || decide (c ∈ [33, 35, 36, 37, 38, 39, 42, 43, 45, 46, 94, 95, 124, 126, 96])
def plaB (c : Int) : Bool := letB c || digB c || decide (c ∈ [45, 46, 95, 126, 47, 58, 64, 33, 36, 38, 39, 40, 41, 42, 43, 44, 59, 61])

theorem impl_isDigit_is (c : Int) : impl_isDigit.f c = some (digB c) := by
  unfold impl_isDigit.f digB
  by_cases h1 : c ≥ 48 <;> simp [h1] <;> omega
theorem impl_isLetter_is (c : Int) : impl_isLetter.f c = some (letB c) := by
  unfold impl_isLetter.f letB
  by_cases h1 : c ≥ 97 <;> by_cases h2 : c ≤ 122 <;> by_cases h3 : c ≥ 65 <;> by_cases h4 : c ≤ 90 <;> simp [h1, h2, h3, h4] <;> omega
theorem impl_isHex_is (c : Int) : impl_isHex.f c = some (hexB c) := by
  unfold impl_isHex.f hexB
  rw [impl_isDigit_is]
  cases h0 : digB c <;> by_cases h1 : c ≥ 97 <;> by_cases h2 : c ≤ 102 <;> by_cases h3 : c ≥ 65 <;> by_cases h4 : c ≤ 70 <;> simp [h1, h2, h3, h4] <;> omega

/-- A law on bytes, tried at each. -/
theorem byte_cases {p : Int → Prop} (h : ∀ n : Fin 256, p (n.val : Int)) (c : Int) (h0 : 0 ≤ c) (h1 : c ≤ 255) : p c := by
  have := h ⟨c.toNat, by omega⟩
  rwa [show ((⟨c.toNat, by omega⟩ : Fin 256).val : Int) = c from by show (c.toNat : Int) = c; omega] at this
theorem impl_isPlain_is (c : Int) (h0 : 0 ≤ c) (h1 : c ≤ 255) : impl_isPlain.f c = some (plaB c) :=
  byte_cases (p := fun c => impl_isPlain.f c = some (plaB c)) (by decide +kernel) c h0 h1
theorem spec_l3Plain_is (c : Int) (h0 : 0 ≤ c) (h1 : c ≤ 255) : spec_l3Plain.f c = some (plaB c) :=
  byte_cases (p := fun c => spec_l3Plain.f c = some (plaB c)) (by decide +kernel) c h0 h1
/-- A hexadecimal digit's value, or -1. -/
def hexV (c : Int) : Int := if digB c = true then c - 48 else if 97 ≤ c ∧ c ≤ 102 then c - 87 else if 65 ≤ c ∧ c ≤ 70 then c - 55 else -1
theorem hexV_neg (c : Int) : decide (hexV c < 0) = !hexB c := by
  unfold hexV hexB
  cases h0 : digB c
  · by_cases h1 : 97 ≤ c ∧ c ≤ 102
    · simp [h1]; omega
    · by_cases h2 : 65 ≤ c ∧ c ≤ 70
      · have h1' : (decide (97 ≤ c) && decide (c ≤ 102)) = false := by simp; omega
        simp [h1, h1', h2]; omega
      · have h1' : (decide (97 ≤ c) && decide (c ≤ 102)) = false := by simp; omega
        have h2' : (decide (65 ≤ c) && decide (c ≤ 70)) = false := by simp; omega
        simp [h1, h1', h2, h2']
  · unfold digB at h0
    simp at h0
    simp
    omega
theorem spec_l1Hex_is (c : Int) (h0 : 0 ≤ c) (h1 : c ≤ 255) (k : Nat) (hk : 2 ≤ k) : spec_l1Hex.f k c = some (hexV c) :=
  at_rounds (fun k => spec_l1Hex.mono c k) hk (byte_cases (p := fun c => spec_l1Hex.f 2 c = some (hexV c)) (by decide +kernel) c h0 h1)
/-- 'all' over a predicate. -/
theorem all_hex (s : ByteArray) (hs : s.size ≤ 9223372036854775807) : impl_all.f s 59 = some ((bytesOf s).all hexB) := by
  unfold impl_all.f
  rw [if_pos hs]
  simp only [Nat.reduceEqDiff, if_true, if_false, reduceIte]
  rw [all_congr' fun c hc => (by rw [impl_isHex_is]; cases hexB c <;> rfl : (impl_isHex.f c == some true) = hexB c)]
theorem all_dig (s : ByteArray) (hs : s.size ≤ 9223372036854775807) : impl_all.f s 70 = some ((bytesOf s).all digB) := by
  unfold impl_all.f
  rw [if_pos hs]
  simp only [Nat.reduceEqDiff, if_true, if_false, reduceIte]
  rw [all_congr' fun c hc => (by rw [impl_isDigit_is]; cases digB c <;> rfl : (impl_isDigit.f c == some true) = digB c)]
end Go.Proofs.YtkjagboloifmbaaDoor.Q
/-! ## Qbytes -/
/-
  Bytes of parts of a text. No condition.
-/
namespace Go.Proofs.YtkjagboloifmbaaDoor.Q
set_option linter.unusedVariables false
set_option linter.unusedSimpArgs false
open Go.RowKit Go.Proofs.YtkjagboloifmbaaDoor.P Go.Proofs.YtkjagboloifmbaaDoorW.PrintWords Go.Proofs.YtkjagboloifmbaaDoorW.PrintLast Go.Proofs.YtkjagboloifmbaaDoorW.PrintMore

theorem bytes_extract (s : ByteArray) (a b : Nat) : bytesOf (s.extract a b) = ((bytesOf s).drop a).take (b - a) := by
  unfold bytesOf
  rw [Lib.extract_data, List.map_take, List.map_drop]
theorem bytes_last (s : ByteArray) (h : 0 < s.size) : bytesOf s = bytesOf (s.extract 0 (s.size - 1)) ++ [bt s ((s.size - 1 : Nat) : Int)] := by
  rw [bytes_extract, List.drop_zero, Nat.sub_zero]
  have h1 := drop_bt s (s.size - 1) (by omega)
  have h2 : (bytesOf s).drop (s.size - 1 + 1) = [] := List.drop_of_length_le (by rw [bytesOf_length]; omega)
  rw [h2] at h1
  rw [← h1, List.take_append_drop]
theorem bytes_first (s : ByteArray) (h : 0 < s.size) : bytesOf s = bt s 0 :: bytesOf (s.extract 1 s.size) := by
  rw [bytes_extract]
  have h1 := drop_bt s 0 h
  rw [List.drop_zero] at h1
  rw [List.take_of_length_le (by rw [List.length_drop, bytesOf_length]; exact Nat.le_refl _)]
  exact h1
theorem size_extract (s : ByteArray) (a b : Nat) (hb : b ≤ s.size) : (s.extract a b).size = b - a := by
  rw [← bytesOf_length, bytes_extract, List.length_take, List.length_drop, bytesOf_length]
  omega
theorem toList_nil (s : ByteArray) : s.toList = [] ↔ s.size = 0 := by
  rw [toList_data, ← data_length]
  exact List.length_eq_zero_iff.symm
theorem bytes_nil (s : ByteArray) (h : s.size = 0) : bytesOf s = [] := List.eq_nil_of_length_eq_zero (by rw [bytesOf_length]; exact h)
theorem bytes_ofList (l : List UInt8) : bytesOf ⟨l.toArray⟩ = l.map fun b => (b.toNat : Int) := by
  unfold bytesOf
  rfl
theorem bytes_two (s : ByteArray) (i : Nat) (h : i + 2 ≤ s.size) : bytesOf (s.extract i (i + 2)) = [bt s (i : Int), bt s ((i + 1 : Nat) : Int)] := by
  rw [bytes_extract, drop_bt s i (by omega), drop_bt s (i + 1) (by omega), show i + 2 - i = 2 from by omega]
  rfl
end Go.Proofs.YtkjagboloifmbaaDoor.Q
/-! ## Qnum -/
/-
  Digits and HexDigits of spec and impl: a text's number, and whether it is one. No condition.
-/
namespace Go.Proofs.YtkjagboloifmbaaDoor.Q
set_option linter.unusedVariables false
set_option linter.unusedSimpArgs false
open Go.RowKit Go.Proofs.YtkjagboloifmbaaDoor.P Go.Proofs.YtkjagboloifmbaaDoorW.PrintWords Go.Proofs.YtkjagboloifmbaaDoorW.PrintLast Go.Proofs.YtkjagboloifmbaaDoorW.PrintMore

theorem dgt_hex (c : Int) : dgt c = hexV c := by
  unfold dgt hexV digB
  by_cases h : 48 ≤ c ∧ c ≤ 57
  · rw [if_pos h, if_pos (by simp [h])]
  · have hb : (decide (48 ≤ c) && decide (c ≤ 57)) = false := by simp; omega
    rw [if_neg h, hb]
    simp
theorem hexV_lt (c : Int) : hexV c < 16 := by
  rw [← dgt_hex]
  unfold dgt
  split
  · omega
  · split
    · omega
    · split <;> omega
theorem hexB_is (c : Int) : hexB c = (decide (0 ≤ dgt c) && decide (dgt c < 16)) := by
  have h1 := hexV_neg c
  have h2 := hexV_lt c
  rw [dgt_hex, decide_eq_true h2, Bool.and_true]
  by_cases h : 0 ≤ hexV c
  · rw [decide_eq_false (by omega : ¬ hexV c < 0)] at h1
    rw [decide_eq_true h]
    cases hb : hexB c
    · rw [hb] at h1; cases h1
    · rfl
  · rw [decide_eq_true (by omega : hexV c < 0)] at h1
    rw [decide_eq_false h]
    cases hb : hexB c
    · rfl
    · rw [hb] at h1; cases h1
theorem digB_is (c : Int) : digB c = (decide (0 ≤ dgt c) && decide (dgt c < 10)) := by
  unfold digB dgt
  by_cases h : 48 ≤ c ∧ c ≤ 57
  · rw [if_pos h]
    have a : 0 ≤ c - 48 := by omega
    have b : c - 48 < 10 := by omega
    simp [h, a, b]
  · rw [if_neg h]
    have : (decide (48 ≤ c) && decide (c ≤ 57)) = false := by simp; omega
    rw [this]
    split
    · have : ¬ c - 87 < 10 := by omega
      simp [this]
    · split
      · have : ¬ c - 55 < 10 := by omega
        simp [this]
      · simp
theorem dgt_dig {c : Int} (h : digB c = true) : dgt c = c - 48 ∧ 48 ≤ c ∧ c ≤ 57 := by
  unfold digB at h
  simp at h
  unfold dgt
  rw [if_pos h]
  exact ⟨rfl, h⟩
theorem all_okB16 (l : List Int) : l.all hexB = okB 16 l := all_congr' fun c _ => hexB_is c
theorem all_okB10 (l : List Int) : l.all digB = okB 10 l := all_congr' fun c _ => digB_is c
/-- A text's number at a base, if it has one to so many digits. -/
def numOk (b : Int) (m : Nat) (p : Int → Bool) (s : ByteArray) : Int × Bool := if 1 ≤ s.size ∧ s.size ≤ m ∧ (bytesOf s).all p = true then (numB b (bytesOf s), true) else (0, false)
theorem runL_num (b : Int) (p : Int → Bool) (l : List Int) (st : Int) :
    runL (fun (st : Int) c => if p c = true then .inl (st * b + dgt c) else .inr ((0 : Int), false)) (fun st => (st, true)) l st = if l.all p = true then (l.foldl (fun n c => n * b + dgt c) st, true) else (0, false) := by
  induction l generalizing st with
  | nil => rfl
  | cons c cs ih =>
    rw [List.all_cons]
    unfold runL
    by_cases hp : p c = true
    · simp only [hp, if_true, Bool.true_and, ih, List.foldl_cons]
    · simp only [(by simpa using hp : p c = false), Bool.false_and, Bool.false_eq_true, if_false]
theorem num_next {b st d : Int} {i : Nat} (hb : 0 ≤ b) (h0 : 0 ≤ st) (h1 : st < b ^ i) (d0 : 0 ≤ d) (d1 : d < b) : 0 ≤ st * b ∧ 0 ≤ st * b + d ∧ st * b + d < b ^ (i + 1) := by
  have a := Int.mul_nonneg h0 hb
  rw [Int.pow_succ]
  have : (st + 1) * b ≤ b ^ i * b := Int.mul_le_mul_of_nonneg_right (by omega) hb
  rw [Int.add_mul, Int.one_mul] at this
  omega
theorem num_loop (b : Int) (hb : b = 10 ∨ b = 16) (m : Nat) (hm : (b = 10 ∧ m ≤ 15) ∨ (b = 16 ∧ m ≤ 13)) (p : Int → Bool) (hp : ∀ c, p c = true → 0 ≤ dgt c ∧ dgt c < b) (s : ByteArray) (hs : s.size ≤ m) (g : Nat → Int → Int → Option (Int × Bool)) (K : Nat)
    (h1 : ∀ k (st : Int) (i : Nat), K ≤ k → i < s.size → p (bt s i) = true → wrap64 (st * b) = st * b → wrap64 (st * b + dgt (bt s i)) = st * b + dgt (bt s i) → g (k + 1) st i = g k (st * b + dgt (bt s i)) ((i + 1 : Nat) : Int))
    (h0 : ∀ k (st : Int) (i : Nat), K ≤ k → i < s.size → p (bt s i) = false → g (k + 1) st i = some (0, false))
    (he : ∀ k (st : Int), K ≤ k → g (k + 1) st (s.size : Int) = some (st, true)) : Ev (fun k => g k 0 0) (if (bytesOf s).all p = true then (numB b (bytesOf s), true) else (0, false)) := by
  have hr := ev_run s (fun (st : Int) i => 0 ≤ st ∧ st < b ^ i) (fun (st : Int) c => if p c = true then .inl (st * b + dgt c) else .inr ((0 : Int), false)) (fun st => (st, true)) g K
    (fun k st i hk hi hI => ⟨fun st' e => (by
        by_cases hq : p (bt s i) = true
        · rw [if_pos hq] at e
          obtain rfl : st * b + dgt (bt s i) = st' := by injection e
          obtain ⟨d0, d1⟩ := hp _ hq
          obtain ⟨a0, a1, a2⟩ := num_next (b := b) (by omega) hI.1 hI.2 d0 d1
          have hw := pow_small hb hm (k := i + 1) (by omega)
          exact ⟨h1 k st i hk hi hq (wrap_in (by omega) (by omega)) (wrap_in (by omega) (by omega)), a1, a2⟩
        · rw [if_neg hq] at e; cases e),
      fun r e => (by
        by_cases hq : p (bt s i) = true
        · rw [if_pos hq] at e; cases e
        · rw [if_neg hq] at e
          obtain rfl : ((0 : Int), false) = r := by injection e
          exact h0 k st i hk hi (by simpa using hq))⟩)
    (fun k st hk _ => he k st hk) 0 ⟨by omega, by simp⟩
  rw [runL_num] at hr
  exact hr
theorem spec_HexDigits_ev (s : ByteArray) : Ev (fun k => spec_HexDigits.f k s) (numOk 16 13 hexB s) := by
  have no : Ev (fun k => spec_HexDigits.j0 k s true) ((0 : Int), false) := Ev.step (f := fun _ => some (0, false)) (fun k => by simp only [spec_HexDigits.j0, if_true]) (Ev.now _)
  unfold spec_HexDigits.f numOk
  by_cases h1 : (s.size : Int) < 1
  · simp only [if_pos h1]
    rw [if_neg (by omega)]
    exact no
  · simp only [if_neg h1]
    by_cases h2 : (s.size : Int) > 13
    · rw [decide_eq_true h2, if_neg (by omega)]
      exact no
    · rw [decide_eq_false h2]
      refine Ev.step (f := fun k => spec_HexDigits.l0 k s 0 0) (fun k => by simp only [spec_HexDigits.j0, Bool.false_eq_true, if_false]) ?_
      refine ev_eq (num_loop 16 (.inr rfl) 13 (.inr ⟨rfl, Nat.le_refl _⟩) hexB (fun c h => by rw [hexB_is] at h; simpa using h) s (by omega) (fun k st i => spec_HexDigits.l0 k s st i) 2 (fun k st i hk hi hq w1 w2 => ?_) (fun k st i hk hi hq => ?_) (fun k st _ => ?_)) ?_
      · have hr := bt_range s i
        have hn := hexV_neg (bt s i)
        rw [hq] at hn
        rw [dgt_hex] at w2 ⊢
        simp only [spec_HexDigits.l0]
        rw [if_pos (by omega), if_pos (by omega), spec_l1Hex_is _ hr.1 hr.2 k hk, wrap_next hi (by omega)]
        simp only [Option.bind_some]
        rw [if_neg (by simpa using hn), w1, w2]
      · have hr := bt_range s i
        have hn := hexV_neg (bt s i)
        rw [hq] at hn
        simp only [spec_HexDigits.l0]
        rw [if_pos (by omega), if_pos (by omega), spec_l1Hex_is _ hr.1 hr.2 k hk]
        simp only [Option.bind_some]
        rw [if_pos (by simpa using hn)]
      · simp only [spec_HexDigits.l0]
        rw [if_neg (by omega)]
      · have a : 1 ≤ s.size := by omega
        have b : s.size ≤ 13 := by omega
        simp only [a, b, true_and]
theorem impl_HexDigits_is (s : ByteArray) : impl_HexDigits.f s = some (numOk 16 13 hexB s) := by
  unfold impl_HexDigits.f numOk
  by_cases h1 : (s.size : Int) < 1
  · rw [if_pos h1, if_neg (by omega)]
  · rw [if_neg h1]
    by_cases h2 : (s.size : Int) > 13
    · rw [if_pos h2, if_neg (by omega)]
    · rw [if_neg h2, all_hex s (by omega)]
      simp only [Option.bind_some]
      have a : 1 ≤ s.size := by omega
      have b : s.size ≤ 13 := by omega
      by_cases h3 : (bytesOf s).all hexB = true
      · rw [if_pos h3, if_pos ⟨a, b, h3⟩]
        unfold strconv_ParseInt.f
        rw [if_pos ⟨rfl, by omega, by rw [← all_okB16]; exact h3, .inl ⟨rfl, b⟩⟩]
        rfl
      · rw [if_neg h3, if_neg (by intro h; exact h3 h.2.2)]
end Go.Proofs.YtkjagboloifmbaaDoor.Q
/-! ## Quncoded -/
/-
  Uncoded of spec and impl come to one and the same. No condition.
-/
namespace Go.Proofs.YtkjagboloifmbaaDoor.Q
set_option linter.unusedVariables false
set_option linter.unusedSimpArgs false
open Go.RowKit Go.Proofs.YtkjagboloifmbaaDoor.P Go.Proofs.YtkjagboloifmbaaDoorW.PrintWords Go.Proofs.YtkjagboloifmbaaDoorW.PrintLast Go.Proofs.YtkjagboloifmbaaDoorW.PrintMore

theorem mn_is (a b : Int) : mn a b = if a ≤ b then a else b := by
  unfold mn
  split <;> split <;> omega
theorem hexPair (c d : Int) : numOk 16 13 hexB (strOfNums [c, d]) = numOk 16 13 hexB (strOfNums [c, d]) := rfl
theorem numOk_two {t : ByteArray} {c d : Int} (h : bytesOf t = [c, d]) : numOk 16 13 hexB t = if hexB c = true ∧ hexB d = true then (16 * hexV c + hexV d, true) else (0, false) := by
  have hz : t.size = 2 := by rw [← bytesOf_length, h]; rfl
  unfold numOk
  rw [h]
  by_cases a : hexB c = true ∧ hexB d = true
  · rw [if_pos a, if_pos ⟨by omega, by omega, by simp [a]⟩]
    refine Prod.ext ?_ rfl
    show (0 * 16 + dgt c) * 16 + dgt d = _
    rw [dgt_hex, dgt_hex]
    omega
  · rw [if_neg a, if_neg]
    intro ⟨_, _, e⟩
    simp at e
    exact a e
theorem uncoded_both (s : ByteArray) (hs : s.size ≤ 200) : ∀ (n i : Nat) (acc : List Int), i + n = s.size → acc.length ≤ i →
    ∃ r : ByteArray × Bool, Ev (fun k => spec_Uncoded.l0 k s acc (i : Int)) r ∧ Ev (fun k => impl_Uncoded.l0 k s acc (i : Int)) r ∧ r.1.size ≤ s.size := by
  intro n
  induction n using Nat.strongRecOn with
  | _ n ih =>
    intro i acc hd ha
    by_cases hn : n = 0
    · subst hn
      refine ⟨(strOfNums acc, true), Ev.step (f := fun _ => some (strOfNums acc, true)) (fun k => ?_) (Ev.now _), Ev.step (f := fun _ => some (strOfNums acc, true)) (fun k => ?_) (Ev.now _), ?_⟩
      · simp only [spec_Uncoded.l0]
        rw [if_neg (by omega)]
      · simp only [impl_Uncoded.l0]
        rw [if_neg (by omega)]
      · show (strOfNums acc).size ≤ s.size
        have : (strOfNums acc).size = acc.length := by
          unfold strOfNums
          simp [ByteArray.size]
        omega
    · have h1 : (i : Int) < (s.size : Int) := by omega
      have w1 : wrap64 ((i : Int) + 1) = ((i + 1 : Nat) : Int) := by rw [wrap_in (by omega) (by omega)]; omega
      have w2 : wrap64 ((i : Int) + 2) = ((i + 2 : Nat) : Int) := by rw [wrap_in (by omega) (by omega)]; omega
      have w3 : wrap64 ((i : Int) + 3) = ((i + 3 : Nat) : Int) := by rw [wrap_in (by omega) (by omega)]; omega
      have w21 : wrap64 (((i + 2 : Nat) : Int) + 1) = ((i + 3 : Nat) : Int) := by rw [wrap_in (by omega) (by omega)]; omega
      have hl : acc.length < 140737488355328 := by omega
      by_cases hp : bt s (i : Int) = 37
      · by_cases h3 : i + 3 ≤ s.size
        · have hb1 := bt_range s ((i + 1 : Nat) : Int)
          have hb2 := bt_range s ((i + 2 : Nat) : Int)
          have e2 := numOk_two (bytes_two s (i + 1) (by omega))
          have n1 := hexV_neg (bt s ((i + 1 : Nat) : Int))
          have n2 := hexV_neg (bt s ((i + 2 : Nat) : Int))
          have l1 := hexV_lt (bt s ((i + 1 : Nat) : Int))
          have l2 := hexV_lt (bt s ((i + 2 : Nat) : Int))
          have impl0 : ∀ k, impl_Uncoded.l0 (k + 1) s acc (i : Int) = if hexB (bt s ((i + 1 : Nat) : Int)) = true ∧ hexB (bt s ((i + 2 : Nat) : Int)) = true then impl_Uncoded.l0 k s (acc ++ [(16 * hexV (bt s ((i + 1 : Nat) : Int)) + hexV (bt s ((i + 2 : Nat) : Int))) % 256]) ((i + 3 : Nat) : Int) else some ((⟨#[]⟩ : ByteArray), false) := by
            intro k
            simp only [impl_Uncoded.l0]
            rw [if_pos h1, if_pos (by omega), if_pos hp, w1, w2, w3, w21, mn_is, if_pos (by omega), if_pos (by omega), if_pos (by omega), if_pos (by omega), Int.toNat_natCast, Int.toNat_natCast, show i + 3 = i + 1 + 2 from rfl, impl_HexDigits_is, e2]
            simp only [Option.bind_some]
            by_cases a : hexB (bt s ((i + 1 : Nat) : Int)) = true ∧ hexB (bt s ((i + 1 + 1 : Nat) : Int)) = true
            · rw [if_pos a]
              simp only [if_true]
              rw [if_neg (by omega), if_pos hl, if_pos a]
            · rw [if_neg a]
              simp only [Bool.false_eq_true, if_false]
              rw [if_neg a]
          by_cases a1 : hexB (bt s ((i + 1 : Nat) : Int)) = true
          · by_cases a2 : hexB (bt s ((i + 2 : Nat) : Int)) = true
            · rw [a1] at n1
              rw [a2] at n2
              have p1 : 0 ≤ hexV (bt s ((i + 1 : Nat) : Int)) := by have : ¬ hexV (bt s ((i + 1 : Nat) : Int)) < 0 := by simpa using n1
                                                                    omega
              have p2 : 0 ≤ hexV (bt s ((i + 2 : Nat) : Int)) := by have : ¬ hexV (bt s ((i + 2 : Nat) : Int)) < 0 := by simpa using n2
                                                                    omega
              obtain ⟨r, hr1, hr2, hr3⟩ := ih (n - 3) (by omega) (i + 3) (acc ++ [(16 * hexV (bt s ((i + 1 : Nat) : Int)) + hexV (bt s ((i + 2 : Nat) : Int))) % 256]) (by omega) (by rw [List.length_append]; simp; omega)
              obtain ⟨K1, e1⟩ := hr1
              refine ⟨r, ⟨K1 + 10, fun k hk => ?_⟩, Ev.step (f := fun k => impl_Uncoded.l0 k s (acc ++ [(16 * hexV (bt s ((i + 1 : Nat) : Int)) + hexV (bt s ((i + 2 : Nat) : Int))) % 256]) ((i + 3 : Nat) : Int)) (fun k => by rw [impl0, if_pos ⟨a1, a2⟩]) hr2, hr3⟩
              obtain ⟨k, rfl⟩ : ∃ z, k = z + 2 := ⟨k - 2, by omega⟩
              have e1' := e1 k (by omega)
              simp only [spec_Uncoded.l0, spec_Uncoded.j1]
              rw [if_pos h1, if_pos (by omega), if_pos hp, w1, w2, w21, if_neg (by omega), if_pos (by omega), if_pos (by omega), spec_l1Hex_is _ hb1.1 hb1.2 (k + 1) (by omega), spec_l1Hex_is _ hb2.1 hb2.2 (k + 1) (by omega), spec_l1Hex_is _ hb1.1 hb1.2 k (by omega), spec_l1Hex_is _ hb2.1 hb2.2 k (by omega)]
              simp only [Option.bind_some]
              rw [if_neg (by omega), if_pos (by omega), if_pos (by omega), if_neg (by rw [decide_eq_true_eq]; omega), if_pos (by omega), if_pos (by omega), if_pos (by omega), if_pos (by omega), if_pos hl, wrap_in (i := 16 * hexV (bt s ((i + 1 : Nat) : Int))) (by omega) (by omega), wrap_in (by omega) (by omega)]
              exact e1'
            · refine ⟨((⟨#[]⟩ : ByteArray), false), ⟨10, fun k hk => ?_⟩, Ev.step (f := fun _ => some ((⟨#[]⟩ : ByteArray), false)) (fun k => by rw [impl0, if_neg (fun h => a2 h.2)]) (Ev.now _), Nat.zero_le _⟩
              obtain ⟨k, rfl⟩ : ∃ z, k = z + 2 := ⟨k - 2, by omega⟩
              rw [a1] at n1
              rw [Bool.not_eq_true] at a2
              rw [a2] at n2
              have p1 : ¬ hexV (bt s ((i + 1 : Nat) : Int)) < 0 := by simpa using n1
              have p2 : hexV (bt s ((i + 2 : Nat) : Int)) < 0 := by simpa using n2
              simp only [spec_Uncoded.l0, spec_Uncoded.j1]
              rw [if_pos h1, if_pos (by omega), if_pos hp, w1, w2, if_neg (by omega), if_pos (by omega), if_pos (by omega), spec_l1Hex_is _ hb1.1 hb1.2 (k + 1) (by omega), spec_l1Hex_is _ hb2.1 hb2.2 (k + 1) (by omega)]
              simp only [Option.bind_some]
              rw [if_neg p1, if_pos (by omega), if_pos (by omega), if_pos (decide_eq_true p2)]
          · refine ⟨((⟨#[]⟩ : ByteArray), false), ⟨10, fun k hk => ?_⟩, Ev.step (f := fun _ => some ((⟨#[]⟩ : ByteArray), false)) (fun k => by rw [impl0, if_neg (fun h => a1 h.1)]) (Ev.now _), Nat.zero_le _⟩
            obtain ⟨k, rfl⟩ : ∃ z, k = z + 2 := ⟨k - 2, by omega⟩
            rw [Bool.not_eq_true] at a1
            rw [a1] at n1
            have p1 : hexV (bt s ((i + 1 : Nat) : Int)) < 0 := by simpa using n1
            simp only [spec_Uncoded.l0, spec_Uncoded.j1]
            rw [if_pos h1, if_pos (by omega), if_pos hp, w1, w2, if_neg (by omega), if_pos (by omega), if_pos (by omega), spec_l1Hex_is _ hb1.1 hb1.2 (k + 1) (by omega)]
            simp only [Option.bind_some]
            rw [if_pos p1]
            simp
        · refine ⟨((⟨#[]⟩ : ByteArray), false), ⟨10, fun k hk => ?_⟩, Ev.step (f := fun _ => some ((⟨#[]⟩ : ByteArray), false)) (fun k => ?_) (Ev.now _), Nat.zero_le _⟩
          · obtain ⟨k, rfl⟩ : ∃ z, k = z + 2 := ⟨k - 2, by omega⟩
            simp only [spec_Uncoded.l0, spec_Uncoded.j1]
            rw [if_pos h1, if_pos (by omega), if_pos hp, w2, if_pos (by omega)]
            simp
          · simp only [impl_Uncoded.l0]
            rw [if_pos h1, if_pos (by omega), if_pos hp, w1, w3, mn_is, if_neg (show ¬ ((i + 3 : Nat) : Int) ≤ (s.size : Int) by omega), if_pos (by omega), if_pos (by omega), if_pos (by omega), impl_HexDigits_is]
            simp only [Option.bind_some]
            by_cases a : (numOk 16 13 hexB (s.extract ((i + 1 : Nat) : Int).toNat (s.size : Int).toNat)).2 = true
            · rw [if_pos a, if_pos (by omega)]
            · rw [if_neg a]
      · obtain ⟨r, hr1, hr2, hr3⟩ := ih (n - 1) (by omega) (i + 1) (acc ++ [bt s (i : Int)]) (by omega) (by rw [List.length_append]; simp; omega)
        refine ⟨r, Ev.step (fun k => ?_) hr1, Ev.step (fun k => ?_) hr2, hr3⟩
        · simp only [spec_Uncoded.l0]
          rw [if_pos h1, if_pos (by omega), if_neg hp, if_pos hl, w1]
        · simp only [impl_Uncoded.l0]
          rw [if_pos h1, if_pos (by omega), if_neg hp, if_pos hl, w1]
theorem Uncoded_both (s : ByteArray) : ∃ r : ByteArray × Bool, Ev (fun k => spec_Uncoded.f k s) r ∧ Ev (fun k => impl_Uncoded.f k s) r ∧ r.1.size ≤ s.size := by
  unfold spec_Uncoded.f impl_Uncoded.f
  by_cases h : (s.size : Int) > 200
  · simp only [if_pos h]
    exact ⟨((⟨#[]⟩ : ByteArray), false), Ev.now _, Ev.now _, Nat.zero_le _⟩
  · simp only [if_neg h]
    exact uncoded_both s (by omega) s.size 0 [] (by omega) (Nat.le_refl _)
end Go.Proofs.YtkjagboloifmbaaDoor.Q
/-! ## PureFnExactUncoded -/
/-
  FnExactUncoded answers true at every text: both functions come to the same. No condition.
-/
namespace Go.Proofs.YtkjagboloifmbaaDoor.Pure
set_option linter.unusedVariables false
set_option linter.unusedSimpArgs false
open Go.RowKit Go.Proofs.YtkjagboloifmbaaDoor.P Go.Proofs.YtkjagboloifmbaaDoor.Q Go.Proofs.YtkjagboloifmbaaDoorW.PrintWords
theorem FnExactUncoded : laws_FnExactUncoded.Pure := by
  intro a ha
  obtain ⟨r, h1, h2, _⟩ := Uncoded_both a
  unfold laws_FnExactUncoded.f
  by_cases h : (a.size : Int) > 1048576
  · exact ⟨0, by rw [if_pos h]⟩
  · simp only [if_neg h]
    refine Ev.rounds (r := true) (Ev.bind h1 (Ev.bind h2 ?_))
    simp only [if_true, bne_self_eq_false, Bool.false_eq_true, if_false]
    exact Ev.now _
end Go.Proofs.YtkjagboloifmbaaDoor.Pure
/-! ## LawFnExactUncoded -/
/- The statement of FnExactUncoded, for every input: the row, out of the pure statement and the printed walk. No condition. -/
namespace Go.Proofs.YtkjagboloifmbaaDoor.fnExactUncoded
open Go.ChangeShapes Go.WideShapes Go.ChangeAt Go.RowKit
open Go.ChangeMaps (open_string shut_string)
set_option linter.unusedVariables false
theorem own : ownKnob Tryd.prog.godebug = none := by kernel_rfl
set_option maxRecDepth 100000 in
theorem lifted (os : Os) (started : os.Started) (H : Type) (enc : TypeId × Value → H) :
    ReturnsInHanded {} Tryd.checked os 3 .any (fun w args => (Rows.fnExactUncodedSpec.pre enc Tryd.prog Tryd.f3 [] false w args ∧ laidMetH Tryd.prog Rows.fnExactUncodedRow.laid w) ∧ sizedMet enc Tryd.prog Tryd.f3 (OpenSpec.ofChange Rows.fnExactUncodedSpec) false w args) (Rows.fnExactUncodedSpec.post enc Tryd.prog Tryd.f3 false true false false) := by
  refine RowAid.handed_both (C := Tryd.checked) (X := fun w _ => laidMetH Tryd.prog Rows.fnExactUncodedRow.laid w) (fun _ _ _ hh h => h.of_heap hh) own started (by kernel_rfl) Tryd.func3
    (ChangeSpec.witness_shaped (enc := enc) (C := Tryd.checked) (os := os) (X := fun w _ => laidMetH Tryd.prog Rows.fnExactUncodedRow.laid w) false (World.laidAll Tryd.prog os Rows.fnExactUncodedRow.laid) #[.string ByteArray.empty] 8 (World.laidAll_os _ _ _)
      (World.shaped_of_ZipB (by kernel_rfl) (by kernel_rfl)) (by kernel_rfl) (by kernel_rfl) (by kernel_rfl)
      (by rw [MakeChecks.laidMetH_plain _ _ _ (by kernel_rfl)]; exact laidMet_laidAll _ (by kernel_rfl) (by kernel_rfl))) ?_
  intro W base args ds gs before hval0 hW hcnd hsz0 hL hSh _
  have hsz : (DataW.weightsEach Tryd.prog (Tryd.f3.params.toList ++ Rows.fnExactUncodedSpec.plain.varTypes Tryd.prog) (ds ++ gs)).all (· ≤ reachBytes) = true := hsz0
  have hval : ∀ (j : Nat) t v, Tryd.f3.params[j]? = some t → args[j]? = some v → Value.okWide Tryd.prog W .any base t v := hval0
  have hW' := hW
  obtain ⟨p, q, hA0, hV, rfl, hfz, hnd⟩ := hW
  have hA : DataW.TrodAll enc Tryd.prog W 0 (fun _ => true) true Tryd.f3.params.toList args.toList ds p := hA0
  rw [Tryd.params3] at hA hval hsz
  obtain ⟨v0, vs0, d0, ds0, p0, q0, hargs, rfl, rfl, h0, r0⟩ := trodAll_cons hA
  obtain ⟨rfl, rfl, rfl⟩ := trodAll_nil r0
  obtain rfl : args = #[v0] := by cases args; simp_all
  obtain ⟨rfl, rfl⟩ := trodVars_none hV
  obtain ⟨a0, rfl, rfl, rfl, y0⟩ := open_string Tryd.underlying9 (hval 0 9 v0 rfl rfl) h0
  have w0 : a0.size ≤ 140737488351232 := by
    have z := sized_string hsz (j := 0) (t := 9) rfl rfl
    rw [Array.length_toList] at z
    exact z
  clear hA0 hval0 hsz0 hsz
  refine (P.laws_FnExactUncoded.walk Pure.FnExactUncoded a0 W w0).mono fun e W' ⟨he, bel⟩ => ?_
  subst he
  exact ⟨_, rfl, _, _, _, [], _, [], hW', trodAll_mk1 (shut_bool Tryd.underlying4 _), (trodAll_cons_mk (shut_string Tryd.underlying9 y0) trodAll_mk0), rfl, bel.frame _, fun h => by cases h⟩
theorem over : Rows.fnExactUncodedRow.holds Tryd.pinned (OpenSpec.ofChange Rows.fnExactUncodedSpec) :=
  OpenClaim.holds_of_wide 3 Tryd.f3 rfl rfl rfl rfl rfl rfl rfl ⟨rfl, rfl, rfl, rfl, rfl⟩ rfl rfl rfl rfl rfl (by kernel_rfl) Tryd.func3 (by kernel_rfl)
    (of_decide_eq_true (by kernel_rfl)) (by unfold Func.isWrapper; first | (rw [if_pos (by decide +kernel)]; kernel_rfl) | (rw [if_neg (by decide +kernel)]; exact ⟨rfl, rfl⟩))
    (fun os started H enc _ => lifted os started H enc)
theorem proved : Rows.FnExactUncodedSaid := over
#print axioms proved
end Go.Proofs.YtkjagboloifmbaaDoor.fnExactUncoded
namespace Go.Proofs.YtkjagboloifmbaaDoor
/-- The tied card, under a short name, for the claim. -/
theorem fnExactUncoded_card : Rows.FnExactUncodedCardSaid :=
  Claim7.holds_tied_plain_at .later [] [.data, .data, .data, .sentinel, .sentinel] true (true, "17db80fd9f46fef3da18cddf178a7607f413054079b05112af3190d2cdfd92f4") true
    fnExactUncoded.proved (fun _ h => by cases h) (by kernel_rfl) (fun _ h => by cases h) fnExactUncoded_row_tie rfl ⟨rfl, rfl⟩ (by kernel_rfl) rfl
    (fun f fn hf hfn => by
      obtain rfl : f = 3 := Option.some.inj ((show Tryd.prog.funcNamed "loop.example/g00207/laws.FnExactUncoded" = some 3 by kernel_rfl).symm.trans hf) |>.symm
      obtain rfl : fn = Tryd.f3 := (Option.some.inj (Tryd.func3.symm.trans hfn)).symm
      exact ⟨by kernel_rfl, fun j t ht => by
        rw [Tryd.params3] at ht
        have hm : t ∈ [9] := by simpa using Array.mem_of_getElem? ht
        have hall : ([9].all fun u => !Tryd.prog.wantsStandIn u) = true := by kernel_rfl
        exact (show Tryd.prog.wantsStandIn t = false by simpa using List.all_eq_true.1 hall t hm)⟩)
    (by kernel_rfl)
#print axioms fnExactUncoded_card
end Go.Proofs.YtkjagboloifmbaaDoor
