/- Functions of the Go program as Lean functions, and proofs about them, merged out of this session's texts by its program bundle.py; conditions: those that each theorem states. -/
import Derived.Below
import Derived.Carry
import Derived.ChangeOld
import Derived.ChangeSame
import Derived.Deep.Fields
import Derived.Deep.Slices
import Derived.Handed
import Derived.HandedShaped
import Derived.LaidMore
import Derived.Lay
import Derived.Lib.Bytealg
import Derived.Lib.SlTrimSet
import Derived.OpenShut
import Derived.ProofKit
import Derived.SevenTiedAt
import Derived.ShutString
import Derived.SizedLaws
import Derived.Stop.Joined
import Derived.Test.YtfebipiccpbdbaaDoorCards
import Derived.Test.YtfebipiccpbdbaaDoorGContainsField
import Derived.Test.YtfebipiccpbdbaaDoorGTrim
import Derived.Test.YtfebipiccpbdbaaDoorGall
import Derived.Test.YtfebipiccpbdbaaDoorGspecl1Token
import Derived.Test.YtfebipiccpbdbaaDoorP0
import Derived.Test.YtfebipiccpbdbaaDoorPimplFieldsOk
import Derived.Test.YtfebipiccpbdbaaDoorPimplFieldsOk1
import Derived.Test.YtfebipiccpbdbaaDoorPimplTokenOk
import Derived.Test.YtfebipiccpbdbaaDoorPimplTokenOk1
import Derived.Test.YtfebipiccpbdbaaDoorPimplTrimmed
import Derived.Test.YtfebipiccpbdbaaDoorPimplVisibleOk
import Derived.Test.YtfebipiccpbdbaaDoorPimplisDigit
import Derived.Test.YtfebipiccpbdbaaDoorPimplisField
import Derived.Test.YtfebipiccpbdbaaDoorPimplisLetter
import Derived.Test.YtfebipiccpbdbaaDoorPimplisVisible
import Derived.Test.YtfebipiccpbdbaaDoorPlawsFnExactFieldsOk
import Derived.Test.YtfebipiccpbdbaaDoorPlawseqField
import Derived.Test.YtfebipiccpbdbaaDoorPlawseqFieldS
import Derived.Test.YtfebipiccpbdbaaDoorPlawsszField
import Derived.Test.YtfebipiccpbdbaaDoorPlawsszFieldS
import Derived.Test.YtfebipiccpbdbaaDoorPlawstoField
import Derived.Test.YtfebipiccpbdbaaDoorPlawstoFieldS
import Derived.Test.YtfebipiccpbdbaaDoorPspecFieldsOk
import Derived.Test.YtfebipiccpbdbaaDoorPspecTokenOk
import Derived.Test.YtfebipiccpbdbaaDoorPspecTrimmed
import Derived.Test.YtfebipiccpbdbaaDoorPspecVisibleOk
import Derived.Test.YtfebipiccpbdbaaDoorPspecl1Blank
import Derived.Test.YtfebipiccpbdbaaDoorPspecl4Field
import Derived.Test.YtfebipiccpbdbaaDoorRows
import Derived.Test.YtfebipiccpbdbaaDoorTie
import Derived.WalkKit
import Derived.WideShapes
/-! ## RowAidD -/
/-
  The wrap of a row that lists variables, the world's shape kept beside what it lists. No condition.
-/
namespace Go.Proofs.YtfebipiccpbdbaaDoor.RowAid
open Go
variable {H : Type} {enc : TypeId × Value → H}
theorem handed_both {a : Assume} {C : Checked} {os : Os} {f : FuncId} {fn : Func} {s : ChangeSpec} {conds : List PathCond} {apart fresh handsOn again : Bool} {X : World → Array Value → Prop}
    (hX : ∀ (w w' : World) (args : Array Value), w.heap = w'.heap → X w args → X w' args)
    (own : ownKnob C.prog.godebug = none) (started : os.Started) (noInit : C.prog.inits.idxOf? f = none) (hfn : C.prog.funcs[f]? = some fn)
    (witness : ∃ (w : World) (tape : Tape) (i : Input), w.os = os ∧ (w.forCall tape i).Shaped C.prog ∧ i.vars = [] ∧ Input.okWide C.prog (w.forCall tape i) .any w.heap.size f i ∧
      ((s.pre enc C.prog fn conds apart (w.forCall tape i).memory i.args ∧ X (w.forCall tape i).memory i.args) ∧ sizedMet enc C.prog fn (OpenSpec.ofChange s) apart (w.forCall tape i).memory i.args) ∧ a.holds C.prog (lone (Frame.enter C.prog f i.args .normal) [] (w.forCall tape i)))
    (contract : ∀ (W : World) (base : Nat) (args : Array Value) (ds gs : List (DataW H)) (before : List MemPlace),
      (∀ (j : Nat) t v, fn.params[j]? = some t → args[j]? = some v → Value.okWide C.prog W .any base t v) →
      DataW.Whole enc C.prog fn.params.toList s.vars apart W args.toList ds gs before →
      conds.all (PathCond.test C.prog ⟨fn.params.toList, ds, s.plain.varTypes C.prog, gs⟩) = true →
      (DataW.weightsEach C.prog (fn.params.toList ++ s.plain.varTypes C.prog) (ds ++ gs)).all (· ≤ reachBytes) = true → X W args → W.ShapedOpen C.prog →
      a.holds C.prog (lone (Frame.enter C.prog f args .normal) [] W) →
      Calls C.prog f args W fun e W' => ∃ v, e = .returned v ∧ s.post enc C.prog fn apart fresh handsOn again W args v W') :
    ReturnsInHanded a C os f .any (fun w args => (s.pre enc C.prog fn conds apart w args ∧ X w args) ∧ sizedMet enc C.prog fn (OpenSpec.ofChange s) apart w args) (s.post enc C.prog fn apart fresh handsOn again) := by
  refine returnsInHanded_of_calls own started noInit witness ?_
  intro w tape i _ hsh _ hok hpre hholds
  obtain ⟨_, _, _, fn', hfn', _, _, _, _, hval⟩ := hok
  have e : fn' = fn := Option.some.inj (hfn'.symm.trans hfn)
  subst e
  obtain ⟨⟨⟨ds, gs, before, hw, hc⟩, hx⟩, hz⟩ := hpre
  have hw' := DataW.Whole.of_heap (w' := w.forCall tape i) (by rfl) hw
  refine (contract (w.forCall tape i) w.heap.size i.args ds gs before hval hw' hc (hz.weights hw) (hX _ _ _ (by rfl) hx) hsh hholds).mono fun e W' ⟨v, he, hp⟩ => ?_
  subst he
  exact ChangeSpec.post_blind hp
end Go.Proofs.YtfebipiccpbdbaaDoor.RowAid
/-! ## Q0 -/
/-
  Small laws on the printed functions' words: loops over a text's bytes, from some number of rounds on. No condition beyond those that each law states.
-/
namespace Go.Proofs.YtfebipiccpbdbaaDoor.Q
open Go.RowKit Go.Proofs.YtfebipiccpbdbaaDoorW.PrintWords Go.Proofs.YtfebipiccpbdbaaDoorW.PrintLast Go.Proofs.YtfebipiccpbdbaaDoorW.PrintMore

theorem wrap_in {i : Int} (h0 : -9223372036854775808 ≤ i) (h1 : i ≤ 9223372036854775807) : wrap64 i = i := by unfold wrap64; omega
theorem wrap_next {i : Nat} {n : Nat} (h : i < n) (hn : n ≤ 4611686018427387904) : wrap64 ((i : Int) + 1) = ((i + 1 : Nat) : Int) := by unfold wrap64; omega

theorem toList_data (s : ByteArray) : s.toList = s.data.toList := ByteArray.toList_eq s
theorem eq_of_toList {a b : ByteArray} (h : a.toList = b.toList) : a = b := by
  rw [toList_data, toList_data] at h
  exact ByteArray.ext (Array.toList_inj.1 h)
theorem bt_get (s : ByteArray) (i : Nat) (h : i < s.size) : (bytesOf s)[i]? = some (bt s i) := by
  rw [← rd_bytesOf]
  have h1 : i < (bytesOf s).length := by rw [bytesOf_length]; exact h
  simp [rd, List.getD_eq_getElem?_getD, List.getElem?_eq_getElem h1]
theorem drop_bt (s : ByteArray) (i : Nat) (h : i < s.size) : (bytesOf s).drop i = bt s i :: (bytesOf s).drop (i + 1) := by
  have h1 : i < (bytesOf s).length := by rw [bytesOf_length]; exact h
  rw [List.drop_eq_getElem_cons h1]
  have := bt_get s i h
  rw [List.getElem?_eq_getElem h1] at this
  rw [Option.some.inj this]
theorem mem_bytes {s : ByteArray} {c : Int} (h : c ∈ bytesOf s) : 0 ≤ c ∧ c ≤ 255 := by
  unfold bytesOf at h
  obtain ⟨b, _, rfl⟩ := List.mem_map.1 h
  have := b.toNat_lt
  omega
theorem bytes_nums (l : List Int) (h : ∀ c ∈ l, 0 ≤ c ∧ c ≤ 255) : bytesOf (strOfNums l) = l := by
  unfold bytesOf
  rw [strOfNums_data, List.map_map]
  refine (List.map_congr_left fun c hc => ?_).trans (List.map_id l)
  have := h c hc
  simp only [Function.comp, UInt8.toNat_ofNat', id]
  omega
theorem nums_bytes (s : ByteArray) : strOfNums (bytesOf s) = s := by
  apply ByteArray.ext
  apply Array.toList_inj.1
  rw [strOfNums_data]
  unfold bytesOf
  rw [List.map_map]
  refine (List.map_congr_left fun c hc => ?_).trans (List.map_id _)
  simp
theorem bytes_inj {a b : ByteArray} (h : bytesOf a = bytesOf b) : a = b := by rw [← nums_bytes a, ← nums_bytes b, h]
theorem bytes_append (a b : ByteArray) : bytesOf (a ++ b) = bytesOf a ++ bytesOf b := by
  unfold bytesOf
  rw [← List.map_append]
  simp [ByteArray.data_append]

/-- A loop over bytes: what a round does with its state and a byte; an end ahead of time. -/
def runL {σ β : Type} (f : σ → Int → σ ⊕ β) (fin : σ → β) : List Int → σ → β
  | [], st => fin st
  | c :: cs, st => match f st c with
    | .inl st' => runL f fin cs st'
    | .inr b => b
/-- The printed loop comes to what 'runL' comes to, from some number of rounds on. -/
theorem ev_run {σ β : Type} (s : ByteArray) (I : σ → Nat → Prop) (f : σ → Int → σ ⊕ β) (fin : σ → β) (g : Nat → σ → Int → Option β) (K : Nat)
    (hstep : ∀ k st (i : Nat), K ≤ k → i < s.size → I st i → (∀ st', f st (bt s i) = .inl st' → g (k + 1) st i = g k st' ((i + 1 : Nat) : Int) ∧ I st' (i + 1)) ∧ (∀ b, f st (bt s i) = .inr b → g (k + 1) st i = some b))
    (hend : ∀ k st, K ≤ k → I st s.size → g (k + 1) st (s.size : Int) = some (fin st)) (st : σ) (h0 : I st 0) :
    Ev (fun k => g k st 0) (runL f fin (bytesOf s) st) := by
  have key : ∀ (d i : Nat) (st : σ), i + d = s.size → I st i → ∀ k, K + d < k → g k st (i : Int) = some (runL f fin ((bytesOf s).drop i) st) := by
    intro d
    induction d with
    | zero =>
      intro i st hd hI k hk
      obtain ⟨k, rfl⟩ : ∃ m, k = m + 1 := ⟨k - 1, by omega⟩
      have e : i = s.size := by omega
      subst e
      rw [hend k st (by omega) hI, List.drop_of_length_le (by rw [bytesOf_length]; exact Nat.le_refl _)]
      rfl
    | succ d ih =>
      intro i st hd hI k hk
      obtain ⟨k, rfl⟩ : ∃ m, k = m + 1 := ⟨k - 1, by omega⟩
      obtain ⟨h1, h2⟩ := hstep k st i (by omega) (by omega) hI
      rw [drop_bt s i (by omega)]
      show g (k + 1) st i = some (match f st (bt s i) with | .inl st' => runL f fin ((bytesOf s).drop (i + 1)) st' | .inr b => b)
      cases hf : f st (bt s i) with
      | inl st' =>
        obtain ⟨e, hI'⟩ := h1 st' hf
        rw [e]
        exact ih (i + 1) st' (by omega) hI' k (by omega)
      | inr b => exact h2 b hf
  refine ⟨K + s.size + 1, fun k hk => ?_⟩
  have := key s.size 0 st (by omega) h0 k (by omega)
  rw [List.drop_zero] at this
  exact this

/-- A loop that asks each byte. -/
theorem ev_all (s : ByteArray) (p : Int → Bool) (g : Nat → Int → Option Bool) (K : Nat)
    (h1 : ∀ k (i : Nat), K ≤ k → i < s.size → p (bt s i) = true → g (k + 1) i = g k ((i + 1 : Nat) : Int))
    (h0 : ∀ k (i : Nat), K ≤ k → i < s.size → p (bt s i) = false → g (k + 1) i = some false)
    (he : ∀ k, K ≤ k → g (k + 1) (s.size : Int) = some true) : Ev (fun k => g k 0) ((bytesOf s).all p) := by
  have h := ev_run (σ := Unit) (β := Bool) s (fun _ _ => True) (fun _ c => if p c = true then .inl () else .inr false) (fun _ => true) (fun k _ i => g k i) K
    (fun k st i hk hi _ => ⟨fun st' e => ⟨h1 k i hk hi (by
        by_cases hp : p (bt s i) = true
        · exact hp
        · rw [if_neg hp] at e; cases e), trivial⟩, fun b e => by
        by_cases hp : p (bt s i) = true
        · rw [if_pos hp] at e; cases e
        · rw [if_neg hp] at e
          obtain rfl : false = b := by injection e
          exact h0 k i hk hi (by simpa using hp)⟩)
    (fun k st hk _ => he k hk) () trivial
  have e : ∀ l : List Int, runL (σ := Unit) (β := Bool) (fun _ c => if p c = true then .inl () else .inr false) (fun _ => true) l () = l.all p := by
    intro l
    induction l with
    | nil => rfl
    | cons c cs ih =>
      rw [List.all_cons]
      unfold runL
      by_cases hp : p c = true
      · simp only [hp, if_true, Bool.true_and]; exact ih
      · simp only [(by simpa using hp : p c = false), Bool.false_and, Bool.false_eq_true, if_false]
  rw [e] at h
  exact h
theorem runL_all {β : Type} (p : Int → Bool) (r b : β) (l : List Int) : runL (σ := Unit) (fun _ c => if p c = true then .inl () else .inr b) (fun _ => r) l () = if l.all p = true then r else b := by
  induction l with
  | nil => rfl
  | cons c cs ih =>
    rw [List.all_cons]
    unfold runL
    by_cases hp : p c = true
    · simp only [hp, if_true, Bool.true_and]; exact ih
    · simp only [(by simpa using hp : p c = false), Bool.false_and, Bool.false_eq_true, if_false]
/-- A loop that asks each byte, and goes on behind it. -/
theorem ev_allr {β : Type} (s : ByteArray) (p : Int → Bool) (r b : β) (g : Nat → Int → Option β) (K : Nat)
    (h1 : ∀ k (i : Nat), K ≤ k → i < s.size → p (bt s i) = true → g (k + 1) i = g k ((i + 1 : Nat) : Int))
    (h0 : ∀ k (i : Nat), K ≤ k → i < s.size → p (bt s i) = false → g (k + 1) i = some b)
    (he : ∀ k, K ≤ k → g (k + 1) (s.size : Int) = some r) : Ev (fun k => g k 0) (if (bytesOf s).all p = true then r else b) := by
  rw [← runL_all p r b (bytesOf s)]
  refine ev_run (σ := Unit) s (fun _ _ => True) (fun _ c => if p c = true then .inl () else .inr b) (fun _ => r) (fun k _ i => g k i) K
    (fun k st i hk hi _ => ⟨fun st' e => ⟨h1 k i hk hi (by
        by_cases hp : p (bt s i) = true
        · exact hp
        · rw [if_neg hp] at e; cases e), trivial⟩, fun b' e => by
        by_cases hp : p (bt s i) = true
        · rw [if_pos hp] at e; cases e
        · rw [if_neg hp] at e
          obtain rfl : b = b' := by injection e
          exact h0 k i hk hi (by simpa using hp)⟩)
    (fun k st hk _ => he k hk) () trivial
/-- A loop that puts something behind a list for each byte. -/
theorem runL_flat {β : Type} (f : Int → List Int) (fin : List Int → β) (l st : List Int) : runL (fun st c => .inl (st ++ f c)) fin l st = fin (st ++ l.flatMap f) := by
  induction l generalizing st with
  | nil => simp [runL]
  | cons c cs ih =>
    unfold runL
    simp only [ih, List.flatMap_cons, List.append_assoc]
theorem ev_const {α : Type} {x : Option α} {r : α} (h : x = some r) : Ev (fun _ => x) r := ⟨0, fun _ _ => h⟩
theorem ev_eq {α : Type} {g : Nat → Option α} {r r' : α} (h : Ev g r) (e : r = r') : Ev g r' := e ▸ h
/-- From a number of rounds on: a law that holds at each such number. -/
theorem ev_now {α : Type} {g : Nat → Option α} {r : α} (K : Nat) (h : ∀ k, K ≤ k → g k = some r) : Ev g r := ⟨K, h⟩
theorem all_congr' {l : List Int} {p q : Int → Bool} (h : ∀ c ∈ l, p c = q c) : l.all p = l.all q := by
  induction l with
  | nil => rfl
  | cons a l ih =>
    rw [List.all_cons, List.all_cons, h a List.mem_cons_self, ih fun c hc => h c (List.mem_cons_of_mem _ hc)]
end Go.Proofs.YtfebipiccpbdbaaDoor.Q
/-! ## Qlist -/
/-
  Loops over lists, as the printed functions run them. No condition.
-/
namespace Go.Proofs.YtfebipiccpbdbaaDoor.Q
set_option linter.unusedVariables false
set_option linter.unusedSimpArgs false
open Go.RowKit Go.Proofs.YtfebipiccpbdbaaDoor.P Go.Proofs.YtfebipiccpbdbaaDoorW.PrintWords Go.Proofs.YtfebipiccpbdbaaDoorW.PrintLast Go.Proofs.YtfebipiccpbdbaaDoorW.PrintMore

theorem drop_at {α : Type} (l : List α) (d : α) (i : Nat) (h : i < l.length) : l.drop i = l.getD i d :: l.drop (i + 1) := by
  rw [List.getD_eq_getElem?_getD, List.getElem?_eq_getElem h]
  exact List.drop_eq_getElem_cons h
/-- A loop over a list: what a round does with its state and an element; an end ahead of time. -/
def runA {α σ β : Type} (f : σ → α → σ ⊕ β) (fin : σ → β) : List α → σ → β
  | [], st => fin st
  | c :: cs, st => match f st c with
    | .inl st' => runA f fin cs st'
    | .inr b => b
theorem ev_list {α σ β : Type} (l : List α) (d : α) (I : σ → Nat → Prop) (f : σ → α → σ ⊕ β) (fin : σ → β) (g : Nat → σ → Int → Option β)
    (hstep : ∀ st (i : Nat), i < l.length → I st i → (∀ st', f st (l.getD i d) = .inl st' → I st' (i + 1) ∧ ∀ r, Ev (fun k => g k st' ((i + 1 : Nat) : Int)) r → Ev (fun k => g k st (i : Int)) r) ∧ (∀ b, f st (l.getD i d) = .inr b → Ev (fun k => g k st (i : Int)) b))
    (hend : ∀ st, I st l.length → Ev (fun k => g k st (l.length : Int)) (fin st)) (st : σ) (h0 : I st 0) :
    Ev (fun k => g k st 0) (runA f fin l st) := by
  have key : ∀ (n i : Nat) (st : σ), i + n = l.length → I st i → Ev (fun k => g k st (i : Int)) (runA f fin (l.drop i) st) := by
    intro n
    induction n with
    | zero =>
      intro i st hd hI
      have e : i = l.length := by omega
      subst e
      rw [List.drop_of_length_le (Nat.le_refl _)]
      exact hend st hI
    | succ n ih =>
      intro i st hd hI
      obtain ⟨h1, h2⟩ := hstep st i (by omega) hI
      rw [drop_at l d i (by omega)]
      show Ev _ (match f st (l.getD i d) with | .inl st' => runA f fin (l.drop (i + 1)) st' | .inr b => b)
      cases hf : f st (l.getD i d) with
      | inl st' =>
        obtain ⟨hI', hr⟩ := h1 st' hf
        exact hr _ (ih (i + 1) st' (by omega) hI')
      | inr b => exact h2 b hf
  have := key l.length 0 st (by omega) h0
  rw [List.drop_zero] at this
  exact this
theorem mem_getD {α : Type} {l : List α} {d : α} {i : Nat} (h : i < l.length) : l.getD i d ∈ l := by
  rw [List.getD_eq_getElem?_getD, List.getElem?_eq_getElem h]
  exact List.getElem_mem h
/-- A loop that asks each element, and goes on behind it. -/
theorem ev_listAll {α β : Type} (l : List α) (d : α) (p : α → Bool) (r b : β) (g : Nat → Int → Option β)
    (h1 : ∀ (i : Nat), i < l.length → p (l.getD i d) = true → ∀ x, Ev (fun k => g k ((i + 1 : Nat) : Int)) x → Ev (fun k => g k (i : Int)) x)
    (h0 : ∀ (i : Nat), i < l.length → p (l.getD i d) = false → Ev (fun k => g k (i : Int)) b)
    (he : Ev (fun k => g k (l.length : Int)) r) : Ev (fun k => g k 0) (if l.all p = true then r else b) := by
  have h := ev_list (σ := Unit) (β := β) l d (fun _ _ => True) (fun _ c => if p c = true then .inl () else .inr b) (fun _ => r) (fun k _ i => g k i)
    (fun st i hi _ => ⟨fun st' e => ⟨trivial, by
        by_cases hp : p (l.getD i d) = true
        · exact h1 i hi hp
        · rw [if_neg hp] at e; cases e⟩, fun b' e => (by
        by_cases hp : p (l.getD i d) = true
        · rw [if_pos hp] at e; cases e
        · rw [if_neg hp] at e
          obtain rfl : b = b' := by injection e
          exact h0 i hi (by simpa using hp))⟩)
    (fun st _ => he) () trivial
  have e : ∀ l : List α, runA (σ := Unit) (β := β) (fun _ c => if p c = true then .inl () else .inr b) (fun _ => r) l () = if l.all p = true then r else b := by
    intro l
    induction l with
    | nil => rfl
    | cons c cs ih =>
      rw [List.all_cons]
      unfold runA
      by_cases hp : p c = true
      · simp only [hp, if_true, Bool.true_and]; exact ih
      · simp only [(by simpa using hp : p c = false), Bool.false_and, Bool.false_eq_true, if_false]
  rw [e] at h
  exact h
theorem all_congrA {α : Type} {l : List α} {p q : α → Bool} (h : ∀ c ∈ l, p c = q c) : l.all p = l.all q := by
  induction l with
  | nil => rfl
  | cons a l ih =>
    rw [List.all_cons, List.all_cons, h a List.mem_cons_self, ih fun c hc => h c (List.mem_cons_of_mem _ hc)]
end Go.Proofs.YtfebipiccpbdbaaDoor.Q
/-! ## Qall -/
/-
  What the byte predicates of impl and spec come to, and 'all' over each. No condition but a text's greatest length.
-/
namespace Go.Proofs.YtfebipiccpbdbaaDoor.Q
set_option linter.unusedVariables false
set_option linter.unusedSimpArgs false
open Go.RowKit Go.Proofs.YtfebipiccpbdbaaDoor.P Go.Proofs.YtfebipiccpbdbaaDoorW.PrintWords Go.Proofs.YtfebipiccpbdbaaDoorW.PrintLast Go.Proofs.YtfebipiccpbdbaaDoorW.PrintMore

def visB (c : Int) : Bool := decide (32 ≤ c) && decide (c ≤ 126) || decide (c = 9)
def digB (c : Int) : Bool := decide (48 ≤ c) && decide (c ≤ 57)
def letB (c : Int) : Bool := decide (97 ≤ c) && decide (c ≤ 122) || decide (65 ≤ c) && decide (c ≤ 90)
def hexB (c : Int) : Bool := digB c || decide (97 ≤ c) && decide (c ≤ 102) || decide (65 ≤ c) && decide (c ≤ 70)
def tagB (c : Int) : Bool := decide (33 ≤ c) && decide (c ≤ 126) && decide (c ≠ 34)
def tokB (c : Int) : Bool := letB c || digB c || decide (c ∈ [33, 35, 36, 37, 38, 39, 42, 43, 45, 46, 94, 95, 124, 126, 96])
def plaB (c : Int) : Bool := letB c || digB c || decide (c ∈ [45, 46, 95, 126, 47, 58, 64, 33, 36, 38, 39, 40, 41, 42, 43, 44, 59, 61])

theorem impl_isVisible_is (c : Int) : impl_isVisible.f c = some (visB c) := by
  unfold impl_isVisible.f visB
  by_cases h1 : c ≥ 32 <;> by_cases h2 : c ≤ 126 <;> simp [h1, h2] <;> (try omega) <;> (try (by_cases h3 : c = 9 <;> simp [h3] <;> omega))
theorem impl_isDigit_is (c : Int) : impl_isDigit.f c = some (digB c) := by
  unfold impl_isDigit.f digB
  by_cases h1 : c ≥ 48 <;> simp [h1] <;> omega
theorem impl_isLetter_is (c : Int) : impl_isLetter.f c = some (letB c) := by
  unfold impl_isLetter.f letB
  by_cases h1 : c ≥ 97 <;> by_cases h2 : c ≤ 122 <;> by_cases h3 : c ≥ 65 <;> by_cases h4 : c ≤ 90 <;> simp [h1, h2, h3, h4] <;> omega

/-- A law on bytes, tried at each. -/
theorem byte_cases {p : Int → Prop} (h : ∀ n : Fin 256, p (n.val : Int)) (c : Int) (h0 : 0 ≤ c) (h1 : c ≤ 255) : p c := by
  have := h ⟨c.toNat, by omega⟩
  rwa [show ((⟨c.toNat, by omega⟩ : Fin 256).val : Int) = c from by show (c.toNat : Int) = c; omega] at this
theorem impl_TokenOk_1_is (c : Int) (h0 : 0 ≤ c) (h1 : c ≤ 255) : impl_TokenOk_1.f c = some (tokB c) :=
  byte_cases (p := fun c => impl_TokenOk_1.f c = some (tokB c)) (by decide +kernel) c h0 h1
theorem spec_l1Token_is (c : Int) (h0 : 0 ≤ c) (h1 : c ≤ 255) : spec_l1Token.f c = some (tokB c) :=
  byte_cases (p := fun c => spec_l1Token.f c = some (tokB c)) (by decide +kernel) c h0 h1
/-- A hexadecimal digit's value, or -1. -/
def hexV (c : Int) : Int := if digB c = true then c - 48 else if 97 ≤ c ∧ c ≤ 102 then c - 87 else if 65 ≤ c ∧ c ≤ 70 then c - 55 else -1
theorem hexV_neg (c : Int) : decide (hexV c < 0) = !hexB c := by
  unfold hexV hexB
  cases h0 : digB c
  · by_cases h1 : 97 ≤ c ∧ c ≤ 102
    · simp [h1]; omega
    · by_cases h2 : 65 ≤ c ∧ c ≤ 70
      · have h1' : (decide (97 ≤ c) && decide (c ≤ 102)) = false := by simp; omega
        simp [h1, h1', h2]; omega
      · have h1' : (decide (97 ≤ c) && decide (c ≤ 102)) = false := by simp; omega
        have h2' : (decide (65 ≤ c) && decide (c ≤ 70)) = false := by simp; omega
        simp [h1, h1', h2, h2']
  · unfold digB at h0
    simp at h0
    simp
    omega
/-- 'all' over a predicate. -/
theorem all_vis (s : ByteArray) (hs : s.size ≤ 9223372036854775807) : impl_all.f s 111 = some ((bytesOf s).all visB) := by
  unfold impl_all.f
  rw [if_pos hs]
  simp only [Nat.reduceEqDiff, if_true, if_false, reduceIte]
  rw [all_congr' fun c hc => (by rw [impl_isVisible_is]; cases visB c <;> rfl : (impl_isVisible.f c == some true) = visB c)]
theorem all_dig (s : ByteArray) (hs : s.size ≤ 9223372036854775807) : impl_all.f s 95 = some ((bytesOf s).all digB) := by
  unfold impl_all.f
  rw [if_pos hs]
  simp only [Nat.reduceEqDiff, if_true, if_false, reduceIte]
  rw [all_congr' fun c hc => (by rw [impl_isDigit_is]; cases digB c <;> rfl : (impl_isDigit.f c == some true) = digB c)]
theorem all_tok (s : ByteArray) (hs : s.size ≤ 9223372036854775807) : impl_all.f s 93 = some ((bytesOf s).all tokB) := by
  unfold impl_all.f
  rw [if_pos hs]
  simp only [Nat.reduceEqDiff, if_true, if_false, reduceIte]
  rw [all_congr' fun c hc => (by rw [impl_TokenOk_1_is c (mem_bytes hc).1 (mem_bytes hc).2]; cases tokB c <;> rfl : (impl_TokenOk_1.f c == some true) = tokB c)]
end Go.Proofs.YtfebipiccpbdbaaDoor.Q
/-! ## Qtok -/
/-
  TokenOk of spec and impl come to one and the same. No condition but a text's greatest length.
-/
namespace Go.Proofs.YtfebipiccpbdbaaDoor.Q
set_option linter.unusedVariables false
set_option linter.unusedSimpArgs false
open Go.RowKit Go.Proofs.YtfebipiccpbdbaaDoor.P Go.Proofs.YtfebipiccpbdbaaDoorW.PrintWords Go.Proofs.YtfebipiccpbdbaaDoorW.PrintLast Go.Proofs.YtfebipiccpbdbaaDoorW.PrintMore

def tokOk (s : ByteArray) : Bool := decide (1 ≤ s.size) && decide (s.size ≤ 64) && (bytesOf s).all tokB
theorem spec_TokenOk_ev (s : ByteArray) (hs : s.size ≤ 4611686018427387904) : Ev (fun k => spec_TokenOk.f k s) (tokOk s) := by
  unfold spec_TokenOk.f tokOk
  by_cases h : (s.size : Int) < 1
  · simp only [if_pos h]
    rw [decide_eq_false (by omega : ¬ 1 ≤ s.size)]
    exact Ev.step (f := fun _ => some false) (fun k => by simp only [spec_TokenOk.j0, if_true]) (Ev.now _)
  · simp only [if_neg h]
    rw [decide_eq_true (by omega : 1 ≤ s.size)]
    by_cases h' : (s.size : Int) > 64
    · rw [decide_eq_true h', decide_eq_false (by omega : ¬ s.size ≤ 64)]
      exact Ev.step (f := fun _ => some false) (fun k => by simp only [spec_TokenOk.j0, if_true]) (Ev.now _)
    · rw [decide_eq_false h', decide_eq_true (by omega : s.size ≤ 64), Bool.true_and, Bool.true_and]
      refine Ev.step (f := fun k => spec_TokenOk.l0 k s 0) (fun k => by simp only [spec_TokenOk.j0, Bool.false_eq_true, if_false]) ?_
      refine ev_all s tokB (fun k i => spec_TokenOk.l0 k s i) 0 (fun k i _ hi hp => ?_) (fun k i _ hi hp => ?_) (fun k _ => ?_)
      · simp only [spec_TokenOk.l0]
        rw [if_pos (by omega), if_pos (by omega), spec_l1Token_is _ (bt_range s i).1 (bt_range s i).2, hp, wrap_next hi hs]
        rfl
      · simp only [spec_TokenOk.l0]
        rw [if_pos (by omega), if_pos (by omega), spec_l1Token_is _ (bt_range s i).1 (bt_range s i).2, hp]
        rfl
      · simp only [spec_TokenOk.l0]
        rw [if_neg (by omega)]
theorem impl_TokenOk_is (s : ByteArray) (hs : s.size ≤ 4611686018427387904) : impl_TokenOk.f s = some (tokOk s) := by
  unfold impl_TokenOk.f tokOk
  by_cases h : (s.size : Int) ≥ 1
  · rw [if_pos h]
    by_cases h' : (s.size : Int) ≤ 64
    · rw [if_pos h', all_tok s (by omega), decide_eq_true (by omega : 1 ≤ s.size), decide_eq_true (by omega : s.size ≤ 64), Bool.true_and, Bool.true_and]; rfl
    · rw [if_neg h', decide_eq_false (by omega : ¬ s.size ≤ 64), Bool.and_false]; rfl
  · rw [if_neg h, decide_eq_false (by omega : ¬ 1 ≤ s.size)]; rfl
end Go.Proofs.YtfebipiccpbdbaaDoor.Q
/-! ## Qtrim -/
/-
  Trimmed of spec and impl: a text without the blanks at its ends. Condition: a text's greatest length.
-/
namespace Go.Proofs.YtfebipiccpbdbaaDoor.Q
set_option linter.unusedVariables false
set_option linter.unusedSimpArgs false
open Go.RowKit Go.Proofs.YtfebipiccpbdbaaDoor.P Go.Proofs.YtfebipiccpbdbaaDoorW.PrintWords Go.Proofs.YtfebipiccpbdbaaDoorW.PrintLast Go.Proofs.YtfebipiccpbdbaaDoorW.PrintMore

def blaB (c : Int) : Bool := decide (c = 32) || decide (c = 9)
/-- A list without the blanks at its beginning, at its end. -/
def dropL (l : List Int) : List Int := l.dropWhile blaB
def dropR (l : List Int) : List Int := (l.reverse.dropWhile blaB).reverse
def trimN (l : List Int) : List Int := dropL (dropR l)
theorem dropR_nil : dropR [] = [] := rfl
theorem dropR_snoc (l : List Int) (c : Int) : dropR (l ++ [c]) = if blaB c = true then dropR l else l ++ [c] := by
  unfold dropR
  rw [List.reverse_append, List.reverse_singleton, List.singleton_append, List.dropWhile_cons]
  split
  · rfl
  · simp
theorem dropL_cons (l : List Int) (c : Int) : dropL (c :: l) = if blaB c = true then dropL l else c :: l := by
  unfold dropL
  rw [List.dropWhile_cons]
theorem drop_comm (l : List Int) : dropR (dropL l) = dropL (dropR l) := by
  induction l with
  | nil => rfl
  | cons c cs ih =>
    rw [dropL_cons]
    by_cases h : blaB c = true
    · rw [if_pos h, ih]
      have key : ∀ l : List Int, dropL (dropR (c :: l)) = dropL (dropR l) := by
        intro l
        have aux : ∀ n : Nat, ∀ l : List Int, l.length = n → dropL (dropR (c :: l)) = dropL (dropR l) := by
          intro n
          induction n with
          | zero =>
            intro l hl
            obtain rfl := List.eq_nil_of_length_eq_zero hl
            have : dropR [c] = [] := by
              have := dropR_snoc [] c
              rw [List.nil_append, if_pos h] at this
              exact this
            rw [this, dropR_nil]
          | succ n ihn =>
            intro l hl
            obtain ⟨l', x, rfl⟩ : ∃ l' x, l = l' ++ [x] := ⟨l.dropLast, l.getLast (by intro e; rw [e] at hl; cases hl), (List.dropLast_concat_getLast _).symm⟩
            rw [← List.cons_append, dropR_snoc, dropR_snoc]
            by_cases hx : blaB x = true
            · rw [if_pos hx, if_pos hx]
              exact ihn l' (by simpa using hl)
            · rw [if_neg hx, if_neg hx, List.cons_append, dropL_cons, if_pos h]
        exact aux _ l rfl
      exact (key cs).symm
    · rw [if_neg h]
      have : ∃ l', dropR (c :: cs) = c :: l' := by
        have aux : ∀ n : Nat, ∀ l : List Int, l.length = n → ∃ l', dropR (c :: l) = c :: l' := by
          intro n
          induction n with
          | zero =>
            intro l hl
            obtain rfl := List.eq_nil_of_length_eq_zero hl
            have := dropR_snoc [] c
            rw [List.nil_append, if_neg h] at this
            exact ⟨[], this⟩
          | succ n ihn =>
            intro l hl
            obtain ⟨l', x, rfl⟩ : ∃ l' x, l = l' ++ [x] := ⟨l.dropLast, l.getLast (by intro e; rw [e] at hl; cases hl), (List.dropLast_concat_getLast _).symm⟩
            rw [← List.cons_append, dropR_snoc]
            by_cases hx : blaB x = true
            · rw [if_pos hx]
              exact ihn l' (by simpa using hl)
            · rw [if_neg hx]
              exact ⟨l' ++ [x], rfl⟩
        exact aux _ cs rfl
      obtain ⟨l', e⟩ := this
      rw [e, dropL_cons, if_neg h]
theorem bytes_extract (s : ByteArray) (a b : Nat) : bytesOf (s.extract a b) = ((bytesOf s).drop a).take (b - a) := by
  unfold bytesOf
  rw [Lib.extract_data, List.map_take, List.map_drop]
theorem bytes_last (s : ByteArray) (h : 0 < s.size) : bytesOf s = bytesOf (s.extract 0 (s.size - 1)) ++ [bt s ((s.size - 1 : Nat) : Int)] := by
  rw [bytes_extract, List.drop_zero, Nat.sub_zero]
  have h1 := drop_bt s (s.size - 1) (by omega)
  have h2 : (bytesOf s).drop (s.size - 1 + 1) = [] := List.drop_of_length_le (by rw [bytesOf_length]; omega)
  rw [h2] at h1
  rw [← h1, List.take_append_drop]
theorem bytes_first (s : ByteArray) (h : 0 < s.size) : bytesOf s = bt s 0 :: bytesOf (s.extract 1 s.size) := by
  rw [bytes_extract]
  have h1 := drop_bt s 0 h
  rw [List.drop_zero] at h1
  rw [List.take_of_length_le (by rw [List.length_drop, bytesOf_length]; exact Nat.le_refl _)]
  exact h1
theorem size_extract (s : ByteArray) (a b : Nat) (hb : b ≤ s.size) : (s.extract a b).size = b - a := by
  rw [← bytesOf_length, bytes_extract, List.length_take, List.length_drop, bytesOf_length]
  omega
theorem toList_nil (s : ByteArray) : s.toList = [] ↔ s.size = 0 := by
  rw [toList_data, ← data_length]
  exact List.length_eq_zero_iff.symm
theorem bytes_nil (s : ByteArray) (h : s.size = 0) : bytesOf s = [] := List.eq_nil_of_length_eq_zero (by rw [bytesOf_length]; exact h)
theorem spec_l1Blank_is (c : Int) : spec_l1Blank.f c = some (blaB c) := by
  unfold spec_l1Blank.f blaB
  by_cases h : c = 32
  · simp [h]
  · by_cases h2 : c = 9 <;> simp [h, h2]
theorem spec_Trimmed_right (n : Nat) : ∀ s : ByteArray, s.size = n → n ≤ 4611686018427387904 → Ev (fun k => spec_Trimmed.l1 k s) (strOfNums (dropR (bytesOf s))) := by
  induction n with
  | zero =>
    intro s hs _
    refine Ev.step (f := fun _ => some s) (fun k => ?_) (ev_eq (Ev.now _) ?_)
    · simp only [spec_Trimmed.l1]
      rw [if_pos ((toList_nil s).2 hs)]
    · rw [bytes_nil s hs, dropR_nil, ← bytes_nil s hs, nums_bytes]
  | succ n ih =>
    intro s hs hn
    have e := bytes_last s (by omega)
    have hi : wrap64 ((s.size : Int) - 1) = ((s.size - 1 : Nat) : Int) := by rw [wrap_in (by omega) (by omega)]; omega
    rw [e, dropR_snoc, ← e]
    by_cases hb : blaB (bt s ((s.size - 1 : Nat) : Int)) = true
    · rw [if_pos hb]
      refine Ev.step (f := fun k => spec_Trimmed.l1 k (s.extract 0 (s.size - 1))) (fun k => ?_) (ih _ (by rw [size_extract s _ _ (by omega)]; omega) (by omega))
      simp only [spec_Trimmed.l1]
      rw [if_neg (by rw [toList_nil]; omega), hi, if_pos (by omega), if_pos (by omega), spec_l1Blank_is]
      simp only [Option.bind_some]
      rw [if_pos hb, if_pos (by omega), Int.toNat_natCast]
    · rw [if_neg hb, nums_bytes]
      refine Ev.step (f := fun _ => some s) (fun k => ?_) (Ev.now _)
      simp only [spec_Trimmed.l1]
      rw [if_neg (by rw [toList_nil]; omega), hi, if_pos (by omega), if_pos (by omega), spec_l1Blank_is]
      simp only [Option.bind_some]
      rw [if_neg hb]
theorem spec_Trimmed_left (n : Nat) : ∀ s : ByteArray, s.size = n → n ≤ 4611686018427387904 → Ev (fun k => spec_Trimmed.l0 k s) (strOfNums (dropR (dropL (bytesOf s)))) := by
  induction n with
  | zero =>
    intro s hs h0
    refine Ev.step (f := fun k => spec_Trimmed.j1 k s) (fun k => ?_) (Ev.step (f := fun k => spec_Trimmed.l1 k s) (fun k => ?_) (ev_eq (spec_Trimmed_right 0 s hs h0) ?_))
    · simp only [spec_Trimmed.l0]
      rw [if_pos ((toList_nil s).2 hs)]
    · simp only [spec_Trimmed.j1]
    · rw [bytes_nil s hs]; rfl
  | succ n ih =>
    intro s hs hn
    have e := bytes_first s (by omega)
    rw [e, dropL_cons, ← e]
    by_cases hb : blaB (bt s 0) = true
    · rw [if_pos hb]
      refine Ev.step (f := fun k => spec_Trimmed.l0 k (s.extract 1 s.size)) (fun k => ?_) (ih _ (by rw [size_extract s _ _ (by omega)]; omega) (by omega))
      simp only [spec_Trimmed.l0]
      rw [if_neg (by rw [toList_nil]; omega), if_pos (by omega), spec_l1Blank_is]
      simp only [Option.bind_some]
      rw [if_pos hb, if_pos (by omega)]
    · rw [if_neg hb]
      refine Ev.step (f := fun k => spec_Trimmed.j1 k s) (fun k => ?_) (Ev.step (f := fun k => spec_Trimmed.l1 k s) (fun k => ?_) (spec_Trimmed_right _ s rfl (by omega)))
      · simp only [spec_Trimmed.l0]
        rw [if_neg (by rw [toList_nil]; omega), if_pos (by omega), spec_l1Blank_is]
        simp only [Option.bind_some]
        rw [if_neg hb]
      · simp only [spec_Trimmed.j1]
/-- A text without the blanks at its ends. -/
def trimT (s : ByteArray) : ByteArray := strOfNums (trimN (bytesOf s))
theorem spec_Trimmed_ev (s : ByteArray) (hs : s.size ≤ 4611686018427387904) : Ev (fun k => spec_Trimmed.f k s) (trimT s) := by
  unfold spec_Trimmed.f trimT trimN
  rw [← drop_comm]
  exact spec_Trimmed_left _ s rfl hs
theorem bla_u8 (b : UInt8) : ([32, 9] : List UInt8).contains b = blaB (b.toNat : Int) := by
  have n32 : (b.toNat : Int) = 32 → b = 32 := fun h => by
    refine UInt8.toNat_inj.1 ?_
    have e : b.toNat = 32 := by omega
    rw [e]; rfl
  have n9 : (b.toNat : Int) = 9 → b = 9 := fun h => by
    refine UInt8.toNat_inj.1 ?_
    have e : b.toNat = 9 := by omega
    rw [e]; rfl
  have h1 : b = 32 ↔ (b.toNat : Int) = 32 := ⟨fun h => by rw [h]; rfl, n32⟩
  have h2 : b = 9 ↔ (b.toNat : Int) = 9 := ⟨fun h => by rw [h]; rfl, n9⟩
  unfold blaB
  rw [show decide ((b.toNat : Int) = 32) = decide (b = 32) from decide_eq_decide.2 h1.symm, show decide ((b.toNat : Int) = 9) = decide (b = 9) from decide_eq_decide.2 h2.symm]
  by_cases a : b = 32
  · simp [a]
  · by_cases c : b = 9 <;> simp [a, c]
theorem dropW_map (l : List UInt8) : (l.dropWhile (([32, 9] : List UInt8).contains ·)).map (fun b => (b.toNat : Int)) = dropL (l.map fun b => (b.toNat : Int)) := by
  induction l with
  | nil => rfl
  | cons b l ih =>
    rw [List.map_cons, dropL_cons, List.dropWhile_cons, bla_u8]
    split
    · exact ih
    · rfl
theorem bytes_ofList (l : List UInt8) : bytesOf ⟨l.toArray⟩ = l.map fun b => (b.toNat : Int) := by
  unfold bytesOf
  rfl
theorem impl_Trimmed_is (s : ByteArray) (hs : s.size ≤ 9223372036854775807) : impl_Trimmed.f s = some (trimT s) := by
  unfold impl_Trimmed.f strings_Trim.f
  rw [if_pos ⟨hs, by decide, by decide⟩]
  refine congrArg some (bytes_inj ?_)
  have h0 : ∀ c ∈ trimN (bytesOf s), 0 ≤ c ∧ c ≤ 255 := by
    intro c hc
    refine mem_bytes (s := s) ?_
    unfold trimN dropL dropR at hc
    have h1 := (List.dropWhile_sublist _).subset hc
    rw [List.mem_reverse] at h1
    have h2 := (List.dropWhile_sublist _).subset h1
    rwa [List.mem_reverse] at h2
  unfold trimT
  rw [bytes_nums _ h0, bytes_ofList]
  unfold Lib.trimS Lib.trimLeftS Lib.trimRightS trimN dropR
  rw [show ((⟨#[32, 9]⟩ : ByteArray).data.toList) = ([32, 9] : List UInt8) from rfl, dropW_map, List.map_reverse, dropW_map, List.map_reverse]
  rfl
end Go.Proofs.YtfebipiccpbdbaaDoor.Q
/-! ## Qvis -/
/-
  VisibleOk of spec and impl come to one and the same. No condition but a text's greatest length.
-/
namespace Go.Proofs.YtfebipiccpbdbaaDoor.Q
set_option linter.unusedVariables false
set_option linter.unusedSimpArgs false
open Go.RowKit Go.Proofs.YtfebipiccpbdbaaDoor.P Go.Proofs.YtfebipiccpbdbaaDoorW.PrintWords Go.Proofs.YtfebipiccpbdbaaDoorW.PrintLast Go.Proofs.YtfebipiccpbdbaaDoorW.PrintMore

def visOk (s : ByteArray) : Bool := decide (s.size ≤ 400) && (bytesOf s).all visB
theorem spec_VisibleOk_ev (s : ByteArray) (hs : s.size ≤ 4611686018427387904) : Ev (fun k => spec_VisibleOk.f k s) (visOk s) := by
  unfold spec_VisibleOk.f visOk
  by_cases h : (s.size : Int) > 400
  · simp only [if_pos h]
    exact ev_const (by rw [decide_eq_false (by omega), Bool.false_and])
  · simp only [if_neg h]
    rw [decide_eq_true (by omega), Bool.true_and]
    refine ev_all s visB (fun k i => spec_VisibleOk.l0 k s i) 0 (fun k i _ hi hp => ?_) (fun k i _ hi hp => ?_) (fun k _ => ?_)
    · simp only [spec_VisibleOk.l0]
      rw [if_pos (by omega), if_pos (by omega), wrap_next hi hs]
      unfold visB at hp
      by_cases h1 : bt s i < 32
      · have h9 : bt s i = 9 := by simp at hp; omega
        rw [if_pos h1, if_pos h9]
      · rw [if_neg h1]
        by_cases h2 : bt s i > 126
        · have h9 : bt s i = 9 := by simp at hp; omega
          rw [if_pos h2, if_pos h9]
        · rw [if_neg h2]
    · simp only [spec_VisibleOk.l0]
      rw [if_pos (by omega), if_pos (by omega)]
      unfold visB at hp
      simp at hp
      by_cases h1 : bt s i < 32
      · rw [if_pos h1, if_neg hp.2]
      · rw [if_neg h1, if_pos (by omega), if_neg hp.2]
    · simp only [spec_VisibleOk.l0]
      rw [if_neg (by omega)]
theorem impl_VisibleOk_is (s : ByteArray) (hs : s.size ≤ 4611686018427387904) : impl_VisibleOk.f s = some (visOk s) := by
  unfold impl_VisibleOk.f visOk
  by_cases h : (s.size : Int) ≤ 400
  · rw [if_pos h, all_vis s (by omega), decide_eq_true (by omega), Bool.true_and]; rfl
  · rw [if_neg h, decide_eq_false (by omega), Bool.false_and]
end Go.Proofs.YtfebipiccpbdbaaDoor.Q
/-! ## Qfields -/
/-
  Fields: what a field is, FieldsOk of spec and impl, and how laws measure, copy and compare fields. Condition: the texts' greatest lengths.
-/
namespace Go.Proofs.YtfebipiccpbdbaaDoor.Q
set_option linter.unusedVariables false
set_option linter.unusedSimpArgs false
open Go.RowKit Go.Proofs.YtfebipiccpbdbaaDoor.P Go.Proofs.YtfebipiccpbdbaaDoorW.PrintWords Go.Proofs.YtfebipiccpbdbaaDoorW.PrintLast Go.Proofs.YtfebipiccpbdbaaDoorW.PrintMore

abbrev Fld := S67
abbrev FldL := S65
def isFieldB (n v : ByteArray) : Bool := tokOk n && (visOk v && (trimT v).toList == v.toList)
theorem spec_l4Field_ev (n v : ByteArray) (hn : n.size ≤ 4611686018427387904) (hv : v.size ≤ 4611686018427387904) : Ev (fun k => spec_l4Field.f k n v) (isFieldB n v) := by
  unfold spec_l4Field.f isFieldB
  refine Ev.bind (spec_TokenOk_ev n hn) ?_
  cases tokOk n
  · exact Ev.now _
  · simp only [if_true, Bool.true_and]
    refine Ev.bind (spec_VisibleOk_ev v hv) ?_
    cases visOk v
    · exact Ev.now _
    · simp only [if_true, Bool.true_and]
      exact Ev.bind (spec_Trimmed_ev v hv) (Ev.now _)
theorem impl_isField_is (n v : ByteArray) (hn : n.size ≤ 4611686018427387904) (hv : v.size ≤ 4611686018427387904) : impl_isField.f n v = some (isFieldB n v) := by
  unfold impl_isField.f isFieldB
  rw [impl_TokenOk_is n hn, impl_VisibleOk_is v hv, impl_Trimmed_is v (by omega)]
  cases tokOk n <;> cases visOk v <;> rfl
/-- Fields whose texts are not longer than a machine's memory. -/
def Mild (l : List Fld) : Prop := l.length ≤ 1048576 ∧ ∀ x ∈ l, x.f0.size ≤ 1048576 ∧ x.f1.size ≤ 1048576
def fieldsOk (l : List Fld) : Bool := decide (l.length ≤ 30) && l.all fun x => isFieldB x.f0 x.f1
theorem rd_fld (l : List Fld) (i : Nat) : rd_T67 l (i : Int) = l.getD i z67 := by
  unfold rd_T67
  rw [Int.toNat_natCast]
theorem rd_fldL (l : List FldL) (i : Nat) : rd_T65 l (i : Int) = l.getD i z65 := by
  unfold rd_T65
  rw [Int.toNat_natCast]
theorem spec_FieldsOk_ev (l : List Fld) (h : Mild l) : Ev (fun k => spec_FieldsOk.f k l) (fieldsOk l) := by
  unfold spec_FieldsOk.f fieldsOk
  have hl := h.1
  by_cases h0 : (l.length : Int) > 30
  · simp only [if_pos h0]
    rw [decide_eq_false (by omega), Bool.false_and]
    exact Ev.now _
  · simp only [if_neg h0]
    rw [decide_eq_true (by omega), Bool.true_and]
    refine ev_eq (ev_listAll l z67 (fun x => isFieldB x.f0 x.f1) true false (fun k i => spec_FieldsOk.l0 k l i) (fun i hi hp x hx => ?_) (fun i hi hp => ?_) ?_) (by cases l.all _ <;> rfl)
    · have hm := h.2 _ (mem_getD (d := z67) hi)
      refine Ev.step (f := fun k => (spec_l4Field.f k (l.getD i z67).f0 (l.getD i z67).f1).bind fun t => if t = true then spec_FieldsOk.l0 k l (((i + 1 : Nat) : Int)) else some false) (fun k => ?_) (Ev.bind (spec_l4Field_ev _ _ (by omega) (by omega)) ?_)
      · simp only [spec_FieldsOk.l0]
        rw [if_pos (by omega), if_pos (by omega), rd_fld, wrap_next hi (by omega)]
      · simp only [hp, if_true]
        exact hx
    · have hm := h.2 _ (mem_getD (d := z67) hi)
      refine Ev.step (f := fun k => (spec_l4Field.f k (l.getD i z67).f0 (l.getD i z67).f1).bind fun t => if t = true then spec_FieldsOk.l0 k l (((i + 1 : Nat) : Int)) else some false) (fun k => ?_) (Ev.bind (spec_l4Field_ev _ _ (by omega) (by omega)) ?_)
      · simp only [spec_FieldsOk.l0]
        rw [if_pos (by omega), if_pos (by omega), rd_fld, wrap_next hi (by omega)]
      · simp only [hp]
        exact Ev.now _
    · refine Ev.step (f := fun _ => some true) (fun k => ?_) (Ev.now _)
      simp only [spec_FieldsOk.l0]
      rw [if_neg (by omega)]
theorem impl_FieldsOk_is (l : List Fld) (h : Mild l) : impl_FieldsOk.f l = some (fieldsOk l) := by
  unfold impl_FieldsOk.f fieldsOk
  by_cases h0 : (l.length : Int) ≤ 30
  · rw [if_pos h0, decide_eq_true (by omega), Bool.true_and]
    have hx : ∀ x ∈ l, impl_FieldsOk_1.f x.f0 x.f1 = some (!isFieldB x.f0 x.f1) := by
      intro x hx
      have := h.2 x hx
      unfold impl_FieldsOk_1.f
      rw [impl_isField_is _ _ (by omega) (by omega)]
      rfl
    unfold impl_Field.f
    rw [if_pos ⟨rfl, List.all_eq_true.2 fun x hm => by rw [hx x hm]; rfl⟩]
    simp only [Option.bind_some]
    refine congrArg some ?_
    have : ∀ m : List Fld, (∀ x ∈ m, impl_FieldsOk_1.f x.f0 x.f1 = some (!isFieldB x.f0 x.f1)) → (!(m.any fun x => impl_FieldsOk_1.f x.f0 x.f1 == some true)) = m.all fun x => isFieldB x.f0 x.f1 := by
      intro m
      induction m with
      | nil => intro _; rfl
      | cons a m ih =>
        intro hm
        rw [List.any_cons, List.all_cons, hm a List.mem_cons_self, Bool.not_or, ih fun x hx => hm x (List.mem_cons_of_mem _ hx)]
        cases isFieldB a.f0 a.f1 <;> rfl
    exact this l hx
  · rw [if_neg h0, decide_eq_false (by omega), Bool.false_and]
/-- A field as the laws have it, turned into one of the program's. -/
def conv (x : FldL) : Fld := ⟨x.f0, x.f1⟩
/-- How laws measure fields: what is left, or nothing. -/
theorem szFieldS_ev (l : List FldL) (left : Int) (h0 : 0 ≤ left) (h1 : left ≤ 1048576) (hl : l.length ≤ 9223372036854775807) (hx : ∀ x ∈ l, x.f0.size ≤ 9223372036854775807 ∧ x.f1.size ≤ 9223372036854775807) :
    ∃ r, Ev (fun k => laws_szFieldS.f k l left) r ∧ r ≤ left ∧ (0 ≤ r → Mild (l.map conv)) := by
  have hw : wrap64 (left - (l.length : Int)) = left - (l.length : Int) := wrap_in (by omega) (by omega)
  unfold laws_szFieldS.f
  rw [hw]
  by_cases hn : left - (l.length : Int) < 0
  · simp only [if_pos hn]
    exact ⟨-1, Ev.now _, by omega, fun h => by omega⟩
  · simp only [if_neg hn]
    have key : ∀ (n i : Nat) (st : Int), i + n = l.length → 0 ≤ st → st ≤ 1048576 → ∃ r, Ev (fun k => laws_szFieldS.l0 k l st (i : Int)) r ∧ r ≤ st ∧ (0 ≤ r → ∀ x ∈ l.drop i, x.f0.size ≤ 1048576 ∧ x.f1.size ≤ 1048576) := by
      intro n
      induction n with
      | zero =>
        intro i st hd _ _
        refine ⟨st, Ev.step (f := fun _ => some st) (fun k => ?_) (Ev.now _), Int.le_refl _, fun _ x hx => ?_⟩
        · simp only [laws_szFieldS.l0]
          rw [if_neg (by omega)]
        · rw [List.drop_of_length_le (by omega)] at hx
          cases hx
      | succ n ih =>
        intro i st hd s0 s1
        have hm := hx _ (mem_getD (l := l) (d := z65) (i := i) (by omega))
        obtain ⟨x, hxe⟩ : ∃ x, l.getD i z65 = x := ⟨_, rfl⟩
        rw [hxe] at hm
        have e0 : ∀ k, laws_szFieldS.l0 (k + 1) l st (i : Int) = (laws_szField.f x.f0 x.f1 st).bind fun t => if t < 0 then some (-1) else laws_szFieldS.l0 k l t (((i + 1 : Nat) : Int)) := by
          intro k
          simp only [laws_szFieldS.l0]
          have hw2 : wrap64 ((i : Int) + 1) = ((i + 1 : Nat) : Int) := by rw [wrap_in (by omega) (by omega)]; omega
          rw [if_pos (by omega), if_pos (by omega), rd_fldL, hxe, hw2]
        have e1 : laws_szField.f x.f0 x.f1 st = some (if st - (x.f0.size : Int) < 0 then -1 else if st - (x.f0.size : Int) - (x.f1.size : Int) < 0 then -1 else st - (x.f0.size : Int) - (x.f1.size : Int)) := by
          unfold laws_szField.f
          rw [wrap_in (i := st - (x.f0.size : Int)) (by omega) (by omega)]
          by_cases a : st - (x.f0.size : Int) < 0
          · rw [if_pos a, if_pos a]
          · rw [if_neg a, if_neg a, wrap_in (i := st - (x.f0.size : Int) - (x.f1.size : Int)) (by omega) (by omega)]
            by_cases b : st - (x.f0.size : Int) - (x.f1.size : Int) < 0
            · rw [if_pos b, if_pos b]
            · rw [if_neg b, if_neg b]
        obtain ⟨t, ht⟩ : ∃ t, (if st - (x.f0.size : Int) < 0 then -1 else if st - (x.f0.size : Int) - (x.f1.size : Int) < 0 then -1 else st - (x.f0.size : Int) - (x.f1.size : Int)) = t := ⟨_, rfl⟩
        rw [ht] at e1
        by_cases hneg : t < 0
        · refine ⟨-1, Ev.step (f := fun _ => some (-1)) (fun k => ?_) (Ev.now _), by omega, fun h => by omega⟩
          rw [e0, e1]
          simp only [Option.bind_some, if_pos hneg]
        · have hb : t ≤ st ∧ x.f0.size ≤ 1048576 ∧ x.f1.size ≤ 1048576 := by
            split at ht
            · omega
            · split at ht <;> omega
          obtain ⟨r, hr, hle, hq⟩ := ih (i + 1) t (by omega) (by omega) (by omega)
          refine ⟨r, Ev.step (f := fun k => laws_szFieldS.l0 k l t (((i + 1 : Nat) : Int))) (fun k => ?_) hr, by omega, fun h z hz => ?_⟩
          · rw [e0, e1]
            simp only [Option.bind_some, if_neg hneg]
          · rw [drop_at l z65 i (by omega), hxe] at hz
            rcases List.mem_cons.1 hz with rfl | hz
            · exact hb.2
            · exact hq h z hz
    obtain ⟨r, hr, hle, hq⟩ := key l.length 0 (left - (l.length : Int)) (by omega) (by omega) (by omega)
    refine ⟨r, hr, by omega, fun h => ⟨by rw [List.length_map]; omega, fun x hx => ?_⟩⟩
    obtain ⟨y, hy, rfl⟩ := List.mem_map.1 hx
    rw [List.drop_zero] at hq
    exact hq h y hy
theorem toFieldS_ev (l : List FldL) (hl : l.length ≤ 1048576) : Ev (fun k => laws_toFieldS.f k l) (l.map conv) := by
  unfold laws_toFieldS.f
  have key : ∀ (n i : Nat), i + n = l.length → Ev (fun k => laws_toFieldS.l0 k l ((l.map conv).take i ++ List.replicate n z67) (i : Int)) (l.map conv) := by
    intro n
    induction n with
    | zero =>
      intro i hd
      refine Ev.step (f := fun _ => some (l.map conv)) (fun k => ?_) (Ev.now _)
      simp only [laws_toFieldS.l0]
      rw [if_neg (by omega), List.replicate_zero, List.append_nil, List.take_of_length_le (by rw [List.length_map]; omega)]
    | succ n ih =>
      intro i hd
      refine Ev.step (f := fun k => laws_toFieldS.l0 k l ((l.map conv).take (i + 1) ++ List.replicate n z67) (((i + 1 : Nat) : Int))) (fun k => ?_) (ih (i + 1) (by omega))
      simp only [laws_toFieldS.l0, laws_toField.f, Option.bind_some]
      have hlen : ((l.map conv).take i ++ List.replicate (n + 1) z67).length = l.length := by
        rw [List.length_append, List.length_take, List.length_map, List.length_replicate]; omega
      rw [if_pos (by omega), if_pos (by omega), hlen, if_pos (by omega), rd_fldL, wrap_next (by omega : i < l.length) (by omega), Int.toNat_natCast]
      have hi : i < (l.map conv).length := by rw [List.length_map]; omega
      have e : (l.map conv).take (i + 1) = (l.map conv).take i ++ [conv (l.getD i z65)] := by
        rw [List.take_add_one, List.getElem?_eq_getElem hi, List.getElem_map, List.getD_eq_getElem?_getD, List.getElem?_eq_getElem (by omega : i < l.length)]
        rfl
      rw [e, List.set_append, List.length_take, List.length_map, if_neg (by omega), Nat.min_eq_left (by omega), Nat.sub_self, List.replicate_succ, List.set_cons_zero, List.append_assoc]
      rfl
  have h0 := key l.length 0 (by omega)
  rw [List.take_zero, List.nil_append] at h0
  refine Ev.congr (fun k => ?_) h0
  rw [Int.toNat_natCast, if_pos (by omega), if_pos (by omega)]
  rfl
theorem eqFieldS_self (l : List Fld) (hl : l.length ≤ 1048576) : Ev (fun k => laws_eqFieldS.f k l l) true := by
  unfold laws_eqFieldS.f
  simp only [if_true]
  refine ev_eq (ev_listAll l z67 (fun _ => true) true false (fun k i => laws_eqFieldS.l0 k l l i) (fun i hi _ x hx => Ev.step (f := fun k => laws_eqFieldS.l0 k l l (((i + 1 : Nat) : Int))) (fun k => ?_) hx) (fun i hi hp => by cases hp) (Ev.step (f := fun _ => some true) (fun k => ?_) (Ev.now _))) (by simp)
  · simp only [laws_eqFieldS.l0, laws_eqField.f]
    rw [if_pos (by omega), if_pos (by omega), if_pos (by omega), wrap_next hi (by omega)]
    simp
  · simp only [laws_eqFieldS.l0]
    rw [if_neg (by omega)]
end Go.Proofs.YtfebipiccpbdbaaDoor.Q
/-! ## PureFnExactFieldsOk -/
/-
  FnExactFieldsOk answers true at every list of fields: both functions come to the same, and the list stays as it was. No condition.
-/
namespace Go.Proofs.YtfebipiccpbdbaaDoor.Pure
set_option linter.unusedVariables false
set_option linter.unusedSimpArgs false
open Go.RowKit Go.Proofs.YtfebipiccpbdbaaDoor.P Go.Proofs.YtfebipiccpbdbaaDoor.Q Go.Proofs.YtfebipiccpbdbaaDoorW.PrintWords
theorem FnExactFieldsOk : laws_FnExactFieldsOk.Pure := by
  intro l hl hx
  obtain ⟨r, hr, hle, hm⟩ := szFieldS_ev l 1048576 (by decide) (by decide) hl hx
  unfold laws_FnExactFieldsOk.f
  refine Ev.rounds (r := true) (Ev.bind hr ?_)
  by_cases h0 : r < 0
  · simp only [if_pos h0]
    exact Ev.now _
  · simp only [if_neg h0]
    have m := hm (by omega)
    have hlen : l.length ≤ 1048576 := by have := m.1; rwa [List.length_map] at this
    refine Ev.bind (toFieldS_ev l hlen) (Ev.bind (spec_FieldsOk_ev _ m) (Ev.bind (toFieldS_ev l hlen) (Ev.bind (ev_const (impl_FieldsOk_is _ m)) ?_)))
    simp only [bne_self_eq_false, Bool.false_eq_true, if_false]
    exact Ev.bind (toFieldS_ev l hlen) (Ev.bind (eqFieldS_self _ m.1) (Ev.now _))
end Go.Proofs.YtfebipiccpbdbaaDoor.Pure
/-! ## RowAid -/
/-
  A struct of one-cell fields that came in by value, opened field by field. No condition.
-/
namespace Go.Proofs.YtfebipiccpbdbaaDoor.RowAid
open Go.ChangeShapes Go.WideShapes Go.Deep
variable {H : Type} {enc : TypeId × Value → H} {P : Program} {w : World} {base : Nat} {spare : Nat → Bool} {held : Bool}
theorem open_one {r : Reach} {b0 : Nat} {t : TypeId} {fs : Array Field} {v : Value} {d : DataW H} {p : List MemPlace} (hs : P.underlying t = some (.struct fs)) (hone : oneCellFields P fs = true) (hC : P.cellsOf t = fs.size)
    (hv : Value.okWide P w r b0 t v) (h : DataW.Trod enc P w base spare held t v d p) :
    ∃ cs : List Value, v = .agg cs.toArray ∧ cs.length = fs.size ∧ ∃ n, ∀ (i : Nat) (f : Field) (c : Value), fs[i]? = some f → cs[i]? = some c → ∃ y, DataW.trod enc P w base spare held n f.type [c] = some y := by
  obtain ⟨⟨cs⟩, rfl, hsz⟩ := okWide_struct hs hv
  obtain ⟨fuel, hf⟩ := h
  obtain ⟨xs, n, _, _, hl, hx, hg⟩ := DataW.trod_struct hs hf
  have hcl : cs.length = fs.size := by
    have : (⟨cs⟩ : Array Value).size = cs.length := rfl
    omega
  refine ⟨cs, rfl, hcl, n, fun i f c hi hc => ?_⟩
  have hlt : i < fs.size := (Array.getElem?_eq_some_iff.1 hi).1
  obtain ⟨ho, hk⟩ := hone_of hone i f hi
  have h1 := hg i f hi
  have hcc : (Value.agg ⟨cs⟩).cells.toList = cs := rfl
  rw [hcc, ho, hk] at h1
  have hd : (cs.drop i).take 1 = [c] := by
    have hi' : i < cs.length := by omega
    rw [List.drop_eq_getElem_cons hi', List.take_succ_cons, List.take_zero]
    rw [List.getElem?_eq_getElem hi'] at hc
    rw [Option.some.inj hc]
  rw [hd] at h1
  have hxl : xs[i]? = some (xs[i]'(by omega)) := List.getElem?_eq_getElem (by omega)
  exact ⟨_, h1.trans hxl⟩
end Go.Proofs.YtfebipiccpbdbaaDoor.RowAid
/-! ## RowAidS -/
/-
  Slices that came in, opened element by element: structs of one-cell fields, and one-cell elements. No condition.
-/
namespace Go.Proofs.YtfebipiccpbdbaaDoor.RowAid
open Go.ChangeShapes Go.WideShapes Go.Deep
variable {H : Type} {enc : TypeId × Value → H} {P : Program} {w : World} {base : Nat} {spare : Nat → Bool} {held : Bool}
/-- What each place has, put into a list. -/
theorem list_of {α : Type} (n : Nat) (Q : Nat → α → Prop) (h : ∀ i, i < n → ∃ x, Q i x) : ∃ l : List α, l.length = n ∧ ∀ i x, l[i]? = some x → Q i x := by
  induction n with
  | zero => exact ⟨[], rfl, fun i x hx => by simp at hx⟩
  | succ n ih =>
    obtain ⟨l, hl, hq⟩ := ih fun i hi => h i (by omega)
    obtain ⟨z, hz⟩ := h n (Nat.lt_succ_self n)
    refine ⟨l ++ [z], by simp [hl], fun i x hx => ?_⟩
    by_cases hi : i < n
    · rw [List.getElem?_append_left (by omega)] at hx
      exact hq i x hx
    · by_cases he : i = n
      · subst he
        rw [List.getElem?_append_right (by omega), hl, Nat.sub_self] at hx
        obtain rfl := Option.some.inj hx
        exact hz
      · rw [List.getElem?_eq_none (by simp; omega)] at hx
        cases hx
/-- A slice of structs of one-cell fields: each field's cell, and what it reads as. -/
theorem open_structs {t e : TypeId} {fs : Array Field} {n : Nat} {c : Value} {y : DataW H × List MemPlace} (ht : P.underlying t = some (.slice e)) (he : P.underlying e = some (.struct fs)) (hone : oneCellFields P fs = true) (hC : P.cellsOf e = fs.size)
    (h : DataW.trod enc P w base spare held n t [c] = some y) :
    c = .slice none 0 0 ∨ ∃ (a : Addr) (len cap : Nat), c = .slice (some a) len cap ∧ len ≤ cap ∧ cap ≤ maxLen ∧
      ∀ i, i < len → ∃ m, ∀ (j : Nat) (f : Field), fs[j]? = some f → ∃ (v : Value) (z : DataW H × List MemPlace), w.cell? (a.add (i * fs.size + j)) = some v ∧ DataW.trod enc P w base spare held m f.type [v] = some z := by
  rcases open_slice ht h with ⟨h0, _⟩ | ⟨a, len, cap, m, k, D, Pl, hcs, _, hl, hm, hmm, _, hi⟩
  · exact .inl (List.cons.inj h0).1
  · refine .inr ⟨a, len, cap, (List.cons.inj hcs).1, hl, hm, fun i hil => ?_⟩
    obtain ⟨cs', hc, ht'⟩ := hi i (by rw [hmm]; split <;> omega)
    rw [hC] at hc
    obtain ⟨_, hcl, hat⟩ := World.cells?_some hc
    obtain ⟨xs, q, _, _, _, hlen, hg⟩ := DataW.trod_struct he ht'
    refine ⟨q, fun j f hj => ?_⟩
    have hjl : j < fs.size := (Array.getElem?_eq_some_iff.1 hj).1
    obtain ⟨ho, hk⟩ := hone_of hone j f hj
    have h1 := hg j f hj
    have hd : (cs'.drop j).take 1 = [cs'[j]'(by omega)] := by
      rw [List.drop_eq_getElem_cons (by omega), List.take_succ_cons, List.take_zero]
    rw [ho, hk, hd, List.getElem?_eq_getElem (by omega : j < xs.length)] at h1
    have h2 := hat j hjl
    rw [add_add, List.getElem?_eq_getElem (by omega : j < cs'.length)] at h2
    exact ⟨_, _, h2, h1⟩
/-- A slice of one-cell elements. -/
theorem open_ones {t e : TypeId} {n : Nat} {c : Value} {y : DataW H × List MemPlace} (ht : P.underlying t = some (.slice e)) (hC : P.cellsOf e = 1)
    (h : DataW.trod enc P w base spare held n t [c] = some y) :
    c = .slice none 0 0 ∨ ∃ (a : Addr) (len cap : Nat), c = .slice (some a) len cap ∧ len ≤ cap ∧ cap ≤ maxLen ∧
      ∀ i, i < len → ∃ (m : Nat) (v : Value) (z : DataW H × List MemPlace), w.cell? (a.add (i * 1)) = some v ∧ DataW.trod enc P w base spare held m e [v] = some z := by
  rcases open_slice ht h with ⟨h0, _⟩ | ⟨a, len, cap, m, k, D, Pl, hcs, _, hl, hm, hmm, _, hi⟩
  · exact .inl (List.cons.inj h0).1
  · refine .inr ⟨a, len, cap, (List.cons.inj hcs).1, hl, hm, fun i hil => ?_⟩
    obtain ⟨cs', hc, ht'⟩ := hi i (by rw [hmm]; split <;> omega)
    rw [hC] at hc
    obtain ⟨_, hcl, hat⟩ := World.cells?_some hc
    match cs', hcl with
    | [v], _ =>
      have h2 := hat 0 (Nat.lt_succ_self 0)
      rw [show (a.add (i * 1)).add 0 = a.add (i * 1) from rfl] at h2
      exact ⟨k, v, _, h2, ht'⟩
end Go.Proofs.YtfebipiccpbdbaaDoor.RowAid
/-! ## LawFnExactFieldsOk -/
/- The statement of FnExactFieldsOk, for every input: the row, out of the pure statement and the printed walk. No condition. -/
namespace Go.Proofs.YtfebipiccpbdbaaDoor.fnExactFieldsOk
open Go.ChangeShapes Go.WideShapes Go.ChangeAt Go.RowKit
open Go.Proofs.YtfebipiccpbdbaaDoorW.PrintWords Go.Proofs.YtfebipiccpbdbaaDoorW.PrintLast Go.Proofs.YtfebipiccpbdbaaDoorW.PrintMore Go.Proofs.YtfebipiccpbdbaaDoor.P
open Go.ChangeMaps (open_string shut_string)
set_option linter.unusedVariables false
theorem own : ownKnob Tryd.prog.godebug = none := by kernel_rfl
theorem laidOut : laidOutB Tryd.prog = true := by kernel_rfl
set_option maxRecDepth 100000 in
theorem rows_t22 {H : Type} {enc : TypeId × Value → H} {w : World} {base : Nat} {spare : Nat → Bool} {held : Bool} {n : Nat} {c : Value} {y : DataW H × List MemPlace} (h : DataW.trod enc Tryd.prog w base spare held n 22 [c] = some y) :
    ∃ (A : Option Addr) (cap : Nat) (l : List S65), c = .slice A l.length cap ∧ Kd.C k65 w A l.length l ∧ l.length ≤ cap ∧ l.length ≤ 9223372036854775807 ∧ ∀ x ∈ l, x.f0.size ≤ 9223372036854775807 ∧ x.f1.size ≤ 9223372036854775807 := by
  rcases RowAid.open_structs Tryd.underlying22 Tryd.underlying65 (by kernel_rfl) (by kernel_rfl) h with rfl | ⟨x, len, cap, rfl, hl, hm, hi⟩
  · exact ⟨none, 0, [], rfl, ⟨rfl, Nat.zero_le _, fun h => absurd h (by decide)⟩, Nat.le_refl _, Nat.zero_le _, fun x hx => by cases hx⟩
  · obtain ⟨l, hlen, hl2⟩ := RowAid.list_of len (fun i (z : S65) => w.cell? (x.add (i * 2 + 0)) = some (.string z.f0) ∧ w.cell? (x.add (i * 2 + 1)) = some (.string z.f1) ∧ z.f0.size ≤ 9223372036854775807 ∧ z.f1.size ≤ 9223372036854775807) (fun i hil => by
      obtain ⟨m, hf⟩ := hi i hil
      obtain ⟨v0, y0, e0, t0⟩ := hf 0 _ rfl
      obtain ⟨s0, q0, _, w0⟩ := DataW.trod_string Tryd.underlying9 t0
      obtain rfl := (List.cons.inj q0).1
      obtain ⟨v1, y1, e1, t1⟩ := hf 1 _ rfl
      obtain ⟨s1, q1, _, w1⟩ := DataW.trod_string Tryd.underlying9 t1
      obtain rfl := (List.cons.inj q1).1
      exact ⟨⟨s0, s1⟩, e0, e1, w0, w1⟩)
    subst hlen
    have hb : l.length ≤ 9223372036854775807 := Nat.le_trans hl (Nat.le_trans hm (by decide))
    refine ⟨some x, cap, l, rfl, ⟨rfl, hb, fun _ => ⟨x, rfl, fun j p hj => ⟨[.string p.f0, .string p.f1], rfl, k65_mk w p, fun i u hu => ?_⟩⟩⟩, hl, hb, fun z hz => ?_⟩
    · match i, hu with
      | 0, hu => obtain rfl := Option.some.inj hu; exact (hl2 j p hj).1
      | 1, hu => obtain rfl := Option.some.inj hu; exact (hl2 j p hj).2.1
    · obtain ⟨j, hj⟩ := List.getElem?_of_mem hz
      exact (hl2 j z hj).2.2
set_option maxRecDepth 100000 in
set_option maxHeartbeats 2000000 in
theorem lifted (os : Os) (started : os.Started) (H : Type) (enc : TypeId × Value → H) :
    ReturnsInHanded {} Tryd.checked os 3 .any (fun w args => (Rows.fnExactFieldsOkSpec.pre enc Tryd.prog Tryd.f3 [] false w args ∧ laidMetH Tryd.prog Rows.fnExactFieldsOkRow.laid w) ∧ sizedMet enc Tryd.prog Tryd.f3 (OpenSpec.ofChange Rows.fnExactFieldsOkSpec) false w args) (Rows.fnExactFieldsOkSpec.post enc Tryd.prog Tryd.f3 false true false false) := by
  refine RowAid.handed_both (C := Tryd.checked) (X := fun w _ => laidMetH Tryd.prog Rows.fnExactFieldsOkRow.laid w) (fun _ _ _ hh h => h.of_heap hh) own started (by kernel_rfl) Tryd.func3
    (ChangeSpec.witness_shaped (enc := enc) (C := Tryd.checked) (os := os) (X := fun w _ => laidMetH Tryd.prog Rows.fnExactFieldsOkRow.laid w) false (World.laidAll Tryd.prog os Rows.fnExactFieldsOkRow.laid) #[.slice none 0 0] 8 (World.laidAll_os _ _ _)
      (World.shaped_of_ZipB (by kernel_rfl) (by kernel_rfl)) (by kernel_rfl) (by kernel_rfl) (by kernel_rfl)
      (by rw [MakeChecks.laidMetH_plain _ _ _ (by kernel_rfl)]; exact laidMet_laidAll _ (by kernel_rfl) (by kernel_rfl))) ?_
  intro W base args ds gs before hval0 hW hcnd hsz0 hL hSh _
  have hsz : (DataW.weightsEach Tryd.prog (Tryd.f3.params.toList ++ Rows.fnExactFieldsOkSpec.plain.varTypes Tryd.prog) (ds ++ gs)).all (· ≤ reachBytes) = true := hsz0
  have hval : ∀ (j : Nat) t v, Tryd.f3.params[j]? = some t → args[j]? = some v → Value.okWide Tryd.prog W .any base t v := hval0
  have hW' := hW
  obtain ⟨p, q, hA0, hV, rfl, hfz, hnd⟩ := hW
  have hA : DataW.TrodAll enc Tryd.prog W 0 (fun _ => true) true Tryd.f3.params.toList args.toList ds p := hA0
  rw [Tryd.params3] at hA hval hsz
  obtain ⟨v0, vs0, d0, ds0, p0, q0, hargs, rfl, rfl, h0, r0⟩ := trodAll_cons hA
  obtain ⟨rfl, rfl, rfl⟩ := trodAll_nil r0
  obtain rfl : args = #[v0] := by cases args; simp_all
  obtain ⟨rfl, rfl⟩ := trodVars_none hV
  obtain ⟨xa0, xn0, xc0, rfl⟩ := okWide_slice Tryd.underlying22 (hval 0 22 v0 rfl rfl)
  have k0 := h0
  have lt0 : ∀ x ∈ p0, x.block < W.heap.size := by obtain ⟨m, hm⟩ := k0; exact DataW.trod_lt m _ _ _ hm
  obtain ⟨fu0, hf0⟩ := h0
  obtain ⟨A0, c0, l0, e0, hr0, hc0, wl0, we0⟩ := rows_t22 (c := .slice xa0 xn0 xc0) hf0
  cases e0
  clear hA0 hval0 hsz0 hsz
  refine (P.laws_FnExactFieldsOk.walk Pure.FnExactFieldsOk xa0 xc0 l0 W wl0 we0 hr0 hc0).mono fun e W' ⟨he, bel⟩ => ?_
  subst he
  exact ⟨_, rfl, _, _, _, [], _, [], hW', trodAll_mk1 (shut_bool Tryd.underlying4 _), (trodAll_cons_mk (Below.trod laidOut (by kernel_rfl) (of_decide_eq_true (by kernel_rfl)) k0 bel lt0) trodAll_mk0), rfl, bel.frame _, fun h => by cases h⟩
theorem over : Rows.fnExactFieldsOkRow.holds Tryd.pinned (OpenSpec.ofChange Rows.fnExactFieldsOkSpec) :=
  OpenClaim.holds_of_wide 3 Tryd.f3 rfl rfl rfl rfl rfl rfl rfl ⟨rfl, rfl, rfl, rfl, rfl⟩ rfl rfl rfl rfl rfl (by kernel_rfl) Tryd.func3 (by kernel_rfl)
    (of_decide_eq_true (by kernel_rfl)) (by unfold Func.isWrapper; first | (rw [if_pos (by decide +kernel)]; kernel_rfl) | (rw [if_neg (by decide +kernel)]; exact ⟨rfl, rfl⟩))
    (fun os started H enc _ => lifted os started H enc)
theorem proved : Rows.FnExactFieldsOkSaid := over
#print axioms proved
end Go.Proofs.YtfebipiccpbdbaaDoor.fnExactFieldsOk
namespace Go.Proofs.YtfebipiccpbdbaaDoor
/-- The tied card, under a short name, for the claim. -/
theorem fnExactFieldsOk_card : Rows.FnExactFieldsOkCardSaid :=
  Claim7.holds_tied_plain_at .later [] [.data, .pinned] true (true, "090dd8b52d5a9aab87a70a45cd45ba9354c43069745460516db811f4df20d7d4") false
    fnExactFieldsOk.proved (fun _ h => by cases h) (by kernel_rfl) (fun _ h => by cases h) fnExactFieldsOk_row_tie rfl ⟨rfl, rfl⟩ (by kernel_rfl) rfl
    (fun f fn hf hfn => by
      obtain rfl : f = 3 := Option.some.inj ((show Tryd.prog.funcNamed "loop.example/g00207/laws.FnExactFieldsOk" = some 3 by kernel_rfl).symm.trans hf) |>.symm
      obtain rfl : fn = Tryd.f3 := (Option.some.inj (Tryd.func3.symm.trans hfn)).symm
      exact ⟨by kernel_rfl, fun j t ht => by
        rw [Tryd.params3] at ht
        have hm : t ∈ [22] := by simpa using Array.mem_of_getElem? ht
        have hall : ([22].all fun u => !Tryd.prog.wantsStandIn u) = true := by kernel_rfl
        exact (show Tryd.prog.wantsStandIn t = false by simpa using List.all_eq_true.1 hall t hm)⟩)
    (by kernel_rfl)
#print axioms fnExactFieldsOk_card
end Go.Proofs.YtfebipiccpbdbaaDoor
