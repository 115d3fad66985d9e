/- Functions of the Go program as Lean functions, and proofs about them, merged out of this session's texts by its program bundle.py; conditions: those that each theorem states. -/
import Derived.Below
import Derived.Carry
import Derived.ChangeOld
import Derived.ChangeSame
import Derived.Deep.Fields
import Derived.Handed
import Derived.HandedShaped
import Derived.LaidMore
import Derived.Lay
import Derived.Lib.Bytealg
import Derived.OpenShut
import Derived.ProofKit
import Derived.SevenTiedAt
import Derived.ShutString
import Derived.SizedLaws
import Derived.Stop.Joined
import Derived.Test.YtpilaeoiagdoeaaDoorCards
import Derived.Test.YtpilaeoiagdoeaaDoorGParseInt
import Derived.Test.YtpilaeoiagdoeaaDoorGall
import Derived.Test.YtpilaeoiagdoeaaDoorP0
import Derived.Test.YtpilaeoiagdoeaaDoorPimplChunkerOk
import Derived.Test.YtpilaeoiagdoeaaDoorPimplChunkerbad
import Derived.Test.YtpilaeoiagdoeaaDoorPimplChunkereat
import Derived.Test.YtpilaeoiagdoeaaDoorPimplChunkereatAll
import Derived.Test.YtpilaeoiagdoeaaDoorPimplChunkersize
import Derived.Test.YtpilaeoiagdoeaaDoorPimplEatAll
import Derived.Test.YtpilaeoiagdoeaaDoorPimplHexDigits
import Derived.Test.YtpilaeoiagdoeaaDoorPimplTagOk1
import Derived.Test.YtpilaeoiagdoeaaDoorPimplisDigit
import Derived.Test.YtpilaeoiagdoeaaDoorPimplisHex
import Derived.Test.YtpilaeoiagdoeaaDoorPimplisVisible
import Derived.Test.YtpilaeoiagdoeaaDoorPimplwithin
import Derived.Test.YtpilaeoiagdoeaaDoorPlawsFnExactEatAll
import Derived.Test.YtpilaeoiagdoeaaDoorPlawseqChunker
import Derived.Test.YtpilaeoiagdoeaaDoorPlawsszChunker
import Derived.Test.YtpilaeoiagdoeaaDoorPlawstoChunker
import Derived.Test.YtpilaeoiagdoeaaDoorPspecChunkerOk
import Derived.Test.YtpilaeoiagdoeaaDoorPspecEatAll
import Derived.Test.YtpilaeoiagdoeaaDoorPspecHexDigits
import Derived.Test.YtpilaeoiagdoeaaDoorPspecl1Hex
import Derived.Test.YtpilaeoiagdoeaaDoorPspecl1In
import Derived.Test.YtpilaeoiagdoeaaDoorPspecl5Eat
import Derived.Test.YtpilaeoiagdoeaaDoorRows
import Derived.Test.YtpilaeoiagdoeaaDoorTie
import Derived.WalkKit
import Derived.WideShapes
/-! ## RowAidD -/
/-
  The wrap of a row that lists variables, the world's shape kept beside what it lists. No condition.
-/
namespace Go.Proofs.YtpilaeoiagdoeaaDoor.RowAid
open Go
variable {H : Type} {enc : TypeId × Value → H}
theorem handed_both {a : Assume} {C : Checked} {os : Os} {f : FuncId} {fn : Func} {s : ChangeSpec} {conds : List PathCond} {apart fresh handsOn again : Bool} {X : World → Array Value → Prop}
    (hX : ∀ (w w' : World) (args : Array Value), w.heap = w'.heap → X w args → X w' args)
    (own : ownKnob C.prog.godebug = none) (started : os.Started) (noInit : C.prog.inits.idxOf? f = none) (hfn : C.prog.funcs[f]? = some fn)
    (witness : ∃ (w : World) (tape : Tape) (i : Input), w.os = os ∧ (w.forCall tape i).Shaped C.prog ∧ i.vars = [] ∧ Input.okWide C.prog (w.forCall tape i) .any w.heap.size f i ∧
      ((s.pre enc C.prog fn conds apart (w.forCall tape i).memory i.args ∧ X (w.forCall tape i).memory i.args) ∧ sizedMet enc C.prog fn (OpenSpec.ofChange s) apart (w.forCall tape i).memory i.args) ∧ a.holds C.prog (lone (Frame.enter C.prog f i.args .normal) [] (w.forCall tape i)))
    (contract : ∀ (W : World) (base : Nat) (args : Array Value) (ds gs : List (DataW H)) (before : List MemPlace),
      (∀ (j : Nat) t v, fn.params[j]? = some t → args[j]? = some v → Value.okWide C.prog W .any base t v) →
      DataW.Whole enc C.prog fn.params.toList s.vars apart W args.toList ds gs before →
      conds.all (PathCond.test C.prog ⟨fn.params.toList, ds, s.plain.varTypes C.prog, gs⟩) = true →
      (DataW.weightsEach C.prog (fn.params.toList ++ s.plain.varTypes C.prog) (ds ++ gs)).all (· ≤ reachBytes) = true → X W args → W.ShapedOpen C.prog →
      a.holds C.prog (lone (Frame.enter C.prog f args .normal) [] W) →
      Calls C.prog f args W fun e W' => ∃ v, e = .returned v ∧ s.post enc C.prog fn apart fresh handsOn again W args v W') :
    ReturnsInHanded a C os f .any (fun w args => (s.pre enc C.prog fn conds apart w args ∧ X w args) ∧ sizedMet enc C.prog fn (OpenSpec.ofChange s) apart w args) (s.post enc C.prog fn apart fresh handsOn again) := by
  refine returnsInHanded_of_calls own started noInit witness ?_
  intro w tape i _ hsh _ hok hpre hholds
  obtain ⟨_, _, _, fn', hfn', _, _, _, _, hval⟩ := hok
  have e : fn' = fn := Option.some.inj (hfn'.symm.trans hfn)
  subst e
  obtain ⟨⟨⟨ds, gs, before, hw, hc⟩, hx⟩, hz⟩ := hpre
  have hw' := DataW.Whole.of_heap (w' := w.forCall tape i) (by rfl) hw
  refine (contract (w.forCall tape i) w.heap.size i.args ds gs before hval hw' hc (hz.weights hw) (hX _ _ _ (by rfl) hx) hsh hholds).mono fun e W' ⟨v, he, hp⟩ => ?_
  subst he
  exact ChangeSpec.post_blind hp
end Go.Proofs.YtpilaeoiagdoeaaDoor.RowAid
/-! ## Q0 -/
/-
  Small laws on the printed functions' words: loops over a text's bytes, from some number of rounds on. No condition beyond those that each law states.
-/
namespace Go.Proofs.YtpilaeoiagdoeaaDoor.Q
open Go.RowKit Go.Proofs.YtpilaeoiagdoeaaDoorW.PrintWords Go.Proofs.YtpilaeoiagdoeaaDoorW.PrintLast Go.Proofs.YtpilaeoiagdoeaaDoorW.PrintMore

theorem wrap_in {i : Int} (h0 : -9223372036854775808 ≤ i) (h1 : i ≤ 9223372036854775807) : wrap64 i = i := by unfold wrap64; omega
theorem wrap_next {i : Nat} {n : Nat} (h : i < n) (hn : n ≤ 4611686018427387904) : wrap64 ((i : Int) + 1) = ((i + 1 : Nat) : Int) := by unfold wrap64; omega

theorem toList_data (s : ByteArray) : s.toList = s.data.toList := ByteArray.toList_eq s
theorem eq_of_toList {a b : ByteArray} (h : a.toList = b.toList) : a = b := by
  rw [toList_data, toList_data] at h
  exact ByteArray.ext (Array.toList_inj.1 h)
theorem bt_get (s : ByteArray) (i : Nat) (h : i < s.size) : (bytesOf s)[i]? = some (bt s i) := by
  rw [← rd_bytesOf]
  have h1 : i < (bytesOf s).length := by rw [bytesOf_length]; exact h
  simp [rd, List.getD_eq_getElem?_getD, List.getElem?_eq_getElem h1]
theorem drop_bt (s : ByteArray) (i : Nat) (h : i < s.size) : (bytesOf s).drop i = bt s i :: (bytesOf s).drop (i + 1) := by
  have h1 : i < (bytesOf s).length := by rw [bytesOf_length]; exact h
  rw [List.drop_eq_getElem_cons h1]
  have := bt_get s i h
  rw [List.getElem?_eq_getElem h1] at this
  rw [Option.some.inj this]
theorem mem_bytes {s : ByteArray} {c : Int} (h : c ∈ bytesOf s) : 0 ≤ c ∧ c ≤ 255 := by
  unfold bytesOf at h
  obtain ⟨b, _, rfl⟩ := List.mem_map.1 h
  have := b.toNat_lt
  omega
theorem bytes_nums (l : List Int) (h : ∀ c ∈ l, 0 ≤ c ∧ c ≤ 255) : bytesOf (strOfNums l) = l := by
  unfold bytesOf
  rw [strOfNums_data, List.map_map]
  refine (List.map_congr_left fun c hc => ?_).trans (List.map_id l)
  have := h c hc
  simp only [Function.comp, UInt8.toNat_ofNat', id]
  omega
theorem nums_bytes (s : ByteArray) : strOfNums (bytesOf s) = s := by
  apply ByteArray.ext
  apply Array.toList_inj.1
  rw [strOfNums_data]
  unfold bytesOf
  rw [List.map_map]
  refine (List.map_congr_left fun c hc => ?_).trans (List.map_id _)
  simp
theorem bytes_inj {a b : ByteArray} (h : bytesOf a = bytesOf b) : a = b := by rw [← nums_bytes a, ← nums_bytes b, h]
theorem bytes_append (a b : ByteArray) : bytesOf (a ++ b) = bytesOf a ++ bytesOf b := by
  unfold bytesOf
  rw [← List.map_append]
  simp [ByteArray.data_append]

/-- A loop over bytes: what a round does with its state and a byte; an end ahead of time. -/
def runL {σ β : Type} (f : σ → Int → σ ⊕ β) (fin : σ → β) : List Int → σ → β
  | [], st => fin st
  | c :: cs, st => match f st c with
    | .inl st' => runL f fin cs st'
    | .inr b => b
/-- The printed loop comes to what 'runL' comes to, from some number of rounds on. -/
theorem ev_run {σ β : Type} (s : ByteArray) (I : σ → Nat → Prop) (f : σ → Int → σ ⊕ β) (fin : σ → β) (g : Nat → σ → Int → Option β) (K : Nat)
    (hstep : ∀ k st (i : Nat), K ≤ k → i < s.size → I st i → (∀ st', f st (bt s i) = .inl st' → g (k + 1) st i = g k st' ((i + 1 : Nat) : Int) ∧ I st' (i + 1)) ∧ (∀ b, f st (bt s i) = .inr b → g (k + 1) st i = some b))
    (hend : ∀ k st, K ≤ k → I st s.size → g (k + 1) st (s.size : Int) = some (fin st)) (st : σ) (h0 : I st 0) :
    Ev (fun k => g k st 0) (runL f fin (bytesOf s) st) := by
  have key : ∀ (d i : Nat) (st : σ), i + d = s.size → I st i → ∀ k, K + d < k → g k st (i : Int) = some (runL f fin ((bytesOf s).drop i) st) := by
    intro d
    induction d with
    | zero =>
      intro i st hd hI k hk
      obtain ⟨k, rfl⟩ : ∃ m, k = m + 1 := ⟨k - 1, by omega⟩
      have e : i = s.size := by omega
      subst e
      rw [hend k st (by omega) hI, List.drop_of_length_le (by rw [bytesOf_length]; exact Nat.le_refl _)]
      rfl
    | succ d ih =>
      intro i st hd hI k hk
      obtain ⟨k, rfl⟩ : ∃ m, k = m + 1 := ⟨k - 1, by omega⟩
      obtain ⟨h1, h2⟩ := hstep k st i (by omega) (by omega) hI
      rw [drop_bt s i (by omega)]
      show g (k + 1) st i = some (match f st (bt s i) with | .inl st' => runL f fin ((bytesOf s).drop (i + 1)) st' | .inr b => b)
      cases hf : f st (bt s i) with
      | inl st' =>
        obtain ⟨e, hI'⟩ := h1 st' hf
        rw [e]
        exact ih (i + 1) st' (by omega) hI' k (by omega)
      | inr b => exact h2 b hf
  refine ⟨K + s.size + 1, fun k hk => ?_⟩
  have := key s.size 0 st (by omega) h0 k (by omega)
  rw [List.drop_zero] at this
  exact this

/-- A loop that asks each byte. -/
theorem ev_all (s : ByteArray) (p : Int → Bool) (g : Nat → Int → Option Bool) (K : Nat)
    (h1 : ∀ k (i : Nat), K ≤ k → i < s.size → p (bt s i) = true → g (k + 1) i = g k ((i + 1 : Nat) : Int))
    (h0 : ∀ k (i : Nat), K ≤ k → i < s.size → p (bt s i) = false → g (k + 1) i = some false)
    (he : ∀ k, K ≤ k → g (k + 1) (s.size : Int) = some true) : Ev (fun k => g k 0) ((bytesOf s).all p) := by
  have h := ev_run (σ := Unit) (β := Bool) s (fun _ _ => True) (fun _ c => if p c = true then .inl () else .inr false) (fun _ => true) (fun k _ i => g k i) K
    (fun k st i hk hi _ => ⟨fun st' e => ⟨h1 k i hk hi (by
        by_cases hp : p (bt s i) = true
        · exact hp
        · rw [if_neg hp] at e; cases e), trivial⟩, fun b e => by
        by_cases hp : p (bt s i) = true
        · rw [if_pos hp] at e; cases e
        · rw [if_neg hp] at e
          obtain rfl : false = b := by injection e
          exact h0 k i hk hi (by simpa using hp)⟩)
    (fun k st hk _ => he k hk) () trivial
  have e : ∀ l : List Int, runL (σ := Unit) (β := Bool) (fun _ c => if p c = true then .inl () else .inr false) (fun _ => true) l () = l.all p := by
    intro l
    induction l with
    | nil => rfl
    | cons c cs ih =>
      rw [List.all_cons]
      unfold runL
      by_cases hp : p c = true
      · simp only [hp, if_true, Bool.true_and]; exact ih
      · simp only [(by simpa using hp : p c = false), Bool.false_and, Bool.false_eq_true, if_false]
  rw [e] at h
  exact h
theorem runL_all {β : Type} (p : Int → Bool) (r b : β) (l : List Int) : runL (σ := Unit) (fun _ c => if p c = true then .inl () else .inr b) (fun _ => r) l () = if l.all p = true then r else b := by
  induction l with
  | nil => rfl
  | cons c cs ih =>
    rw [List.all_cons]
    unfold runL
    by_cases hp : p c = true
    · simp only [hp, if_true, Bool.true_and]; exact ih
    · simp only [(by simpa using hp : p c = false), Bool.false_and, Bool.false_eq_true, if_false]
/-- A loop that asks each byte, and goes on behind it. -/
theorem ev_allr {β : Type} (s : ByteArray) (p : Int → Bool) (r b : β) (g : Nat → Int → Option β) (K : Nat)
    (h1 : ∀ k (i : Nat), K ≤ k → i < s.size → p (bt s i) = true → g (k + 1) i = g k ((i + 1 : Nat) : Int))
    (h0 : ∀ k (i : Nat), K ≤ k → i < s.size → p (bt s i) = false → g (k + 1) i = some b)
    (he : ∀ k, K ≤ k → g (k + 1) (s.size : Int) = some r) : Ev (fun k => g k 0) (if (bytesOf s).all p = true then r else b) := by
  rw [← runL_all p r b (bytesOf s)]
  refine ev_run (σ := Unit) s (fun _ _ => True) (fun _ c => if p c = true then .inl () else .inr b) (fun _ => r) (fun k _ i => g k i) K
    (fun k st i hk hi _ => ⟨fun st' e => ⟨h1 k i hk hi (by
        by_cases hp : p (bt s i) = true
        · exact hp
        · rw [if_neg hp] at e; cases e), trivial⟩, fun b' e => by
        by_cases hp : p (bt s i) = true
        · rw [if_pos hp] at e; cases e
        · rw [if_neg hp] at e
          obtain rfl : b = b' := by injection e
          exact h0 k i hk hi (by simpa using hp)⟩)
    (fun k st hk _ => he k hk) () trivial
/-- A loop that puts something behind a list for each byte. -/
theorem runL_flat {β : Type} (f : Int → List Int) (fin : List Int → β) (l st : List Int) : runL (fun st c => .inl (st ++ f c)) fin l st = fin (st ++ l.flatMap f) := by
  induction l generalizing st with
  | nil => simp [runL]
  | cons c cs ih =>
    unfold runL
    simp only [ih, List.flatMap_cons, List.append_assoc]
theorem ev_const {α : Type} {x : Option α} {r : α} (h : x = some r) : Ev (fun _ => x) r := ⟨0, fun _ _ => h⟩
theorem ev_eq {α : Type} {g : Nat → Option α} {r r' : α} (h : Ev g r) (e : r = r') : Ev g r' := e ▸ h
/-- From a number of rounds on: a law that holds at each such number. -/
theorem ev_now {α : Type} {g : Nat → Option α} {r : α} (K : Nat) (h : ∀ k, K ≤ k → g k = some r) : Ev g r := ⟨K, h⟩
theorem all_congr' {l : List Int} {p q : Int → Bool} (h : ∀ c ∈ l, p c = q c) : l.all p = l.all q := by
  induction l with
  | nil => rfl
  | cons a l ih =>
    rw [List.all_cons, List.all_cons, h a List.mem_cons_self, ih fun c hc => h c (List.mem_cons_of_mem _ hc)]
end Go.Proofs.YtpilaeoiagdoeaaDoor.Q
/-! ## Qall -/
/-
  What the byte predicates of impl and spec come to, and 'all' over each. No condition but a text's greatest length.
-/
namespace Go.Proofs.YtpilaeoiagdoeaaDoor.Q
set_option linter.unusedVariables false
set_option linter.unusedSimpArgs false
open Go.RowKit Go.Proofs.YtpilaeoiagdoeaaDoor.P Go.Proofs.YtpilaeoiagdoeaaDoorW.PrintWords Go.Proofs.YtpilaeoiagdoeaaDoorW.PrintLast Go.Proofs.YtpilaeoiagdoeaaDoorW.PrintMore

def visB (c : Int) : Bool := decide (32 ≤ c) && decide (c ≤ 126) || decide (c = 9)
def digB (c : Int) : Bool := decide (48 ≤ c) && decide (c ≤ 57)
def letB (c : Int) : Bool := decide (97 ≤ c) && decide (c ≤ 122) || decide (65 ≤ c) && decide (c ≤ 90)
def hexB (c : Int) : Bool := digB c || decide (97 ≤ c) && decide (c ≤ 102) || decide (65 ≤ c) && decide (c ≤ 70)
def tagB (c : Int) : Bool := decide (33 ≤ c) && decide (c ≤ 126) && decide (c ≠ 34)
def tokB (c : Int) : Bool := letB c || digB c || decide (c ∈ [33, 35, 36, 37, 38, 39, 42, 43, 45, 46, 94, 95, 124, 126, 96])
def plaB (c : Int) : Bool := letB c || digB c || decide (c ∈ [45, 46, 95, 126, 47, 58, 64, 33, 36, 38, 39, 40, 41, 42, 43, 44, 59, 61])

theorem impl_isVisible_is (c : Int) : impl_isVisible.f c = some (visB c) := by
  unfold impl_isVisible.f visB
  by_cases h1 : c ≥ 32 <;> by_cases h2 : c ≤ 126 <;> simp [h1, h2] <;> (try omega) <;> (try (by_cases h3 : c = 9 <;> simp [h3] <;> omega))
theorem impl_isDigit_is (c : Int) : impl_isDigit.f c = some (digB c) := by
  unfold impl_isDigit.f digB
  by_cases h1 : c ≥ 48 <;> simp [h1] <;> omega
theorem impl_isHex_is (c : Int) : impl_isHex.f c = some (hexB c) := by
  unfold impl_isHex.f hexB
  rw [impl_isDigit_is]
  cases h0 : digB c <;> by_cases h1 : c ≥ 97 <;> by_cases h2 : c ≤ 102 <;> by_cases h3 : c ≥ 65 <;> by_cases h4 : c ≤ 70 <;> simp [h1, h2, h3, h4] <;> omega
theorem impl_TagOk_1_is (c : Int) : impl_TagOk_1.f c = some (tagB c) := by
  unfold impl_TagOk_1.f tagB
  by_cases h1 : c ≥ 33 <;> by_cases h2 : c ≤ 126 <;> by_cases h3 : c = 34 <;> simp [h1, h2, h3] <;> omega

/-- A law on bytes, tried at each. -/
theorem byte_cases {p : Int → Prop} (h : ∀ n : Fin 256, p (n.val : Int)) (c : Int) (h0 : 0 ≤ c) (h1 : c ≤ 255) : p c := by
  have := h ⟨c.toNat, by omega⟩
  rwa [show ((⟨c.toNat, by omega⟩ : Fin 256).val : Int) = c from by show (c.toNat : Int) = c; omega] at this
/-- A hexadecimal digit's value, or -1. -/
def hexV (c : Int) : Int := if digB c = true then c - 48 else if 97 ≤ c ∧ c ≤ 102 then c - 87 else if 65 ≤ c ∧ c ≤ 70 then c - 55 else -1
theorem hexV_neg (c : Int) : decide (hexV c < 0) = !hexB c := by
  unfold hexV hexB
  cases h0 : digB c
  · by_cases h1 : 97 ≤ c ∧ c ≤ 102
    · simp [h1]; omega
    · by_cases h2 : 65 ≤ c ∧ c ≤ 70
      · have h1' : (decide (97 ≤ c) && decide (c ≤ 102)) = false := by simp; omega
        simp [h1, h1', h2]; omega
      · have h1' : (decide (97 ≤ c) && decide (c ≤ 102)) = false := by simp; omega
        have h2' : (decide (65 ≤ c) && decide (c ≤ 70)) = false := by simp; omega
        simp [h1, h1', h2, h2']
  · unfold digB at h0
    simp at h0
    simp
    omega
theorem spec_l1Hex_is (c : Int) (h0 : 0 ≤ c) (h1 : c ≤ 255) (k : Nat) (hk : 2 ≤ k) : spec_l1Hex.f k c = some (hexV c) :=
  at_rounds (fun k => spec_l1Hex.mono c k) hk (byte_cases (p := fun c => spec_l1Hex.f 2 c = some (hexV c)) (by decide +kernel) c h0 h1)
/-- 'all' over a predicate. -/
theorem all_vis (s : ByteArray) (hs : s.size ≤ 9223372036854775807) : impl_all.f s 79 = some ((bytesOf s).all visB) := by
  unfold impl_all.f
  rw [if_pos hs]
  simp only [Nat.reduceEqDiff, if_true, if_false, reduceIte]
  rw [all_congr' fun c hc => (by rw [impl_isVisible_is]; cases visB c <;> rfl : (impl_isVisible.f c == some true) = visB c)]
theorem all_hex (s : ByteArray) (hs : s.size ≤ 9223372036854775807) : impl_all.f s 68 = some ((bytesOf s).all hexB) := by
  unfold impl_all.f
  rw [if_pos hs]
  simp only [Nat.reduceEqDiff, if_true, if_false, reduceIte]
  rw [all_congr' fun c hc => (by rw [impl_isHex_is]; cases hexB c <;> rfl : (impl_isHex.f c == some true) = hexB c)]
theorem all_dig (s : ByteArray) (hs : s.size ≤ 9223372036854775807) : impl_all.f s 93 = some ((bytesOf s).all digB) := by
  unfold impl_all.f
  rw [if_pos hs]
  simp only [Nat.reduceEqDiff, if_true, if_false, reduceIte]
  rw [all_congr' fun c hc => (by rw [impl_isDigit_is]; cases digB c <;> rfl : (impl_isDigit.f c == some true) = digB c)]
theorem all_tag (s : ByteArray) (hs : s.size ≤ 9223372036854775807) : impl_all.f s 84 = some ((bytesOf s).all tagB) := by
  unfold impl_all.f
  rw [if_pos hs]
  simp only [Nat.reduceEqDiff, if_true, if_false, reduceIte]
  rw [all_congr' fun c hc => (by rw [impl_TagOk_1_is]; cases tagB c <;> rfl : (impl_TagOk_1.f c == some true) = tagB c)]
end Go.Proofs.YtpilaeoiagdoeaaDoor.Q
/-! ## Qin -/
/-
  Whether a number lies between two others, of spec and impl. No condition.
-/
namespace Go.Proofs.YtpilaeoiagdoeaaDoor.Q
set_option linter.unusedVariables false
set_option linter.unusedSimpArgs false
open Go.RowKit Go.Proofs.YtpilaeoiagdoeaaDoor.P Go.Proofs.YtpilaeoiagdoeaaDoorW.PrintWords Go.Proofs.YtpilaeoiagdoeaaDoorW.PrintLast Go.Proofs.YtpilaeoiagdoeaaDoorW.PrintMore

def inB (x a b : Int) : Bool := decide (a ≤ x) && decide (x ≤ b)
theorem spec_l1In_is (x a b : Int) : spec_l1In.f x a b = some (inB x a b) := by
  unfold spec_l1In.f inB
  by_cases h : x ≥ a
  · rw [if_pos h, decide_eq_true (by omega : a ≤ x), Bool.true_and]
  · rw [if_neg h, decide_eq_false (by omega : ¬ a ≤ x), Bool.false_and]
theorem impl_within_is (x a b : Int) : impl_within.f x a b = some (inB x a b) := by
  unfold impl_within.f inB
  by_cases h : x ≥ a
  · rw [if_pos h, decide_eq_true (by omega : a ≤ x), Bool.true_and]
  · rw [if_neg h, decide_eq_false (by omega : ¬ a ≤ x), Bool.false_and]
theorem inB_true {x a b : Int} (h : inB x a b = true) : a ≤ x ∧ x ≤ b := by unfold inB at h; simpa using h
end Go.Proofs.YtpilaeoiagdoeaaDoor.Q
/-! ## Qchunker -/
/-
  ChunkerOk of spec and impl come to one and the same. No condition but the texts' greatest lengths.
-/
namespace Go.Proofs.YtpilaeoiagdoeaaDoor.Q
set_option linter.unusedVariables false
set_option linter.unusedSimpArgs false
open Go.RowKit Go.Proofs.YtpilaeoiagdoeaaDoor.P Go.Proofs.YtpilaeoiagdoeaaDoorW.PrintWords Go.Proofs.YtpilaeoiagdoeaaDoorW.PrintLast Go.Proofs.YtpilaeoiagdoeaaDoorW.PrintMore

/-- What a state asks of Left and Digits. -/
def chunkState (st left : Int) (dg : ByteArray) : Bool :=
  if st = 1 then left == 0 else if st = 2 then dg.toList == ([] : List UInt8) else if st = 3 then (dg.toList == ([] : List UInt8)) && decide (left > 0) else decide (left = 0) && (dg.toList == ([] : List UInt8))
def chunkerOk (st left : Int) (dg bd : ByteArray) : Bool :=
  inB st 1 9 && (inB left 0 4000 && (decide (dg.size ≤ 13) && (decide ((bd.size : Int) + left ≤ 4000) && ((bytesOf dg).all hexB && chunkState st left dg))))
theorem spec_ChunkerOk_ev (st left : Int) (dg bd : ByteArray) (hb : bd.size ≤ 4611686018427387904) : Ev (fun k => spec_ChunkerOk.f k st left dg bd) (chunkerOk st left dg bd) := by
  have no : Ev (fun k => spec_ChunkerOk.j0 k true st left dg bd) false := Ev.step (f := fun _ => some false) (fun k => by simp only [spec_ChunkerOk.j0, if_true]) (Ev.now _)
  unfold spec_ChunkerOk.f chunkerOk
  simp only [spec_l1In_is, Option.bind_some]
  cases h1 : inB st 1 9
  · simp only [Bool.false_eq_true, if_false, Bool.false_and]; exact no
  · simp only [if_true, Bool.true_and]
    cases h2 : inB left 0 4000
    · simp only [Bool.false_eq_true, if_false, Bool.false_and]; exact no
    · simp only [if_true, Bool.true_and]
      obtain ⟨l0, l1⟩ := inB_true h2
      by_cases h3 : (dg.size : Int) > 13
      · simp only [if_pos h3]
        rw [decide_eq_false (by omega : ¬ dg.size ≤ 13), Bool.false_and]; exact no
      · simp only [if_neg h3]
        rw [decide_eq_true (by omega : dg.size ≤ 13), Bool.true_and, wrap_in (by omega) (by omega)]
        by_cases h4 : (bd.size : Int) + left > 4000
        · rw [decide_eq_true h4, decide_eq_false (by omega : ¬ (bd.size : Int) + left ≤ 4000), Bool.false_and]; exact no
        · rw [decide_eq_false h4, decide_eq_true (by omega : (bd.size : Int) + left ≤ 4000), Bool.true_and]
          refine Ev.step (f := fun k => spec_ChunkerOk.l0 k 0 st left dg bd) (fun k => by simp only [spec_ChunkerOk.j0, Bool.false_eq_true, if_false]) ?_
          refine ev_eq (ev_allr dg hexB (chunkState st left dg) false (fun k i => spec_ChunkerOk.l0 k i st left dg bd) 2 (fun k i hk hi hp => ?_) (fun k i hk hi hp => ?_) (fun k _ => ?_)) (by cases (bytesOf dg).all hexB <;> simp)
          · have hr := bt_range dg i
            have hn := hexV_neg (bt dg i)
            rw [hp] at hn
            simp only [spec_ChunkerOk.l0]
            rw [if_pos (by omega), if_pos (by omega), spec_l1Hex_is _ hr.1 hr.2 k hk, wrap_next hi (by omega)]
            simp only [Option.bind_some]
            rw [if_neg (by simpa using hn)]
          · have hr := bt_range dg i
            have hn := hexV_neg (bt dg i)
            rw [hp] at hn
            simp only [spec_ChunkerOk.l0]
            rw [if_pos (by omega), if_pos (by omega), spec_l1Hex_is _ hr.1 hr.2 k hk]
            simp only [Option.bind_some]
            rw [if_pos (by simpa using hn)]
          · simp only [spec_ChunkerOk.l0]
            rw [if_neg (by omega)]
            unfold chunkState
            by_cases s1 : st = 1
            · simp [s1]
            · by_cases s2 : st = 2
              · simp [s2]
              · by_cases s3 : st = 3
                · by_cases e : dg.toList = [] <;> simp [s3, e]
                · by_cases e : left = 0 <;> simp [s1, s2, s3, e]
theorem impl_ChunkerOk_ev (st left : Int) (dg bd : ByteArray) (hb : bd.size ≤ 4611686018427387904) : Ev (fun k => impl_ChunkerOk.f k st left dg bd) (chunkerOk st left dg bd) := by
  have no : Ev (fun k => impl_ChunkerOk.j0 k true st left dg bd) false := Ev.step (f := fun _ => some false) (fun k => by simp only [impl_ChunkerOk.j0, if_true]) (Ev.now _)
  unfold impl_ChunkerOk.f chunkerOk
  simp only [impl_within_is, Option.bind_some]
  cases h1 : inB st 1 9
  · simp only [Bool.false_eq_true, if_false, Bool.false_and]; exact no
  · simp only [if_true, Bool.true_and]
    cases h2 : inB left 0 4000
    · simp only [Bool.false_eq_true, if_false, Bool.false_and]; exact no
    · simp only [if_true, Bool.true_and]
      obtain ⟨l0, l1⟩ := inB_true h2
      by_cases h3 : (dg.size : Int) > 13
      · simp only [if_pos h3]
        rw [decide_eq_false (by omega : ¬ dg.size ≤ 13), Bool.false_and]; exact no
      · simp only [if_neg h3]
        rw [decide_eq_true (by omega : dg.size ≤ 13), Bool.true_and, all_hex dg (by omega)]
        simp only [Option.bind_some]
        cases h5 : (bytesOf dg).all hexB
        · simp only [Bool.false_eq_true, if_false, Bool.false_and, Bool.and_false]; exact no
        · simp only [if_true, Bool.true_and]
          by_cases h6 : (bd.size : Int) > 4000
          · simp only [if_pos h6]
            rw [decide_eq_false (by omega : ¬ (bd.size : Int) + left ≤ 4000), Bool.false_and]; exact no
          · simp only [if_neg h6]
            rw [wrap_in (by omega) (by omega)]
            by_cases h4 : left + (bd.size : Int) > 4000
            · rw [decide_eq_true h4, decide_eq_false (by omega : ¬ (bd.size : Int) + left ≤ 4000), Bool.false_and]; exact no
            · rw [decide_eq_false h4, decide_eq_true (by omega : (bd.size : Int) + left ≤ 4000), Bool.true_and]
              refine Ev.step (f := fun _ => some (chunkState st left dg)) (fun k => ?_) (Ev.now _)
              simp only [impl_ChunkerOk.j0, Bool.false_eq_true, if_false]
              unfold chunkState
              by_cases p : left > 0
              · have p0 : ¬ left = 0 := by omega
                by_cases s2 : st = 2
                · by_cases e : dg.toList = [] <;> simp [p, p0, s2, e]
                · by_cases s3 : st = 3
                  · by_cases e : dg.toList = [] <;> simp [p, p0, s3, e]
                  · by_cases s1 : st = 1 <;> simp [p, p0, s1, s2, s3]
              · have p0 : left = 0 := by omega
                by_cases s3 : st = 3
                · by_cases e : dg.toList = [] <;> simp [p0, s3, e]
                · by_cases s1 : st = 1
                  · by_cases e : dg.toList = [] <;> simp [p0, s1, e]
                  · by_cases s2 : st = 2
                    · by_cases e : dg.toList = [] <;> simp [p0, s2, e]
                    · have sb : (st == 1) = false := by simpa using s1
                      by_cases e : dg.toList = []
                      · simp [p0, s1, s2, s3, e]
                      · have eb : dg.toList.isEmpty = false := by simpa using e
                        simp [p0, s1, s2, s3, e, sb, eb]
end Go.Proofs.YtpilaeoiagdoeaaDoor.Q
/-! ## Qnum -/
/-
  Digits and HexDigits of spec and impl: a text's number, and whether it is one. No condition.
-/
namespace Go.Proofs.YtpilaeoiagdoeaaDoor.Q
set_option linter.unusedVariables false
set_option linter.unusedSimpArgs false
open Go.RowKit Go.Proofs.YtpilaeoiagdoeaaDoor.P Go.Proofs.YtpilaeoiagdoeaaDoorW.PrintWords Go.Proofs.YtpilaeoiagdoeaaDoorW.PrintLast Go.Proofs.YtpilaeoiagdoeaaDoorW.PrintMore

theorem dgt_hex (c : Int) : dgt c = hexV c := by
  unfold dgt hexV digB
  by_cases h : 48 ≤ c ∧ c ≤ 57
  · rw [if_pos h, if_pos (by simp [h])]
  · have hb : (decide (48 ≤ c) && decide (c ≤ 57)) = false := by simp; omega
    rw [if_neg h, hb]
    simp
theorem hexV_lt (c : Int) : hexV c < 16 := by
  rw [← dgt_hex]
  unfold dgt
  split
  · omega
  · split
    · omega
    · split <;> omega
theorem hexB_is (c : Int) : hexB c = (decide (0 ≤ dgt c) && decide (dgt c < 16)) := by
  have h1 := hexV_neg c
  have h2 := hexV_lt c
  rw [dgt_hex, decide_eq_true h2, Bool.and_true]
  by_cases h : 0 ≤ hexV c
  · rw [decide_eq_false (by omega : ¬ hexV c < 0)] at h1
    rw [decide_eq_true h]
    cases hb : hexB c
    · rw [hb] at h1; cases h1
    · rfl
  · rw [decide_eq_true (by omega : hexV c < 0)] at h1
    rw [decide_eq_false h]
    cases hb : hexB c
    · rfl
    · rw [hb] at h1; cases h1
theorem digB_is (c : Int) : digB c = (decide (0 ≤ dgt c) && decide (dgt c < 10)) := by
  unfold digB dgt
  by_cases h : 48 ≤ c ∧ c ≤ 57
  · rw [if_pos h]
    have a : 0 ≤ c - 48 := by omega
    have b : c - 48 < 10 := by omega
    simp [h, a, b]
  · rw [if_neg h]
    have : (decide (48 ≤ c) && decide (c ≤ 57)) = false := by simp; omega
    rw [this]
    split
    · have : ¬ c - 87 < 10 := by omega
      simp [this]
    · split
      · have : ¬ c - 55 < 10 := by omega
        simp [this]
      · simp
theorem dgt_dig {c : Int} (h : digB c = true) : dgt c = c - 48 ∧ 48 ≤ c ∧ c ≤ 57 := by
  unfold digB at h
  simp at h
  unfold dgt
  rw [if_pos h]
  exact ⟨rfl, h⟩
theorem all_okB16 (l : List Int) : l.all hexB = okB 16 l := all_congr' fun c _ => hexB_is c
theorem all_okB10 (l : List Int) : l.all digB = okB 10 l := all_congr' fun c _ => digB_is c
/-- A text's number at a base, if it has one to so many digits. -/
def numOk (b : Int) (m : Nat) (p : Int → Bool) (s : ByteArray) : Int × Bool := if 1 ≤ s.size ∧ s.size ≤ m ∧ (bytesOf s).all p = true then (numB b (bytesOf s), true) else (0, false)
theorem runL_num (b : Int) (p : Int → Bool) (l : List Int) (st : Int) :
    runL (fun (st : Int) c => if p c = true then .inl (st * b + dgt c) else .inr ((0 : Int), false)) (fun st => (st, true)) l st = if l.all p = true then (l.foldl (fun n c => n * b + dgt c) st, true) else (0, false) := by
  induction l generalizing st with
  | nil => rfl
  | cons c cs ih =>
    rw [List.all_cons]
    unfold runL
    by_cases hp : p c = true
    · simp only [hp, if_true, Bool.true_and, ih, List.foldl_cons]
    · simp only [(by simpa using hp : p c = false), Bool.false_and, Bool.false_eq_true, if_false]
theorem num_next {b st d : Int} {i : Nat} (hb : 0 ≤ b) (h0 : 0 ≤ st) (h1 : st < b ^ i) (d0 : 0 ≤ d) (d1 : d < b) : 0 ≤ st * b ∧ 0 ≤ st * b + d ∧ st * b + d < b ^ (i + 1) := by
  have a := Int.mul_nonneg h0 hb
  rw [Int.pow_succ]
  have : (st + 1) * b ≤ b ^ i * b := Int.mul_le_mul_of_nonneg_right (by omega) hb
  rw [Int.add_mul, Int.one_mul] at this
  omega
theorem num_loop (b : Int) (hb : b = 10 ∨ b = 16) (m : Nat) (hm : (b = 10 ∧ m ≤ 15) ∨ (b = 16 ∧ m ≤ 13)) (p : Int → Bool) (hp : ∀ c, p c = true → 0 ≤ dgt c ∧ dgt c < b) (s : ByteArray) (hs : s.size ≤ m) (g : Nat → Int → Int → Option (Int × Bool)) (K : Nat)
    (h1 : ∀ k (st : Int) (i : Nat), K ≤ k → i < s.size → p (bt s i) = true → wrap64 (st * b) = st * b → wrap64 (st * b + dgt (bt s i)) = st * b + dgt (bt s i) → g (k + 1) st i = g k (st * b + dgt (bt s i)) ((i + 1 : Nat) : Int))
    (h0 : ∀ k (st : Int) (i : Nat), K ≤ k → i < s.size → p (bt s i) = false → g (k + 1) st i = some (0, false))
    (he : ∀ k (st : Int), K ≤ k → g (k + 1) st (s.size : Int) = some (st, true)) : Ev (fun k => g k 0 0) (if (bytesOf s).all p = true then (numB b (bytesOf s), true) else (0, false)) := by
  have hr := ev_run s (fun (st : Int) i => 0 ≤ st ∧ st < b ^ i) (fun (st : Int) c => if p c = true then .inl (st * b + dgt c) else .inr ((0 : Int), false)) (fun st => (st, true)) g K
    (fun k st i hk hi hI => ⟨fun st' e => (by
        by_cases hq : p (bt s i) = true
        · rw [if_pos hq] at e
          obtain rfl : st * b + dgt (bt s i) = st' := by injection e
          obtain ⟨d0, d1⟩ := hp _ hq
          obtain ⟨a0, a1, a2⟩ := num_next (b := b) (by omega) hI.1 hI.2 d0 d1
          have hw := pow_small hb hm (k := i + 1) (by omega)
          exact ⟨h1 k st i hk hi hq (wrap_in (by omega) (by omega)) (wrap_in (by omega) (by omega)), a1, a2⟩
        · rw [if_neg hq] at e; cases e),
      fun r e => (by
        by_cases hq : p (bt s i) = true
        · rw [if_pos hq] at e; cases e
        · rw [if_neg hq] at e
          obtain rfl : ((0 : Int), false) = r := by injection e
          exact h0 k st i hk hi (by simpa using hq))⟩)
    (fun k st hk _ => he k st hk) 0 ⟨by omega, by simp⟩
  rw [runL_num] at hr
  exact hr
theorem spec_HexDigits_ev (s : ByteArray) : Ev (fun k => spec_HexDigits.f k s) (numOk 16 13 hexB s) := by
  have no : Ev (fun k => spec_HexDigits.j0 k s true) ((0 : Int), false) := Ev.step (f := fun _ => some (0, false)) (fun k => by simp only [spec_HexDigits.j0, if_true]) (Ev.now _)
  unfold spec_HexDigits.f numOk
  by_cases h1 : (s.size : Int) < 1
  · simp only [if_pos h1]
    rw [if_neg (by omega)]
    exact no
  · simp only [if_neg h1]
    by_cases h2 : (s.size : Int) > 13
    · rw [decide_eq_true h2, if_neg (by omega)]
      exact no
    · rw [decide_eq_false h2]
      refine Ev.step (f := fun k => spec_HexDigits.l0 k s 0 0) (fun k => by simp only [spec_HexDigits.j0, Bool.false_eq_true, if_false]) ?_
      refine ev_eq (num_loop 16 (.inr rfl) 13 (.inr ⟨rfl, Nat.le_refl _⟩) hexB (fun c h => by rw [hexB_is] at h; simpa using h) s (by omega) (fun k st i => spec_HexDigits.l0 k s st i) 2 (fun k st i hk hi hq w1 w2 => ?_) (fun k st i hk hi hq => ?_) (fun k st _ => ?_)) ?_
      · have hr := bt_range s i
        have hn := hexV_neg (bt s i)
        rw [hq] at hn
        rw [dgt_hex] at w2 ⊢
        simp only [spec_HexDigits.l0]
        rw [if_pos (by omega), if_pos (by omega), spec_l1Hex_is _ hr.1 hr.2 k hk, wrap_next hi (by omega)]
        simp only [Option.bind_some]
        rw [if_neg (by simpa using hn), w1, w2]
      · have hr := bt_range s i
        have hn := hexV_neg (bt s i)
        rw [hq] at hn
        simp only [spec_HexDigits.l0]
        rw [if_pos (by omega), if_pos (by omega), spec_l1Hex_is _ hr.1 hr.2 k hk]
        simp only [Option.bind_some]
        rw [if_pos (by simpa using hn)]
      · simp only [spec_HexDigits.l0]
        rw [if_neg (by omega)]
      · have a : 1 ≤ s.size := by omega
        have b : s.size ≤ 13 := by omega
        simp only [a, b, true_and]
theorem impl_HexDigits_is (s : ByteArray) : impl_HexDigits.f s = some (numOk 16 13 hexB s) := by
  unfold impl_HexDigits.f numOk
  by_cases h1 : (s.size : Int) < 1
  · rw [if_pos h1, if_neg (by omega)]
  · rw [if_neg h1]
    by_cases h2 : (s.size : Int) > 13
    · rw [if_pos h2, if_neg (by omega)]
    · rw [if_neg h2, all_hex s (by omega)]
      simp only [Option.bind_some]
      have a : 1 ≤ s.size := by omega
      have b : s.size ≤ 13 := by omega
      by_cases h3 : (bytesOf s).all hexB = true
      · rw [if_pos h3, if_pos ⟨a, b, h3⟩]
        unfold strconv_ParseInt.f
        rw [if_pos ⟨rfl, by omega, by rw [← all_okB16]; exact h3, .inl ⟨rfl, b⟩⟩]
        rfl
      · rw [if_neg h3, if_neg (by intro h; exact h3 h.2.2)]
end Go.Proofs.YtpilaeoiagdoeaaDoor.Q
/-! ## Qeat -/
/-
  Eat, EatAll and Unchunked of spec and impl come to one and the same. Condition: a chunker that is one.
-/
namespace Go.Proofs.YtpilaeoiagdoeaaDoor.Q
set_option linter.unusedVariables false
set_option linter.unusedSimpArgs false
open Go.RowKit Go.Proofs.YtpilaeoiagdoeaaDoor.P Go.Proofs.YtpilaeoiagdoeaaDoorW.PrintWords Go.Proofs.YtpilaeoiagdoeaaDoorW.PrintLast Go.Proofs.YtpilaeoiagdoeaaDoorW.PrintMore

/-- A loop over bytes whose rounds each end, however many rounds they take. -/
theorem ev_runE {σ β : Type} (s : ByteArray) (I : σ → Nat → Prop) (f : σ → Int → σ ⊕ β) (fin : σ → β) (g : Nat → σ → Int → Option β)
    (hstep : ∀ st (i : Nat), i < s.size → I st i → (∀ st', f st (bt s i) = .inl st' → I st' (i + 1) ∧ ∀ r, Ev (fun k => g k st' ((i + 1 : Nat) : Int)) r → Ev (fun k => g k st (i : Int)) r) ∧ (∀ b, f st (bt s i) = .inr b → Ev (fun k => g k st (i : Int)) b))
    (hend : ∀ st, I st s.size → Ev (fun k => g k st (s.size : Int)) (fin st)) (st : σ) (h0 : I st 0) :
    Ev (fun k => g k st 0) (runL f fin (bytesOf s) st) := by
  have key : ∀ (d i : Nat) (st : σ), i + d = s.size → I st i → Ev (fun k => g k st (i : Int)) (runL f fin ((bytesOf s).drop i) st) := by
    intro d
    induction d with
    | zero =>
      intro i st hd hI
      have e : i = s.size := by omega
      subst e
      rw [List.drop_of_length_le (by rw [bytesOf_length]; exact Nat.le_refl _)]
      exact hend st hI
    | succ d ih =>
      intro i st hd hI
      obtain ⟨h1, h2⟩ := hstep st i (by omega) hI
      rw [drop_bt s i (by omega)]
      show Ev _ (match f st (bt s i) with | .inl st' => runL f fin ((bytesOf s).drop (i + 1)) st' | .inr b => b)
      cases hf : f st (bt s i) with
      | inl st' =>
        obtain ⟨hI', hr⟩ := h1 st' hf
        exact hr _ (ih (i + 1) st' (by omega) hI')
      | inr b => exact h2 b hf
  have := key s.size 0 st (by omega) h0
  rw [List.drop_zero] at this
  exact this

abbrev Chk := Int × Int × ByteArray × ByteArray
def badC (bd : ByteArray) : Chk := (9, 0, (⟨#[]⟩ : ByteArray), bd)
/-- A chunker that eats a byte. -/
def eatC (st left : Int) (dg bd : ByteArray) (b : Int) : Chk :=
  if st = 8 ∨ st = 9 then (st, left, dg, bd)
  else if st = 1 then
    (if hexB b = true ∧ dg.size < 13 then (1, left, dg ++ strOfNums [b], bd)
     else if b = 13 ∧ (numOk 16 13 hexB dg).2 = true ∧ ¬ (numOk 16 13 hexB dg).1 > 4000 - (bd.size : Int) then (2, (numOk 16 13 hexB dg).1, (⟨#[]⟩ : ByteArray), bd) else badC bd)
  else if st = 2 then (if b = 10 then (if left = 0 then (6, left, dg, bd) else (3, left, dg, bd)) else badC bd)
  else if st = 3 then (if left - 1 = 0 then (4, left - 1, dg, bd ++ strOfNums [b]) else (3, left - 1, dg, bd ++ strOfNums [b]))
  else if st = 4 then (if b = 13 then (5, left, dg, bd) else badC bd)
  else if st = 5 then (if b = 10 then (1, left, dg, bd) else badC bd)
  else if st = 6 then (if b = 13 then (7, left, dg, bd) else badC bd)
  else (if b = 10 then (8, left, dg, bd) else badC bd)
/-- What each chunker keeps that eats. -/
structure Vc (c : Chk) : Prop where
  s0 : 1 ≤ c.1
  s1 : c.1 ≤ 9
  l0 : 0 ≤ c.2.1
  l1 : c.2.1 + (c.2.2.2.size : Int) ≤ 4000
  d1 : c.2.2.1.size ≤ 13
  l3 : c.1 = 3 → 0 < c.2.1
theorem sizeE_one (b : Int) : (strOfNums [b]).size = 1 := rfl
theorem sizeE_app (a b : ByteArray) : (a ++ b).size = a.size + b.size := ByteArray.size_append
theorem numOk_nonneg (s : ByteArray) : 0 ≤ (numOk 16 13 hexB s).1 := by
  unfold numOk
  by_cases h : 1 ≤ s.size ∧ s.size ≤ 13 ∧ (bytesOf s).all hexB = true
  · rw [if_pos h]
    have := (numB_bound 16 (bytesOf s) (by decide) (by rw [← all_okB16]; exact h.2.2) (bytesOf s).length).1
    rw [List.take_length] at this
    exact this
  · rw [if_neg h]
    exact Int.le_refl _
theorem Vc.eat {st left : Int} {dg bd : ByteArray} (v : Vc (st, left, dg, bd)) (b : Int) : Vc (eatC st left dg bd b) := by
  have h0 : 1 ≤ st := v.s0
  have h1 : st ≤ 9 := v.s1
  have h2 : 0 ≤ left := v.l0
  have h3 : left + (bd.size : Int) ≤ 4000 := v.l1
  have h4 : dg.size ≤ 13 := v.d1
  have h5 : st = 3 → 0 < left := v.l3
  have hbad : Vc (badC bd) := ⟨by show (1 : Int) ≤ 9; decide, by show (9 : Int) ≤ 9; decide, by show (0 : Int) ≤ 0; decide, by show (0 : Int) + (bd.size : Int) ≤ 4000; omega, Nat.zero_le _, fun h => absurd h (by show ¬ (9 : Int) = 3; decide)⟩
  have mk : ∀ x : Int, 1 ≤ x → x ≤ 9 → (x = 3 → 0 < left) → Vc (x, left, dg, bd) := fun x a c e => ⟨a, c, h2, h3, h4, e⟩
  unfold eatC
  split
  · exact v
  · split
    · split
      · rename_i hx
        refine ⟨by show (1 : Int) ≤ 1; decide, by show (1 : Int) ≤ 9; decide, h2, h3, ?_, fun h => absurd h (by show ¬ (1 : Int) = 3; decide)⟩
        show (dg ++ strOfNums [b]).size ≤ 13
        rw [sizeE_app, sizeE_one]
        omega
      · split
        · rename_i hx
          have hn := numOk_nonneg dg
          refine ⟨by show (1 : Int) ≤ 2; decide, by show (2 : Int) ≤ 9; decide, hn, ?_, Nat.zero_le _, fun h => absurd h (by show ¬ (2 : Int) = 3; decide)⟩
          show (numOk 16 13 hexB dg).1 + (bd.size : Int) ≤ 4000
          omega
        · exact hbad
    · split
      · split
        · split
          · exact mk 6 (by decide) (by decide) (fun h => absurd h (by decide))
          · exact mk 3 (by decide) (by decide) (fun _ => by omega)
        · exact hbad
      · split
        · rename_i hst
          have := h5 hst
          split
          · refine ⟨by show (1 : Int) ≤ 4; decide, by show (4 : Int) ≤ 9; decide, by show 0 ≤ left - 1; omega, ?_, h4, fun h => absurd h (by show ¬ (4 : Int) = 3; decide)⟩
            show left - 1 + ((bd ++ strOfNums [b]).size : Int) ≤ 4000
            rw [sizeE_app, sizeE_one]; omega
          · refine ⟨by show (1 : Int) ≤ 3; decide, by show (3 : Int) ≤ 9; decide, by show 0 ≤ left - 1; omega, ?_, h4, fun _ => by show 0 < left - 1; omega⟩
            show left - 1 + ((bd ++ strOfNums [b]).size : Int) ≤ 4000
            rw [sizeE_app, sizeE_one]; omega
        · split
          · split
            · exact mk 5 (by decide) (by decide) (fun h => absurd h (by decide))
            · exact hbad
          · split
            · split
              · exact mk 1 (by decide) (by decide) (fun h => absurd h (by decide))
              · exact hbad
            · split
              · split
                · exact mk 7 (by decide) (by decide) (fun h => absurd h (by decide))
                · exact hbad
              · split
                · exact mk 8 (by decide) (by decide) (fun h => absurd h (by decide))
                · exact hbad
theorem spec_l5Eat_ev (st left : Int) (dg bd : ByteArray) (b : Int) (v : Vc (st, left, dg, bd)) (b0 : 0 ≤ b) (b1 : b ≤ 255) : Ev (fun k => spec_l5Eat.f k st left dg bd b) (eatC st left dg bd b) := by
  have h0 : 1 ≤ st := v.s0
  have h1 : st ≤ 9 := v.s1
  have h2 : 0 ≤ left := v.l0
  have h3 : left + (bd.size : Int) ≤ 4000 := v.l1
  have h4 : dg.size ≤ 13 := v.d1
  obtain ⟨K, hK⟩ := spec_HexDigits_ev dg
  refine ⟨K + 10, fun k hk => ?_⟩
  obtain ⟨k, rfl⟩ : ∃ m, k = m + 3 := ⟨k - 3, by omega⟩
  have hH : ∀ j, K ≤ j → spec_HexDigits.f j dg = some (numOk 16 13 hexB dg) := hK
  have hcase : st = 1 ∨ st = 2 ∨ st = 3 ∨ st = 4 ∨ st = 5 ∨ st = 6 ∨ st = 7 ∨ st = 8 ∨ st = 9 := by omega
  rcases hcase with rfl | rfl | rfl | rfl | rfl | rfl | rfl | rfl | rfl
  · simp only [spec_l5Eat.f, eatC]
    rw [if_neg (by decide), if_neg (by decide), if_pos trivial]
    simp only [spec_l5Eat.j0]
    rw [if_neg (by decide)]
    first | rw [if_pos rfl] | rw [if_pos trivial]
    rw [spec_l1Hex_is b b0 b1 _ (by omega)]
    simp only [Option.bind_some]
    have hn := hexV_neg b
    have tail : ∀ d : Bool, d = false → spec_l5Eat.j1 (k + 1 + 1) b d 1 left dg bd 9 0 (⟨#[]⟩ : ByteArray) bd = some (if b = 13 ∧ (numOk 16 13 hexB dg).2 = true ∧ ¬ (numOk 16 13 hexB dg).1 > 4000 - (bd.size : Int) then (2, (numOk 16 13 hexB dg).1, (⟨#[]⟩ : ByteArray), bd) else badC bd) := by
      intro d hd
      subst hd
      simp only [spec_l5Eat.j1]
      rw [if_neg (by decide), hH _ (by omega)]
      simp only [Option.bind_some, spec_l5Eat.j2]
      rw [wrap_in (i := 4000 - (bd.size : Int)) (by omega) (by omega)]
      by_cases e1 : b = 13
      · by_cases e2 : (numOk 16 13 hexB dg).2 = true
        · by_cases e3 : (numOk 16 13 hexB dg).1 > 4000 - (bd.size : Int)
          · rw [if_pos e1, if_pos e2, if_pos (decide_eq_true e3), if_neg (by intro h; exact h.2.2 e3)]; rfl
          · rw [if_pos e1, if_pos e2, if_neg (by simpa using e3), if_pos ⟨e1, e2, e3⟩]
        · rw [if_pos e1, if_neg e2, if_pos trivial, if_neg (by intro h; exact e2 h.2.1)]; rfl
      · rw [if_neg e1, if_pos trivial, if_neg (by intro h; exact e1 h.1)]; rfl
    by_cases hx : hexB b = true
    · rw [hx] at hn
      rw [if_pos (by have : ¬ hexV b < 0 := by simpa using hn
                     omega)]
      by_cases hd : dg.size < 13
      · rw [if_pos ⟨hx, hd⟩]
        simp only [spec_l5Eat.j1]
        rw [if_pos (decide_eq_true (by omega : (dg.size : Int) < 13))]
        simp only [Option.bind_some]
        rw [if_pos (by rw [sizeE_one]; omega)]
      · rw [if_neg (by intro h; exact hd h.2)]
        exact tail _ (decide_eq_false (by omega : ¬ (dg.size : Int) < 13))
    · rw [Bool.not_eq_true] at hx
      rw [hx] at hn
      rw [if_neg (by have : hexV b < 0 := by simpa using hn
                     omega), if_neg (by rw [hx]; simp)]
      exact tail _ rfl
  · simp only [spec_l5Eat.f, eatC, spec_l5Eat.j0, badC]
    by_cases e : b = 10 <;> by_cases e2 : left = 0 <;> simp [e, e2]
  · simp only [spec_l5Eat.f, eatC, spec_l5Eat.j0, badC, Option.bind_some]
    rw [wrap_in (i := left - 1) (by omega) (by omega), if_pos (show bd.size + (strOfNums [b]).size ≤ 9223372036854775807 by rw [sizeE_one]; omega)]
    by_cases e : left - 1 = 0 <;> simp [e]
  · simp only [spec_l5Eat.f, eatC, spec_l5Eat.j0, badC]
    by_cases e : b = 13 <;> simp [e]
  · simp only [spec_l5Eat.f, eatC, spec_l5Eat.j0, badC]
    by_cases e : b = 10 <;> simp [e]
  · simp only [spec_l5Eat.f, eatC, spec_l5Eat.j0, badC]
    by_cases e : b = 13 <;> simp [e]
  · simp only [spec_l5Eat.f, eatC, spec_l5Eat.j0, badC]
    by_cases e : b = 10 <;> simp [e]
  · simp [spec_l5Eat.f, eatC, spec_l5Eat.j0]
  · simp [spec_l5Eat.f, eatC, spec_l5Eat.j0]
theorem impl_eat_ev (st left : Int) (dg bd : ByteArray) (b : Int) (v : Vc (st, left, dg, bd)) (b0 : 0 ≤ b) (b1 : b ≤ 255) : Ev (fun k => impl_Chunker_eat.f k st left dg bd b) (eatC st left dg bd b) := by
  have h0 : 1 ≤ st := v.s0
  have h1 : st ≤ 9 := v.s1
  have h2 : 0 ≤ left := v.l0
  have h3 : left + (bd.size : Int) ≤ 4000 := v.l1
  have h4 : dg.size ≤ 13 := v.d1
  refine ⟨10, fun k hk => ?_⟩
  obtain ⟨k, rfl⟩ : ∃ m, k = m + 3 := ⟨k - 3, by omega⟩
  have hcase : st = 1 ∨ st = 2 ∨ st = 3 ∨ st = 4 ∨ st = 5 ∨ st = 6 ∨ st = 7 ∨ st = 8 ∨ st = 9 := by omega
  rcases hcase with rfl | rfl | rfl | rfl | rfl | rfl | rfl | rfl | rfl
  · simp only [impl_Chunker_eat.f, eatC]
    rw [if_neg (by decide), if_neg (by decide), if_pos trivial]
    simp only [impl_Chunker_eat.j0]
    rw [if_neg (by decide)]
    first | rw [if_pos rfl] | rw [if_pos trivial]
    have tail : ∀ d : Bool, d = false → impl_Chunker_size.j0 (k + 1 + 1) b d 1 left dg bd = some (if b = 13 ∧ (numOk 16 13 hexB dg).2 = true ∧ ¬ (numOk 16 13 hexB dg).1 > 4000 - (bd.size : Int) then (2, (numOk 16 13 hexB dg).1, (⟨#[]⟩ : ByteArray), bd) else badC bd) := by
      intro d hd
      subst hd
      simp only [impl_Chunker_size.j0]
      rw [if_neg (by decide), impl_HexDigits_is]
      simp only [Option.bind_some, impl_Chunker_bad.f]
      rw [wrap_in (i := 4000 - (bd.size : Int)) (by omega) (by omega)]
      by_cases e1 : b = 13
      · by_cases e2 : (numOk 16 13 hexB dg).2 = true
        · by_cases e3 : (numOk 16 13 hexB dg).1 > 4000 - (bd.size : Int)
          · rw [if_pos e1, if_pos e2, if_pos e3, if_neg (by intro h; exact h.2.2 e3)]; rfl
          · rw [if_pos e1, if_pos e2, if_neg e3, if_pos ⟨e1, e2, e3⟩]
        · rw [if_pos e1, if_neg e2, if_neg (by intro h; exact e2 h.2.1)]; rfl
      · rw [if_neg e1, if_neg (by intro h; exact e1 h.1)]; rfl
    unfold impl_Chunker_size.f
    rw [impl_isHex_is]
    simp only [Option.bind_some]
    by_cases hx : hexB b = true
    · rw [if_pos hx]
      by_cases hd : dg.size < 13
      · rw [if_pos ⟨hx, hd⟩]
        simp only [impl_Chunker_size.j0]
        rw [if_pos (decide_eq_true (by omega : (dg.size : Int) < 13))]
        simp only [Option.bind_some]
        rw [if_pos (by rw [sizeE_one]; omega)]
        rfl
      · rw [if_neg (show ¬ (hexB b = true ∧ dg.size < 13) by intro h; exact hd h.2), tail _ (decide_eq_false (by omega : ¬ (dg.size : Int) < 13))]
        rfl
    · rw [if_neg hx, if_neg (show ¬ (hexB b = true ∧ dg.size < 13) by intro h; exact hx h.1), tail _ rfl]
      rfl
  · simp only [impl_Chunker_eat.f, eatC, impl_Chunker_eat.j0, badC, impl_Chunker_bad.f]
    by_cases e : b = 10 <;> by_cases e2 : left = 0 <;> simp [e, e2]
  · simp only [impl_Chunker_eat.f, eatC, impl_Chunker_eat.j0, badC, impl_Chunker_bad.f, Option.bind_some]
    rw [wrap_in (i := left - 1) (by omega) (by omega), if_pos (show bd.size + (strOfNums [b]).size ≤ 9223372036854775807 by rw [sizeE_one]; omega)]
    by_cases e : left - 1 = 0 <;> simp [e]
  · simp only [impl_Chunker_eat.f, eatC, impl_Chunker_eat.j0, badC, impl_Chunker_bad.f]
    by_cases e : b = 13 <;> simp [e]
  · simp only [impl_Chunker_eat.f, eatC, impl_Chunker_eat.j0, badC, impl_Chunker_bad.f]
    by_cases e : b = 10 <;> simp [e]
  · simp only [impl_Chunker_eat.f, eatC, impl_Chunker_eat.j0, badC, impl_Chunker_bad.f]
    by_cases e : b = 13 <;> simp [e]
  · simp only [impl_Chunker_eat.f, eatC, impl_Chunker_eat.j0, badC, impl_Chunker_bad.f]
    by_cases e : b = 10 <;> simp [e]
  · simp [impl_Chunker_eat.f, eatC, impl_Chunker_eat.j0]
  · simp [impl_Chunker_eat.f, eatC, impl_Chunker_eat.j0]
theorem Vc.of_ok {st left : Int} {dg bd : ByteArray} (h : chunkerOk st left dg bd = true) : Vc (st, left, dg, bd) := by
  unfold chunkerOk at h
  simp only [Bool.and_eq_true, decide_eq_true_eq] at h
  obtain ⟨a, b, c, d, e, f⟩ := h
  obtain ⟨a0, a1⟩ := inB_true a
  obtain ⟨b0, b1⟩ := inB_true b
  refine ⟨a0, a1, b0, by show left + (bd.size : Int) ≤ 4000; omega, c, fun h3 => ?_⟩
  have h3 : st = 3 := h3
  subst h3
  show 0 < left
  unfold chunkState at f
  rw [if_neg (by decide), if_neg (by decide), if_pos rfl, Bool.and_eq_true, decide_eq_true_eq] at f
  exact f.2
/-- A chunker that eats a text: it, and how many bytes it ate. -/
def eatL (c : Chk) (s : ByteArray) : Int × Int × ByteArray × ByteArray × Int :=
  runL (fun (p : Int × Chk) b => if p.2.1 < 8 then .inl (p.1 + 1, eatC p.2.1 p.2.2.1 p.2.2.2.1 p.2.2.2.2 b) else .inr (p.2.1, p.2.2.1, p.2.2.2.1, p.2.2.2.2, p.1)) (fun p => (p.2.1, p.2.2.1, p.2.2.2.1, p.2.2.2.2, p.1)) (bytesOf s) (0, c)
theorem eat_loop (s : ByteArray) (hs : s.size ≤ 4611686018427387904) (c : Chk) (v : Vc c) (g : Nat → Int × Chk → Int → Option (Int × Int × ByteArray × ByteArray × Int))
    (h1 : ∀ (i : Nat) (c : Chk), i < s.size → c.1 < 8 → Vc c → ∀ r, Ev (fun k => g k (((i + 1 : Nat) : Int), eatC c.1 c.2.1 c.2.2.1 c.2.2.2 (bt s i)) ((i + 1 : Nat) : Int)) r → Ev (fun k => g k ((i : Int), c) (i : Int)) r)
    (h0 : ∀ (i : Nat) (c : Chk), i < s.size → ¬ c.1 < 8 → Vc c → Ev (fun k => g k ((i : Int), c) (i : Int)) (c.1, c.2.1, c.2.2.1, c.2.2.2, (i : Int)))
    (he : ∀ (c : Chk), Vc c → Ev (fun k => g k ((s.size : Int), c) (s.size : Int)) (c.1, c.2.1, c.2.2.1, c.2.2.2, (s.size : Int))) : Ev (fun k => g k (0, c) 0) (eatL c s) := by
  refine ev_runE s (fun (p : Int × Chk) i => p.1 = (i : Int) ∧ Vc p.2) _ _ g (fun p i hi hI => ⟨fun p' e => ?_, fun r e => ?_⟩) (fun p hI => ?_) (0, c) ⟨rfl, v⟩
  · obtain ⟨n, c⟩ := p
    obtain ⟨rfl, vc⟩ : n = (i : Int) ∧ Vc c := hI
    by_cases h8 : c.1 < 8
    · rw [if_pos h8] at e
      obtain rfl := Sum.inl.inj e
      refine ⟨⟨by show (i : Int) + 1 = ((i + 1 : Nat) : Int); omega, vc.eat _⟩, fun r hr => h1 i c hi h8 vc r ?_⟩
      rw [show ((i + 1 : Nat) : Int) = (i : Int) + 1 from by omega]
      rw [show ((i + 1 : Nat) : Int) = (i : Int) + 1 from by omega] at hr
      exact hr
    · rw [if_neg h8] at e; cases e
  · obtain ⟨n, c⟩ := p
    obtain ⟨rfl, vc⟩ : n = (i : Int) ∧ Vc c := hI
    by_cases h8 : c.1 < 8
    · rw [if_pos h8] at e; cases e
    · rw [if_neg h8] at e
      obtain rfl := Sum.inr.inj e
      exact h0 i c hi h8 vc
  · obtain ⟨n, c⟩ := p
    obtain ⟨rfl, vc⟩ : n = (s.size : Int) ∧ Vc c := hI
    exact he c vc
theorem spec_eatL_ev (s : ByteArray) (hs : s.size ≤ 4611686018427387904) (st left : Int) (dg bd : ByteArray) (v : Vc (st, left, dg, bd)) : Ev (fun k => spec_EatAll.l0 k s 0 st left dg bd) (eatL (st, left, dg, bd) s) := by
  refine eat_loop s hs (st, left, dg, bd) v (fun k p i => spec_EatAll.l0 k s i p.2.1 p.2.2.1 p.2.2.2.1 p.2.2.2.2) (fun i c hi h8 vc r hr => ?_) (fun i c hi h8 vc => ?_) (fun c vc => ?_)
  · have hb := bt_range s i
    have hl : (i : Int) < (s.size : Int) := by omega
    refine Ev.step (f := fun k => (spec_l5Eat.f k c.1 c.2.1 c.2.2.1 c.2.2.2 (bt s i)).bind fun bt104 => (spec_EatAll.l0 k s (((i + 1 : Nat) : Int)) bt104.1 bt104.2.1 bt104.2.2.1 bt104.2.2.2)) (fun k => ?_) (Ev.bind (f := fun k (bt104 : Chk) => spec_EatAll.l0 k s (((i + 1 : Nat) : Int)) bt104.1 bt104.2.1 bt104.2.2.1 bt104.2.2.2) (spec_l5Eat_ev c.1 c.2.1 c.2.2.1 c.2.2.2 (bt s i) vc hb.1 hb.2) hr)
    simp only [spec_EatAll.l0]
    rw [if_pos hl, if_pos h8, if_pos (by omega), wrap_next hi (by omega)]
  · have hl : (i : Int) < (s.size : Int) := by omega
    refine Ev.step (f := fun _ => some _) (fun k => ?_) (Ev.now _)
    simp only [spec_EatAll.l0]
    rw [if_pos hl, if_neg h8]
  · refine Ev.step (f := fun _ => some _) (fun k => ?_) (Ev.now _)
    simp only [spec_EatAll.l0]
    rw [if_neg (by omega)]
theorem impl_eatL_ev (s : ByteArray) (hs : s.size ≤ 4611686018427387904) (st left : Int) (dg bd : ByteArray) (v : Vc (st, left, dg, bd)) : Ev (fun k => impl_Chunker_eatAll.f k st left dg bd s) (eatL (st, left, dg, bd) s) := by
  refine eat_loop s hs (st, left, dg, bd) v (fun k p i => impl_Chunker_eatAll.l0 k s i p.2.1 p.2.2.1 p.2.2.2.1 p.2.2.2.2) (fun i c hi h8 vc r hr => ?_) (fun i c hi h8 vc => ?_) (fun c vc => ?_)
  · have hb := bt_range s i
    have hl : (i : Int) < (s.size : Int) := by omega
    refine Ev.step (f := fun k => (impl_Chunker_eat.f k c.1 c.2.1 c.2.2.1 c.2.2.2 (bt s i)).bind fun bt104 => (impl_Chunker_eatAll.l0 k s (((i + 1 : Nat) : Int)) bt104.1 bt104.2.1 bt104.2.2.1 bt104.2.2.2)) (fun k => ?_) (Ev.bind (f := fun k (bt104 : Chk) => impl_Chunker_eatAll.l0 k s (((i + 1 : Nat) : Int)) bt104.1 bt104.2.1 bt104.2.2.1 bt104.2.2.2) (impl_eat_ev c.1 c.2.1 c.2.2.1 c.2.2.2 (bt s i) vc hb.1 hb.2) hr)
    simp only [impl_Chunker_eatAll.l0]
    rw [if_pos hl, if_neg (by omega), if_neg (by omega), if_pos (by omega), wrap_next hi (by omega)]
  · have hl : (i : Int) < (s.size : Int) := by omega
    have h9 := vc.s1
    refine Ev.step (f := fun _ => some _) (fun k => ?_) (Ev.now _)
    simp only [impl_Chunker_eatAll.l0]
    rw [if_pos hl]
    by_cases e : c.1 = 8
    · rw [if_pos e]
    · rw [if_neg e, if_pos (by omega)]
  · refine Ev.step (f := fun _ => some _) (fun k => ?_) (Ev.now _)
    simp only [impl_Chunker_eatAll.l0]
    rw [if_neg (by omega)]
end Go.Proofs.YtpilaeoiagdoeaaDoor.Q
/-! ## PureFnExactEatAll -/
/-
  FnExactEatAll answers true at every chunker and text: both functions come to the same. No condition.
-/
namespace Go.Proofs.YtpilaeoiagdoeaaDoor.Pure
set_option linter.unusedVariables false
set_option linter.unusedSimpArgs false
open Go.RowKit Go.Proofs.YtpilaeoiagdoeaaDoor.P Go.Proofs.YtpilaeoiagdoeaaDoor.Q Go.Proofs.YtpilaeoiagdoeaaDoorW.PrintWords
theorem eqChunker_selfA (st left : Int) (dg bd : ByteArray) : laws_eqChunker.f st left dg bd st left dg bd = some true := by
  unfold laws_eqChunker.f
  simp
theorem FnExactEatAll : laws_FnExactEatAll.Pure := by
  intro st left dg bd s h1 h2 h3 h4 h5
  unfold laws_FnExactEatAll.f laws_toChunker.f spec_EatAll.f impl_EatAll.f
  simp only [Option.bind_some]
  unfold laws_szChunker.f
  by_cases z0 : (s.size : Int) > 1048576
  · exact ⟨0, by rw [if_pos z0]⟩
  simp only [if_neg z0]
  rw [wrap_in (by omega) (by omega)]
  by_cases z1 : (1048576 : Int) - (dg.size : Int) < 0
  · exact ⟨0, by simp [z1]⟩
  rw [if_neg z1, wrap_in (by omega) (by omega)]
  by_cases z2 : (1048576 : Int) - (dg.size : Int) - (bd.size : Int) < 0
  · exact ⟨0, by simp [z2]⟩
  · rw [if_neg z2]
    simp only [Option.bind_some, if_neg z2]
    obtain ⟨K1, e1⟩ := spec_ChunkerOk_ev st left dg bd (by omega)
    obtain ⟨K2, e2⟩ := impl_ChunkerOk_ev st left dg bd (by omega)
    cases hc : chunkerOk st left dg bd
    · refine ⟨K1 + K2, ?_⟩
      have a1 : spec_ChunkerOk.f (K1 + K2) st left dg bd = some false := by rw [← hc]; exact e1 _ (by omega)
      have a2 : impl_ChunkerOk.f (K1 + K2) st left dg bd = some false := by rw [← hc]; exact e2 _ (by omega)
      rw [a1, a2]
      simp [eqChunker_selfA]
    · have v := Vc.of_ok hc
      obtain ⟨K3, e3⟩ := spec_eatL_ev s (by omega) st left dg bd v
      obtain ⟨K4, e4⟩ := impl_eatL_ev s (by omega) st left dg bd v
      refine ⟨K1 + K2 + K3 + K4, ?_⟩
      have a1 : spec_ChunkerOk.f (K1 + K2 + K3 + K4) st left dg bd = some true := by rw [← hc]; exact e1 _ (by omega)
      have a2 : impl_ChunkerOk.f (K1 + K2 + K3 + K4) st left dg bd = some true := by rw [← hc]; exact e2 _ (by omega)
      have a3 : spec_EatAll.l0 (K1 + K2 + K3 + K4) s 0 st left dg bd = some (eatL (st, left, dg, bd) s) := e3 _ (by omega)
      have a4 : impl_Chunker_eatAll.f (K1 + K2 + K3 + K4) st left dg bd s = some (eatL (st, left, dg, bd) s) := e4 _ (by omega)
      rw [a1, a2]
      simp [a3, a4, eqChunker_selfA]
end Go.Proofs.YtpilaeoiagdoeaaDoor.Pure
/-! ## RowAid -/
/-
  A struct of one-cell fields that came in by value, opened field by field. No condition.
-/
namespace Go.Proofs.YtpilaeoiagdoeaaDoor.RowAid
open Go.ChangeShapes Go.WideShapes Go.Deep
variable {H : Type} {enc : TypeId × Value → H} {P : Program} {w : World} {base : Nat} {spare : Nat → Bool} {held : Bool}
theorem open_one {r : Reach} {b0 : Nat} {t : TypeId} {fs : Array Field} {v : Value} {d : DataW H} {p : List MemPlace} (hs : P.underlying t = some (.struct fs)) (hone : oneCellFields P fs = true) (hC : P.cellsOf t = fs.size)
    (hv : Value.okWide P w r b0 t v) (h : DataW.Trod enc P w base spare held t v d p) :
    ∃ cs : List Value, v = .agg cs.toArray ∧ cs.length = fs.size ∧ ∃ n, ∀ (i : Nat) (f : Field) (c : Value), fs[i]? = some f → cs[i]? = some c → ∃ y, DataW.trod enc P w base spare held n f.type [c] = some y := by
  obtain ⟨⟨cs⟩, rfl, hsz⟩ := okWide_struct hs hv
  obtain ⟨fuel, hf⟩ := h
  obtain ⟨xs, n, _, _, hl, hx, hg⟩ := DataW.trod_struct hs hf
  have hcl : cs.length = fs.size := by
    have : (⟨cs⟩ : Array Value).size = cs.length := rfl
    omega
  refine ⟨cs, rfl, hcl, n, fun i f c hi hc => ?_⟩
  have hlt : i < fs.size := (Array.getElem?_eq_some_iff.1 hi).1
  obtain ⟨ho, hk⟩ := hone_of hone i f hi
  have h1 := hg i f hi
  have hcc : (Value.agg ⟨cs⟩).cells.toList = cs := rfl
  rw [hcc, ho, hk] at h1
  have hd : (cs.drop i).take 1 = [c] := by
    have hi' : i < cs.length := by omega
    rw [List.drop_eq_getElem_cons hi', List.take_succ_cons, List.take_zero]
    rw [List.getElem?_eq_getElem hi'] at hc
    rw [Option.some.inj hc]
  rw [hd] at h1
  have hxl : xs[i]? = some (xs[i]'(by omega)) := List.getElem?_eq_getElem (by omega)
  exact ⟨_, h1.trans hxl⟩
end Go.Proofs.YtpilaeoiagdoeaaDoor.RowAid
/-! ## LawFnExactEatAll -/
/- The statement of FnExactEatAll, for every input: the row, out of the pure statement and the printed walk. No condition. -/
namespace Go.Proofs.YtpilaeoiagdoeaaDoor.fnExactEatAll
open Go.ChangeShapes Go.WideShapes Go.ChangeAt Go.RowKit
open Go.ChangeMaps (open_string shut_string)
set_option linter.unusedVariables false
theorem own : ownKnob Tryd.prog.godebug = none := by kernel_rfl
theorem laidOut : laidOutB Tryd.prog = true := by kernel_rfl
set_option maxRecDepth 100000 in
theorem open_p0 {H : Type} {enc : TypeId × Value → H} {w : World} {base b0 : Nat} {spare : Nat → Bool} {held : Bool} {r : Reach} {v : Value} {d : DataW H} {p : List MemPlace} (hv : Value.okWide Tryd.prog w r b0 42 v) (h : DataW.Trod enc Tryd.prog w base spare held 42 v d p) :
    ∃ (a0_0 : Int) (a0_1 : Int) (a0_2 : ByteArray) (a0_3 : ByteArray), v = .agg #[.int .i64 a0_0, .int .i64 a0_1, .string a0_2, .string a0_3] ∧ ((Lit.int .i64 a0_0).wf = true) ∧ ((Lit.int .i64 a0_1).wf = true) ∧ (a0_2.size ≤ 9223372036854775807) ∧ (a0_3.size ≤ 9223372036854775807) := by
  obtain ⟨cs, rfl, hl, n, hf⟩ := RowAid.open_one Tryd.underlying42 (by kernel_rfl) (by kernel_rfl) hv h
  have hl' : cs.length = 4 := hl
  clear hl
  match cs, hl' with
  | [c0, c1, c2, c3], _ =>
    obtain ⟨_, h0⟩ := hf 0 _ c0 rfl rfl
    obtain ⟨x0, e0, _, w0⟩ := DataW.trod_int Tryd.underlying2 h0
    obtain rfl := (List.cons.inj e0).1
    obtain ⟨_, h1⟩ := hf 1 _ c1 rfl rfl
    obtain ⟨x1, e1, _, w1⟩ := DataW.trod_int Tryd.underlying2 h1
    obtain rfl := (List.cons.inj e1).1
    obtain ⟨_, h2⟩ := hf 2 _ c2 rfl rfl
    obtain ⟨x2, e2, _, w2⟩ := DataW.trod_string Tryd.underlying9 h2
    obtain rfl := (List.cons.inj e2).1
    obtain ⟨_, h3⟩ := hf 3 _ c3 rfl rfl
    obtain ⟨x3, e3, _, w3⟩ := DataW.trod_string Tryd.underlying9 h3
    obtain rfl := (List.cons.inj e3).1
    exact ⟨x0, x1, x2, x3, rfl, w0, w1, w2, w3⟩
set_option maxRecDepth 100000 in
theorem lifted (os : Os) (started : os.Started) (H : Type) (enc : TypeId × Value → H) :
    ReturnsInHanded {} Tryd.checked os 10 .any (fun w args => (Rows.fnExactEatAllSpec.pre enc Tryd.prog Tryd.f10 [] false w args ∧ laidMetH Tryd.prog Rows.fnExactEatAllRow.laid w) ∧ sizedMet enc Tryd.prog Tryd.f10 (OpenSpec.ofChange Rows.fnExactEatAllSpec) false w args) (Rows.fnExactEatAllSpec.post enc Tryd.prog Tryd.f10 false true false false) := by
  refine RowAid.handed_both (C := Tryd.checked) (X := fun w _ => laidMetH Tryd.prog Rows.fnExactEatAllRow.laid w) (fun _ _ _ hh h => h.of_heap hh) own started (by kernel_rfl) Tryd.func10
    (ChangeSpec.witness_shaped (enc := enc) (C := Tryd.checked) (os := os) (X := fun w _ => laidMetH Tryd.prog Rows.fnExactEatAllRow.laid w) false (World.laidAll Tryd.prog os Rows.fnExactEatAllRow.laid) #[.agg #[.int .i64 0, .int .i64 0, .string ByteArray.empty, .string ByteArray.empty], .string ByteArray.empty] 8 (World.laidAll_os _ _ _)
      (World.shaped_of_ZipB (by kernel_rfl) (by kernel_rfl)) (by kernel_rfl) (by kernel_rfl) (by kernel_rfl)
      (by rw [MakeChecks.laidMetH_plain _ _ _ (by kernel_rfl)]; exact laidMet_laidAll _ (by kernel_rfl) (by kernel_rfl))) ?_
  intro W base args ds gs before hval0 hW hcnd hsz0 hL hSh _
  have hsz : (DataW.weightsEach Tryd.prog (Tryd.f10.params.toList ++ Rows.fnExactEatAllSpec.plain.varTypes Tryd.prog) (ds ++ gs)).all (· ≤ reachBytes) = true := hsz0
  have hval : ∀ (j : Nat) t v, Tryd.f10.params[j]? = some t → args[j]? = some v → Value.okWide Tryd.prog W .any base t v := hval0
  have hW' := hW
  obtain ⟨p, q, hA0, hV, rfl, hfz, hnd⟩ := hW
  have hA : DataW.TrodAll enc Tryd.prog W 0 (fun _ => true) true Tryd.f10.params.toList args.toList ds p := hA0
  rw [Tryd.params10] at hA hval hsz
  obtain ⟨v0, vs0, d0, ds0, p0, q0, hargs, rfl, rfl, h0, r0⟩ := trodAll_cons hA
  obtain ⟨v1, vs1, d1, ds1, p1, q1, rfl, rfl, rfl, h1, r1⟩ := trodAll_cons r0
  obtain ⟨rfl, rfl, rfl⟩ := trodAll_nil r1
  obtain rfl : args = #[v0, v1] := by cases args; simp_all
  obtain ⟨rfl, rfl⟩ := trodVars_none hV
  have k0 := h0
  have lt0 : ∀ x ∈ p0, x.block < W.heap.size := by obtain ⟨m, hm⟩ := k0; exact DataW.trod_lt m _ _ _ hm
  obtain ⟨a0_0, a0_1, a0_2, a0_3, rfl, w0_0, w0_1, w0_2, w0_3⟩ := open_p0 (hval 0 42 v0 rfl rfl) h0
  obtain ⟨a1, rfl, rfl, rfl, y1⟩ := open_string Tryd.underlying9 (hval 1 9 v1 rfl rfl) h1
  have w1 : a1.size ≤ 140737488351232 := by
    have z := sized_string hsz (j := 1) (t := 9) rfl rfl
    rw [Array.length_toList] at z
    exact z
  clear hA0 hval0 hsz0 hsz
  refine (P.laws_FnExactEatAll.walk Pure.FnExactEatAll a0_0 a0_1 a0_2 a0_3 a1 W w0_0 w0_1 w0_2 w0_3 w1).mono fun e W' ⟨he, bel⟩ => ?_
  subst he
  exact ⟨_, rfl, _, _, _, [], _, [], hW', trodAll_mk1 (shut_bool Tryd.underlying4 _), (trodAll_cons_mk (Below.trod laidOut (by kernel_rfl) (of_decide_eq_true (by kernel_rfl)) k0 bel lt0) (trodAll_cons_mk (shut_string Tryd.underlying9 y1) trodAll_mk0)), rfl, bel.frame _, fun h => by cases h⟩
theorem over : Rows.fnExactEatAllRow.holds Tryd.pinned (OpenSpec.ofChange Rows.fnExactEatAllSpec) :=
  OpenClaim.holds_of_wide 10 Tryd.f10 rfl rfl rfl rfl rfl rfl rfl ⟨rfl, rfl, rfl, rfl, rfl⟩ rfl rfl rfl rfl rfl (by kernel_rfl) Tryd.func10 (by kernel_rfl)
    (of_decide_eq_true (by kernel_rfl)) (by unfold Func.isWrapper; first | (rw [if_pos (by decide +kernel)]; kernel_rfl) | (rw [if_neg (by decide +kernel)]; exact ⟨rfl, rfl⟩))
    (fun os started H enc _ => lifted os started H enc)
theorem proved : Rows.FnExactEatAllSaid := over
#print axioms proved
end Go.Proofs.YtpilaeoiagdoeaaDoor.fnExactEatAll
namespace Go.Proofs.YtpilaeoiagdoeaaDoor
/-- The tied card, under a short name, for the claim. -/
theorem fnExactEatAll_card : Rows.FnExactEatAllCardSaid :=
  Claim7.holds_tied_plain_at .later [] [.data, .data, .data, .sentinel, .sentinel] true (true, "287fd3763fb036b34b0038566f3bf98d4b21d9ed6af4807099248ba743891527") true
    fnExactEatAll.proved (fun _ h => by cases h) (by kernel_rfl) (fun _ h => by cases h) fnExactEatAll_row_tie rfl ⟨rfl, rfl⟩ (by kernel_rfl) rfl
    (fun f fn hf hfn => by
      obtain rfl : f = 10 := Option.some.inj ((show Tryd.prog.funcNamed "loop.example/g00207/laws.FnExactEatAll" = some 10 by kernel_rfl).symm.trans hf) |>.symm
      obtain rfl : fn = Tryd.f10 := (Option.some.inj (Tryd.func10.symm.trans hfn)).symm
      exact ⟨by kernel_rfl, fun j t ht => by
        rw [Tryd.params10] at ht
        have hm : t ∈ [42, 9] := by simpa using Array.mem_of_getElem? ht
        have hall : ([42, 9].all fun u => !Tryd.prog.wantsStandIn u) = true := by kernel_rfl
        exact (show Tryd.prog.wantsStandIn t = false by simpa using List.all_eq_true.1 hall t hm)⟩)
    (by kernel_rfl)
#print axioms fnExactEatAll_card
end Go.Proofs.YtpilaeoiagdoeaaDoor
