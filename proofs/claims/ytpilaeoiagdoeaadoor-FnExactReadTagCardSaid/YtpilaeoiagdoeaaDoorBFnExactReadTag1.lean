/- Functions of the Go program as Lean functions, and proofs about them, merged out of this session's texts by its program bundle.py; conditions: those that each theorem states. -/
import Derived.Below
import Derived.ChangeOld
import Derived.Handed
import Derived.HandedShaped
import Derived.LaidMore
import Derived.Lay
import Derived.Lib.Bytealg
import Derived.Lib.SlTrimSet
import Derived.Lib.Strings
import Derived.OpenShut
import Derived.ProofKit
import Derived.SevenTiedAt
import Derived.ShutString
import Derived.SizedLaws
import Derived.Stop.Joined
import Derived.Test.YtpilaeoiagdoeaaDoorCards
import Derived.Test.YtpilaeoiagdoeaaDoorGTrim
import Derived.Test.YtpilaeoiagdoeaaDoorGall
import Derived.Test.YtpilaeoiagdoeaaDoorP0
import Derived.Test.YtpilaeoiagdoeaaDoorPimplReadTag
import Derived.Test.YtpilaeoiagdoeaaDoorPimplShowTag
import Derived.Test.YtpilaeoiagdoeaaDoorPimplTagOk
import Derived.Test.YtpilaeoiagdoeaaDoorPimplTagOk1
import Derived.Test.YtpilaeoiagdoeaaDoorPimplisDigit
import Derived.Test.YtpilaeoiagdoeaaDoorPimplisHex
import Derived.Test.YtpilaeoiagdoeaaDoorPimplisVisible
import Derived.Test.YtpilaeoiagdoeaaDoorPlawsFnExactReadTag
import Derived.Test.YtpilaeoiagdoeaaDoorPlawseqTag
import Derived.Test.YtpilaeoiagdoeaaDoorPspecReadTag
import Derived.Test.YtpilaeoiagdoeaaDoorPspecShowTag
import Derived.Test.YtpilaeoiagdoeaaDoorPspecTagOk
import Derived.Test.YtpilaeoiagdoeaaDoorPspecl1Hex
import Derived.Test.YtpilaeoiagdoeaaDoorPspecl7Show
import Derived.Test.YtpilaeoiagdoeaaDoorPstringsCutPrefix
import Derived.Test.YtpilaeoiagdoeaaDoorPstringsliteCutPrefix
import Derived.Test.YtpilaeoiagdoeaaDoorPstringsliteHasPrefix
import Derived.Test.YtpilaeoiagdoeaaDoorRows
import Derived.Test.YtpilaeoiagdoeaaDoorTie
import Derived.WalkKit
/-! ## RowAidD -/
/-
  The wrap of a row that lists variables, the world's shape kept beside what it lists. No condition.
-/
namespace Go.Proofs.YtpilaeoiagdoeaaDoor.RowAid
open Go
variable {H : Type} {enc : TypeId × Value → H}
theorem handed_both {a : Assume} {C : Checked} {os : Os} {f : FuncId} {fn : Func} {s : ChangeSpec} {conds : List PathCond} {apart fresh handsOn again : Bool} {X : World → Array Value → Prop}
    (hX : ∀ (w w' : World) (args : Array Value), w.heap = w'.heap → X w args → X w' args)
    (own : ownKnob C.prog.godebug = none) (started : os.Started) (noInit : C.prog.inits.idxOf? f = none) (hfn : C.prog.funcs[f]? = some fn)
    (witness : ∃ (w : World) (tape : Tape) (i : Input), w.os = os ∧ (w.forCall tape i).Shaped C.prog ∧ i.vars = [] ∧ Input.okWide C.prog (w.forCall tape i) .any w.heap.size f i ∧
      ((s.pre enc C.prog fn conds apart (w.forCall tape i).memory i.args ∧ X (w.forCall tape i).memory i.args) ∧ sizedMet enc C.prog fn (OpenSpec.ofChange s) apart (w.forCall tape i).memory i.args) ∧ a.holds C.prog (lone (Frame.enter C.prog f i.args .normal) [] (w.forCall tape i)))
    (contract : ∀ (W : World) (base : Nat) (args : Array Value) (ds gs : List (DataW H)) (before : List MemPlace),
      (∀ (j : Nat) t v, fn.params[j]? = some t → args[j]? = some v → Value.okWide C.prog W .any base t v) →
      DataW.Whole enc C.prog fn.params.toList s.vars apart W args.toList ds gs before →
      conds.all (PathCond.test C.prog ⟨fn.params.toList, ds, s.plain.varTypes C.prog, gs⟩) = true →
      (DataW.weightsEach C.prog (fn.params.toList ++ s.plain.varTypes C.prog) (ds ++ gs)).all (· ≤ reachBytes) = true → X W args → W.ShapedOpen C.prog →
      a.holds C.prog (lone (Frame.enter C.prog f args .normal) [] W) →
      Calls C.prog f args W fun e W' => ∃ v, e = .returned v ∧ s.post enc C.prog fn apart fresh handsOn again W args v W') :
    ReturnsInHanded a C os f .any (fun w args => (s.pre enc C.prog fn conds apart w args ∧ X w args) ∧ sizedMet enc C.prog fn (OpenSpec.ofChange s) apart w args) (s.post enc C.prog fn apart fresh handsOn again) := by
  refine returnsInHanded_of_calls own started noInit witness ?_
  intro w tape i _ hsh _ hok hpre hholds
  obtain ⟨_, _, _, fn', hfn', _, _, _, _, hval⟩ := hok
  have e : fn' = fn := Option.some.inj (hfn'.symm.trans hfn)
  subst e
  obtain ⟨⟨⟨ds, gs, before, hw, hc⟩, hx⟩, hz⟩ := hpre
  have hw' := DataW.Whole.of_heap (w' := w.forCall tape i) (by rfl) hw
  refine (contract (w.forCall tape i) w.heap.size i.args ds gs before hval hw' hc (hz.weights hw) (hX _ _ _ (by rfl) hx) hsh hholds).mono fun e W' ⟨v, he, hp⟩ => ?_
  subst he
  exact ChangeSpec.post_blind hp
end Go.Proofs.YtpilaeoiagdoeaaDoor.RowAid
/-! ## Q0 -/
/-
  Small laws on the printed functions' words: loops over a text's bytes, from some number of rounds on. No condition beyond those that each law states.
-/
namespace Go.Proofs.YtpilaeoiagdoeaaDoor.Q
open Go.RowKit Go.Proofs.YtpilaeoiagdoeaaDoorW.PrintWords Go.Proofs.YtpilaeoiagdoeaaDoorW.PrintLast Go.Proofs.YtpilaeoiagdoeaaDoorW.PrintMore

theorem wrap_in {i : Int} (h0 : -9223372036854775808 ≤ i) (h1 : i ≤ 9223372036854775807) : wrap64 i = i := by unfold wrap64; omega
theorem wrap_next {i : Nat} {n : Nat} (h : i < n) (hn : n ≤ 4611686018427387904) : wrap64 ((i : Int) + 1) = ((i + 1 : Nat) : Int) := by unfold wrap64; omega

theorem toList_data (s : ByteArray) : s.toList = s.data.toList := ByteArray.toList_eq s
theorem eq_of_toList {a b : ByteArray} (h : a.toList = b.toList) : a = b := by
  rw [toList_data, toList_data] at h
  exact ByteArray.ext (Array.toList_inj.1 h)
theorem bt_get (s : ByteArray) (i : Nat) (h : i < s.size) : (bytesOf s)[i]? = some (bt s i) := by
  rw [← rd_bytesOf]
  have h1 : i < (bytesOf s).length := by rw [bytesOf_length]; exact h
  simp [rd, List.getD_eq_getElem?_getD, List.getElem?_eq_getElem h1]
theorem drop_bt (s : ByteArray) (i : Nat) (h : i < s.size) : (bytesOf s).drop i = bt s i :: (bytesOf s).drop (i + 1) := by
  have h1 : i < (bytesOf s).length := by rw [bytesOf_length]; exact h
  rw [List.drop_eq_getElem_cons h1]
  have := bt_get s i h
  rw [List.getElem?_eq_getElem h1] at this
  rw [Option.some.inj this]
theorem mem_bytes {s : ByteArray} {c : Int} (h : c ∈ bytesOf s) : 0 ≤ c ∧ c ≤ 255 := by
  unfold bytesOf at h
  obtain ⟨b, _, rfl⟩ := List.mem_map.1 h
  have := b.toNat_lt
  omega
theorem bytes_nums (l : List Int) (h : ∀ c ∈ l, 0 ≤ c ∧ c ≤ 255) : bytesOf (strOfNums l) = l := by
  unfold bytesOf
  rw [strOfNums_data, List.map_map]
  refine (List.map_congr_left fun c hc => ?_).trans (List.map_id l)
  have := h c hc
  simp only [Function.comp, UInt8.toNat_ofNat', id]
  omega
theorem nums_bytes (s : ByteArray) : strOfNums (bytesOf s) = s := by
  apply ByteArray.ext
  apply Array.toList_inj.1
  rw [strOfNums_data]
  unfold bytesOf
  rw [List.map_map]
  refine (List.map_congr_left fun c hc => ?_).trans (List.map_id _)
  simp
theorem bytes_inj {a b : ByteArray} (h : bytesOf a = bytesOf b) : a = b := by rw [← nums_bytes a, ← nums_bytes b, h]
theorem bytes_append (a b : ByteArray) : bytesOf (a ++ b) = bytesOf a ++ bytesOf b := by
  unfold bytesOf
  rw [← List.map_append]
  simp [ByteArray.data_append]

/-- A loop over bytes: what a round does with its state and a byte; an end ahead of time. -/
def runL {σ β : Type} (f : σ → Int → σ ⊕ β) (fin : σ → β) : List Int → σ → β
  | [], st => fin st
  | c :: cs, st => match f st c with
    | .inl st' => runL f fin cs st'
    | .inr b => b
/-- The printed loop comes to what 'runL' comes to, from some number of rounds on. -/
theorem ev_run {σ β : Type} (s : ByteArray) (I : σ → Nat → Prop) (f : σ → Int → σ ⊕ β) (fin : σ → β) (g : Nat → σ → Int → Option β) (K : Nat)
    (hstep : ∀ k st (i : Nat), K ≤ k → i < s.size → I st i → (∀ st', f st (bt s i) = .inl st' → g (k + 1) st i = g k st' ((i + 1 : Nat) : Int) ∧ I st' (i + 1)) ∧ (∀ b, f st (bt s i) = .inr b → g (k + 1) st i = some b))
    (hend : ∀ k st, K ≤ k → I st s.size → g (k + 1) st (s.size : Int) = some (fin st)) (st : σ) (h0 : I st 0) :
    Ev (fun k => g k st 0) (runL f fin (bytesOf s) st) := by
  have key : ∀ (d i : Nat) (st : σ), i + d = s.size → I st i → ∀ k, K + d < k → g k st (i : Int) = some (runL f fin ((bytesOf s).drop i) st) := by
    intro d
    induction d with
    | zero =>
      intro i st hd hI k hk
      obtain ⟨k, rfl⟩ : ∃ m, k = m + 1 := ⟨k - 1, by omega⟩
      have e : i = s.size := by omega
      subst e
      rw [hend k st (by omega) hI, List.drop_of_length_le (by rw [bytesOf_length]; exact Nat.le_refl _)]
      rfl
    | succ d ih =>
      intro i st hd hI k hk
      obtain ⟨k, rfl⟩ : ∃ m, k = m + 1 := ⟨k - 1, by omega⟩
      obtain ⟨h1, h2⟩ := hstep k st i (by omega) (by omega) hI
      rw [drop_bt s i (by omega)]
      show g (k + 1) st i = some (match f st (bt s i) with | .inl st' => runL f fin ((bytesOf s).drop (i + 1)) st' | .inr b => b)
      cases hf : f st (bt s i) with
      | inl st' =>
        obtain ⟨e, hI'⟩ := h1 st' hf
        rw [e]
        exact ih (i + 1) st' (by omega) hI' k (by omega)
      | inr b => exact h2 b hf
  refine ⟨K + s.size + 1, fun k hk => ?_⟩
  have := key s.size 0 st (by omega) h0 k (by omega)
  rw [List.drop_zero] at this
  exact this

/-- A loop that asks each byte. -/
theorem ev_all (s : ByteArray) (p : Int → Bool) (g : Nat → Int → Option Bool) (K : Nat)
    (h1 : ∀ k (i : Nat), K ≤ k → i < s.size → p (bt s i) = true → g (k + 1) i = g k ((i + 1 : Nat) : Int))
    (h0 : ∀ k (i : Nat), K ≤ k → i < s.size → p (bt s i) = false → g (k + 1) i = some false)
    (he : ∀ k, K ≤ k → g (k + 1) (s.size : Int) = some true) : Ev (fun k => g k 0) ((bytesOf s).all p) := by
  have h := ev_run (σ := Unit) (β := Bool) s (fun _ _ => True) (fun _ c => if p c = true then .inl () else .inr false) (fun _ => true) (fun k _ i => g k i) K
    (fun k st i hk hi _ => ⟨fun st' e => ⟨h1 k i hk hi (by
        by_cases hp : p (bt s i) = true
        · exact hp
        · rw [if_neg hp] at e; cases e), trivial⟩, fun b e => by
        by_cases hp : p (bt s i) = true
        · rw [if_pos hp] at e; cases e
        · rw [if_neg hp] at e
          obtain rfl : false = b := by injection e
          exact h0 k i hk hi (by simpa using hp)⟩)
    (fun k st hk _ => he k hk) () trivial
  have e : ∀ l : List Int, runL (σ := Unit) (β := Bool) (fun _ c => if p c = true then .inl () else .inr false) (fun _ => true) l () = l.all p := by
    intro l
    induction l with
    | nil => rfl
    | cons c cs ih =>
      rw [List.all_cons]
      unfold runL
      by_cases hp : p c = true
      · simp only [hp, if_true, Bool.true_and]; exact ih
      · simp only [(by simpa using hp : p c = false), Bool.false_and, Bool.false_eq_true, if_false]
  rw [e] at h
  exact h
theorem runL_all {β : Type} (p : Int → Bool) (r b : β) (l : List Int) : runL (σ := Unit) (fun _ c => if p c = true then .inl () else .inr b) (fun _ => r) l () = if l.all p = true then r else b := by
  induction l with
  | nil => rfl
  | cons c cs ih =>
    rw [List.all_cons]
    unfold runL
    by_cases hp : p c = true
    · simp only [hp, if_true, Bool.true_and]; exact ih
    · simp only [(by simpa using hp : p c = false), Bool.false_and, Bool.false_eq_true, if_false]
/-- A loop that asks each byte, and goes on behind it. -/
theorem ev_allr {β : Type} (s : ByteArray) (p : Int → Bool) (r b : β) (g : Nat → Int → Option β) (K : Nat)
    (h1 : ∀ k (i : Nat), K ≤ k → i < s.size → p (bt s i) = true → g (k + 1) i = g k ((i + 1 : Nat) : Int))
    (h0 : ∀ k (i : Nat), K ≤ k → i < s.size → p (bt s i) = false → g (k + 1) i = some b)
    (he : ∀ k, K ≤ k → g (k + 1) (s.size : Int) = some r) : Ev (fun k => g k 0) (if (bytesOf s).all p = true then r else b) := by
  rw [← runL_all p r b (bytesOf s)]
  refine ev_run (σ := Unit) s (fun _ _ => True) (fun _ c => if p c = true then .inl () else .inr b) (fun _ => r) (fun k _ i => g k i) K
    (fun k st i hk hi _ => ⟨fun st' e => ⟨h1 k i hk hi (by
        by_cases hp : p (bt s i) = true
        · exact hp
        · rw [if_neg hp] at e; cases e), trivial⟩, fun b' e => by
        by_cases hp : p (bt s i) = true
        · rw [if_pos hp] at e; cases e
        · rw [if_neg hp] at e
          obtain rfl : b = b' := by injection e
          exact h0 k i hk hi (by simpa using hp)⟩)
    (fun k st hk _ => he k hk) () trivial
/-- A loop that puts something behind a list for each byte. -/
theorem runL_flat {β : Type} (f : Int → List Int) (fin : List Int → β) (l st : List Int) : runL (fun st c => .inl (st ++ f c)) fin l st = fin (st ++ l.flatMap f) := by
  induction l generalizing st with
  | nil => simp [runL]
  | cons c cs ih =>
    unfold runL
    simp only [ih, List.flatMap_cons, List.append_assoc]
theorem ev_const {α : Type} {x : Option α} {r : α} (h : x = some r) : Ev (fun _ => x) r := ⟨0, fun _ _ => h⟩
theorem ev_eq {α : Type} {g : Nat → Option α} {r r' : α} (h : Ev g r) (e : r = r') : Ev g r' := e ▸ h
/-- From a number of rounds on: a law that holds at each such number. -/
theorem ev_now {α : Type} {g : Nat → Option α} {r : α} (K : Nat) (h : ∀ k, K ≤ k → g k = some r) : Ev g r := ⟨K, h⟩
theorem all_congr' {l : List Int} {p q : Int → Bool} (h : ∀ c ∈ l, p c = q c) : l.all p = l.all q := by
  induction l with
  | nil => rfl
  | cons a l ih =>
    rw [List.all_cons, List.all_cons, h a List.mem_cons_self, ih fun c hc => h c (List.mem_cons_of_mem _ hc)]
end Go.Proofs.YtpilaeoiagdoeaaDoor.Q
/-! ## Qall -/
/-
  What the byte predicates of impl and spec come to, and 'all' over each. No condition but a text's greatest length.
-/
namespace Go.Proofs.YtpilaeoiagdoeaaDoor.Q
set_option linter.unusedVariables false
set_option linter.unusedSimpArgs false
open Go.RowKit Go.Proofs.YtpilaeoiagdoeaaDoor.P Go.Proofs.YtpilaeoiagdoeaaDoorW.PrintWords Go.Proofs.YtpilaeoiagdoeaaDoorW.PrintLast Go.Proofs.YtpilaeoiagdoeaaDoorW.PrintMore

def visB (c : Int) : Bool := decide (32 ≤ c) && decide (c ≤ 126) || decide (c = 9)
def digB (c : Int) : Bool := decide (48 ≤ c) && decide (c ≤ 57)
def letB (c : Int) : Bool := decide (97 ≤ c) && decide (c ≤ 122) || decide (65 ≤ c) && decide (c ≤ 90)
def hexB (c : Int) : Bool := digB c || decide (97 ≤ c) && decide (c ≤ 102) || decide (65 ≤ c) && decide (c ≤ 70)
def tagB (c : Int) : Bool := decide (33 ≤ c) && decide (c ≤ 126) && decide (c ≠ 34)
def tokB (c : Int) : Bool := letB c || digB c || decide (c ∈ [33, 35, 36, 37, 38, 39, 42, 43, 45, 46, 94, 95, 124, 126, 96])
def plaB (c : Int) : Bool := letB c || digB c || decide (c ∈ [45, 46, 95, 126, 47, 58, 64, 33, 36, 38, 39, 40, 41, 42, 43, 44, 59, 61])

theorem impl_isVisible_is (c : Int) : impl_isVisible.f c = some (visB c) := by
  unfold impl_isVisible.f visB
  by_cases h1 : c ≥ 32 <;> by_cases h2 : c ≤ 126 <;> simp [h1, h2] <;> (try omega) <;> (try (by_cases h3 : c = 9 <;> simp [h3] <;> omega))
theorem impl_isDigit_is (c : Int) : impl_isDigit.f c = some (digB c) := by
  unfold impl_isDigit.f digB
  by_cases h1 : c ≥ 48 <;> simp [h1] <;> omega
theorem impl_isHex_is (c : Int) : impl_isHex.f c = some (hexB c) := by
  unfold impl_isHex.f hexB
  rw [impl_isDigit_is]
  cases h0 : digB c <;> by_cases h1 : c ≥ 97 <;> by_cases h2 : c ≤ 102 <;> by_cases h3 : c ≥ 65 <;> by_cases h4 : c ≤ 70 <;> simp [h1, h2, h3, h4] <;> omega
theorem impl_TagOk_1_is (c : Int) : impl_TagOk_1.f c = some (tagB c) := by
  unfold impl_TagOk_1.f tagB
  by_cases h1 : c ≥ 33 <;> by_cases h2 : c ≤ 126 <;> by_cases h3 : c = 34 <;> simp [h1, h2, h3] <;> omega

/-- A law on bytes, tried at each. -/
theorem byte_cases {p : Int → Prop} (h : ∀ n : Fin 256, p (n.val : Int)) (c : Int) (h0 : 0 ≤ c) (h1 : c ≤ 255) : p c := by
  have := h ⟨c.toNat, by omega⟩
  rwa [show ((⟨c.toNat, by omega⟩ : Fin 256).val : Int) = c from by show (c.toNat : Int) = c; omega] at this
/-- A hexadecimal digit's value, or -1. -/
def hexV (c : Int) : Int := if digB c = true then c - 48 else if 97 ≤ c ∧ c ≤ 102 then c - 87 else if 65 ≤ c ∧ c ≤ 70 then c - 55 else -1
theorem hexV_neg (c : Int) : decide (hexV c < 0) = !hexB c := by
  unfold hexV hexB
  cases h0 : digB c
  · by_cases h1 : 97 ≤ c ∧ c ≤ 102
    · simp [h1]; omega
    · by_cases h2 : 65 ≤ c ∧ c ≤ 70
      · have h1' : (decide (97 ≤ c) && decide (c ≤ 102)) = false := by simp; omega
        simp [h1, h1', h2]; omega
      · have h1' : (decide (97 ≤ c) && decide (c ≤ 102)) = false := by simp; omega
        have h2' : (decide (65 ≤ c) && decide (c ≤ 70)) = false := by simp; omega
        simp [h1, h1', h2, h2']
  · unfold digB at h0
    simp at h0
    simp
    omega
theorem spec_l1Hex_is (c : Int) (h0 : 0 ≤ c) (h1 : c ≤ 255) (k : Nat) (hk : 2 ≤ k) : spec_l1Hex.f k c = some (hexV c) :=
  at_rounds (fun k => spec_l1Hex.mono c k) hk (byte_cases (p := fun c => spec_l1Hex.f 2 c = some (hexV c)) (by decide +kernel) c h0 h1)
/-- 'all' over a predicate. -/
theorem all_vis (s : ByteArray) (hs : s.size ≤ 9223372036854775807) : impl_all.f s 79 = some ((bytesOf s).all visB) := by
  unfold impl_all.f
  rw [if_pos hs]
  simp only [Nat.reduceEqDiff, if_true, if_false, reduceIte]
  rw [all_congr' fun c hc => (by rw [impl_isVisible_is]; cases visB c <;> rfl : (impl_isVisible.f c == some true) = visB c)]
theorem all_hex (s : ByteArray) (hs : s.size ≤ 9223372036854775807) : impl_all.f s 68 = some ((bytesOf s).all hexB) := by
  unfold impl_all.f
  rw [if_pos hs]
  simp only [Nat.reduceEqDiff, if_true, if_false, reduceIte]
  rw [all_congr' fun c hc => (by rw [impl_isHex_is]; cases hexB c <;> rfl : (impl_isHex.f c == some true) = hexB c)]
theorem all_dig (s : ByteArray) (hs : s.size ≤ 9223372036854775807) : impl_all.f s 93 = some ((bytesOf s).all digB) := by
  unfold impl_all.f
  rw [if_pos hs]
  simp only [Nat.reduceEqDiff, if_true, if_false, reduceIte]
  rw [all_congr' fun c hc => (by rw [impl_isDigit_is]; cases digB c <;> rfl : (impl_isDigit.f c == some true) = digB c)]
theorem all_tag (s : ByteArray) (hs : s.size ≤ 9223372036854775807) : impl_all.f s 84 = some ((bytesOf s).all tagB) := by
  unfold impl_all.f
  rw [if_pos hs]
  simp only [Nat.reduceEqDiff, if_true, if_false, reduceIte]
  rw [all_congr' fun c hc => (by rw [impl_TagOk_1_is]; cases tagB c <;> rfl : (impl_TagOk_1.f c == some true) = tagB c)]
end Go.Proofs.YtpilaeoiagdoeaaDoor.Q
/-! ## Qbytes -/
/-
  Bytes of parts of a text. No condition.
-/
namespace Go.Proofs.YtpilaeoiagdoeaaDoor.Q
set_option linter.unusedVariables false
set_option linter.unusedSimpArgs false
open Go.RowKit Go.Proofs.YtpilaeoiagdoeaaDoor.P Go.Proofs.YtpilaeoiagdoeaaDoorW.PrintWords Go.Proofs.YtpilaeoiagdoeaaDoorW.PrintLast Go.Proofs.YtpilaeoiagdoeaaDoorW.PrintMore

theorem bytes_extract (s : ByteArray) (a b : Nat) : bytesOf (s.extract a b) = ((bytesOf s).drop a).take (b - a) := by
  unfold bytesOf
  rw [Lib.extract_data, List.map_take, List.map_drop]
theorem bytes_last (s : ByteArray) (h : 0 < s.size) : bytesOf s = bytesOf (s.extract 0 (s.size - 1)) ++ [bt s ((s.size - 1 : Nat) : Int)] := by
  rw [bytes_extract, List.drop_zero, Nat.sub_zero]
  have h1 := drop_bt s (s.size - 1) (by omega)
  have h2 : (bytesOf s).drop (s.size - 1 + 1) = [] := List.drop_of_length_le (by rw [bytesOf_length]; omega)
  rw [h2] at h1
  rw [← h1, List.take_append_drop]
theorem bytes_first (s : ByteArray) (h : 0 < s.size) : bytesOf s = bt s 0 :: bytesOf (s.extract 1 s.size) := by
  rw [bytes_extract]
  have h1 := drop_bt s 0 h
  rw [List.drop_zero] at h1
  rw [List.take_of_length_le (by rw [List.length_drop, bytesOf_length]; exact Nat.le_refl _)]
  exact h1
theorem size_extract (s : ByteArray) (a b : Nat) (hb : b ≤ s.size) : (s.extract a b).size = b - a := by
  rw [← bytesOf_length, bytes_extract, List.length_take, List.length_drop, bytesOf_length]
  omega
theorem toList_nil (s : ByteArray) : s.toList = [] ↔ s.size = 0 := by
  rw [toList_data, ← data_length]
  exact List.length_eq_zero_iff.symm
theorem bytes_nil (s : ByteArray) (h : s.size = 0) : bytesOf s = [] := List.eq_nil_of_length_eq_zero (by rw [bytesOf_length]; exact h)
theorem bytes_ofList (l : List UInt8) : bytesOf ⟨l.toArray⟩ = l.map fun b => (b.toNat : Int) := by
  unfold bytesOf
  rfl
theorem bytes_two (s : ByteArray) (i : Nat) (h : i + 2 ≤ s.size) : bytesOf (s.extract i (i + 2)) = [bt s (i : Int), bt s ((i + 1 : Nat) : Int)] := by
  rw [bytes_extract, drop_bt s i (by omega), drop_bt s (i + 1) (by omega), show i + 2 - i = 2 from by omega]
  rfl
end Go.Proofs.YtpilaeoiagdoeaaDoor.Q
/-! ## Qtag -/
/-
  TagOk of spec and impl come to one and the same. No condition but a text's greatest length.
-/
namespace Go.Proofs.YtpilaeoiagdoeaaDoor.Q
set_option linter.unusedVariables false
set_option linter.unusedSimpArgs false
open Go.RowKit Go.Proofs.YtpilaeoiagdoeaaDoor.P Go.Proofs.YtpilaeoiagdoeaaDoorW.PrintWords Go.Proofs.YtpilaeoiagdoeaaDoorW.PrintLast Go.Proofs.YtpilaeoiagdoeaaDoorW.PrintMore

def tagOk (s : ByteArray) : Bool := decide (s.size ≤ 40) && (bytesOf s).all tagB
theorem spec_TagOk_ev (w : Bool) (s : ByteArray) (hs : s.size ≤ 4611686018427387904) : Ev (fun k => spec_TagOk.f k w s) (tagOk s) := by
  unfold spec_TagOk.f tagOk
  by_cases h : (s.size : Int) > 40
  · simp only [if_pos h]
    exact ev_const (by rw [decide_eq_false (by omega), Bool.false_and])
  · simp only [if_neg h]
    rw [decide_eq_true (by omega), Bool.true_and]
    refine ev_all s tagB (fun k i => spec_TagOk.l0 k i w s) 0 (fun k i _ hi hp => ?_) (fun k i _ hi hp => ?_) (fun k _ => ?_)
    · simp only [spec_TagOk.l0]
      unfold tagB at hp
      simp at hp
      rw [if_pos (by omega), if_pos (by omega), wrap_next hi hs, if_neg (by omega), if_neg (by omega), if_neg hp.2]
    · simp only [spec_TagOk.l0]
      rw [if_pos (by omega), if_pos (by omega)]
      unfold tagB at hp
      simp at hp
      by_cases h1 : bt s i < 33
      · rw [if_pos h1]
      · rw [if_neg h1]
        by_cases h2 : bt s i > 126
        · rw [if_pos h2]
        · rw [if_neg h2, if_pos (hp (by omega) (by omega))]
    · simp only [spec_TagOk.l0]
      rw [if_neg (by omega)]
theorem impl_TagOk_is (w : Bool) (s : ByteArray) (hs : s.size ≤ 4611686018427387904) : impl_TagOk.f w s = some (tagOk s) := by
  unfold impl_TagOk.f tagOk
  by_cases h : (s.size : Int) ≤ 40
  · rw [if_pos h, all_tag s (by omega), decide_eq_true (by omega), Bool.true_and]; rfl
  · rw [if_neg h, decide_eq_false (by omega), Bool.false_and]
def showTag (w : Bool) (s : ByteArray) : ByteArray := if tagOk s = true then (if w = true then (⟨#[87, 47]⟩ : ByteArray) ++ (((⟨#[34]⟩ : ByteArray) ++ s) ++ (⟨#[34]⟩ : ByteArray)) else ((⟨#[34]⟩ : ByteArray) ++ s) ++ (⟨#[34]⟩ : ByteArray)) else (⟨#[]⟩ : ByteArray)
theorem size_app (a b : ByteArray) : (a ++ b).size = a.size + b.size := by simp [ByteArray.size_append]
theorem size_lit (l : List UInt8) : (⟨l.toArray⟩ : ByteArray).size = l.length := rfl
theorem spec_ShowTag_ev (w : Bool) (s : ByteArray) (hs : s.size ≤ 4611686018427387904) : Ev (fun k => spec_ShowTag.f k w s) (showTag w s) := by
  unfold spec_ShowTag.f showTag
  refine Ev.bind (spec_TagOk_ev w s hs) ?_
  by_cases t : tagOk s = true
  · simp only [t, if_true]
    refine ev_const ?_
    unfold spec_l7Show.f
    rw [if_pos (by omega), if_pos (by rw [size_app, size_lit]; simp; omega)]
    cases w
    · simp
    · rw [if_pos rfl, if_pos (by rw [size_app, size_app, size_lit]; simp; omega)]
      simp
  · simp only [t]; exact Ev.now _
theorem impl_ShowTag_is (w : Bool) (s : ByteArray) (hs : s.size ≤ 4611686018427387904) : impl_ShowTag.f w s = some (showTag w s) := by
  unfold impl_ShowTag.f showTag
  rw [impl_TagOk_is w s hs]
  simp only [Option.bind_some]
  by_cases t : tagOk s = true
  · simp only [t, if_true]
    cases w
    · simp only [Bool.false_eq_true, if_false]
      rw [if_pos (by omega), if_pos (by rw [size_app, size_lit]; simp; omega)]
    · simp only [if_true]
      rw [if_pos (by omega), if_pos (by rw [size_app, size_lit]; simp; omega)]
      refine congrArg some (bytes_inj ?_)
      simp only [bytes_append]
      rfl
  · simp only [t]; rfl
end Go.Proofs.YtpilaeoiagdoeaaDoor.Q
/-! ## Qreadtag -/
/-
  ReadTag of spec and impl come to one and the same. Condition: a text's greatest length.
-/
namespace Go.Proofs.YtpilaeoiagdoeaaDoor.Q
set_option linter.unusedVariables false
set_option linter.unusedSimpArgs false
open Go.RowKit Go.Proofs.YtpilaeoiagdoeaaDoor.P Go.Proofs.YtpilaeoiagdoeaaDoorW.PrintWords Go.Proofs.YtpilaeoiagdoeaaDoorW.PrintLast Go.Proofs.YtpilaeoiagdoeaaDoorW.PrintMore

abbrev TagR := Bool × ByteArray × Bool
def noTag : TagR := (false, (⟨#[]⟩ : ByteArray), false)
def preT (w : Bool) : List Int := if w = true then [87, 47] else []
theorem showTag_bytes {w : Bool} {t : ByteArray} (h : tagOk t = true) : bytesOf (showTag w t) = preT w ++ (34 :: (bytesOf t ++ [34])) := by
  unfold showTag preT
  rw [if_pos h]
  cases w
  · simp only [Bool.false_eq_true, if_false, bytes_append]
    rfl
  · simp only [if_true, bytes_append]
    rfl
/-- The tag in a text behind what tells it weak. -/
def untag (s R : ByteArray) (w : Bool) : TagR :=
  if 2 ≤ R.size ∧ tagOk (R.extract 1 (R.size - 1)) = true ∧ showTag w (R.extract 1 (R.size - 1)) = s then (w, R.extract 1 (R.size - 1), true) else noTag
def trimQ (R : ByteArray) : ByteArray := ⟨(Lib.trimS R.data.toList [34]).toArray⟩
theorem tag_no34 {t : ByteArray} (h : tagOk t = true) : ∀ c ∈ bytesOf t, c ≠ 34 := by
  intro c hc
  unfold tagOk at h
  rw [Bool.and_eq_true] at h
  have := List.all_eq_true.1 h.2 c hc
  unfold tagB at this
  simp at this
  exact this.2
theorem quoted_in {s R t : ByteArray} {w : Bool} (hs : bytesOf s = preT w ++ bytesOf R) (h : tagOk t = true) (e : showTag w t = s) : bytesOf R = 34 :: (bytesOf t ++ [34]) := by
  rw [← e, showTag_bytes h] at hs
  exact (List.append_cancel_left hs).symm
theorem middle {R t : ByteArray} (h : bytesOf R = 34 :: (bytesOf t ++ [34])) : 2 ≤ R.size ∧ R.extract 1 (R.size - 1) = t := by
  have hl : R.size = t.size + 2 := by
    rw [← bytesOf_length R, h]
    simp [bytesOf_length]
  refine ⟨by omega, bytes_inj ?_⟩
  rw [bytes_extract, h, List.drop_one, List.tail_cons, List.take_append_of_le_length (by rw [bytesOf_length]; omega), List.take_of_length_le (by rw [bytesOf_length]; omega)]
theorem drop34 (l : List UInt8) (h : ∀ b ∈ l, b ≠ 34) : l.dropWhile (([34] : List UInt8).contains ·) = l := by
  cases l with
  | nil => rfl
  | cons b l =>
    rw [List.dropWhile_cons, if_neg]
    have := h b List.mem_cons_self
    simp [this]
theorem trimS34 (l : List UInt8) (h : ∀ b ∈ l, b ≠ 34) : Lib.trimS (34 :: (l ++ [34])) [34] = l := by
  unfold Lib.trimS Lib.trimLeftS Lib.trimRightS
  have e1 : ([34] : List UInt8).contains 34 = true := by decide
  rw [List.reverse_cons, List.reverse_append, List.reverse_singleton, List.singleton_append, List.cons_append, List.dropWhile_cons, if_pos e1]
  cases l with
  | nil =>
    rw [List.reverse_nil, List.nil_append, List.dropWhile_cons, if_pos e1]
    rfl
  | cons b l =>
    have e2 : ((b :: l).reverse ++ [34]).dropWhile (([34] : List UInt8).contains ·) = (b :: l).reverse ++ [34] := by
      obtain ⟨l', x, hx⟩ : ∃ l' x, b :: l = l' ++ [x] := ⟨(b :: l).dropLast, (b :: l).getLast (by simp), (List.dropLast_concat_getLast _).symm⟩
      rw [hx, List.reverse_append, List.reverse_singleton, List.singleton_append, List.cons_append, List.dropWhile_cons, if_neg]
      have := h x (by rw [hx]; simp)
      simp [this]
    rw [e2, List.reverse_append, List.reverse_reverse, List.reverse_singleton, List.singleton_append, List.dropWhile_cons, if_pos e1]
    exact drop34 _ h
theorem trimQ_is {R t : ByteArray} (h : bytesOf R = 34 :: (bytesOf t ++ [34])) (h34 : ∀ c ∈ bytesOf t, c ≠ 34) : trimQ R = t := by
  have hd : R.data.toList = 34 :: (t.data.toList ++ [34]) := by
    have inj : ∀ a b : List UInt8, (a.map fun x => (x.toNat : Int)) = (b.map fun x => (x.toNat : Int)) → a = b := by
      intro a
      induction a with
      | nil => intro b e; cases b with
        | nil => rfl
        | cons y b => simp at e
      | cons x a ih => intro b e; cases b with
        | nil => simp at e
        | cons y b =>
          simp only [List.map_cons, List.cons.injEq] at e
          rw [UInt8.toNat_inj.1 (by have := e.1; omega : x.toNat = y.toNat), ih b e.2]
    refine inj _ _ ?_
    have := h
    unfold bytesOf at this
    rw [this]
    simp
  unfold trimQ
  rw [hd, trimS34]
  intro b hb e
  refine h34 34 ?_ rfl
  unfold bytesOf
  rw [List.mem_map]
  exact ⟨b, hb, by rw [e]; rfl⟩
theorem untag_impl (s R : ByteArray) (w : Bool) (hs : bytesOf s = preT w ++ bytesOf R) : (if tagOk (trimQ R) = true then (if showTag w (trimQ R) = s then (w, trimQ R, true) else noTag) else noTag) = untag s R w := by
  unfold untag
  by_cases h : tagOk (trimQ R) = true ∧ showTag w (trimQ R) = s
  · obtain ⟨a, b⟩ := middle (quoted_in hs h.1 h.2)
    rw [if_pos h.1, if_pos h.2, b, if_pos ⟨a, h.1, h.2⟩]
  · have e : (if tagOk (trimQ R) = true then (if showTag w (trimQ R) = s then (w, trimQ R, true) else noTag) else noTag) = noTag := by
      by_cases a : tagOk (trimQ R) = true
      · rw [if_pos a, if_neg (fun b => h ⟨a, b⟩)]
      · rw [if_neg a]
    rw [e, if_neg]
    intro ⟨a, b, c⟩
    have q := quoted_in hs b c
    have := trimQ_is q (tag_no34 b)
    rw [this] at h
    exact h ⟨b, c⟩
theorem untag_W (s : ByteArray) (h : bytesOf s = [87, 47]) : untag s s false = noTag := by
  unfold untag
  rw [if_neg]
  intro ⟨a, b, c⟩
  have q := quoted_in (s := s) (R := s) (w := false) rfl b c
  rw [h] at q
  simp at q
def readTag (s : ByteArray) : TagR := if 2 < s.size ∧ (bytesOf s).take 2 = [87, 47] then untag s (s.extract 2 s.size) true else untag s s false
theorem pre_split (s : ByteArray) (h : (bytesOf s).take 2 = [87, 47]) : bytesOf s = preT true ++ bytesOf (s.extract 2 s.size) := by
  rw [bytes_extract, List.take_of_length_le (by rw [List.length_drop, bytesOf_length]; exact Nat.le_refl _)]
  show _ = [87, 47] ++ _
  rw [← h, List.take_append_drop]
theorem pre_test (s : ByteArray) : ((s.extract 0 2).toList == ([87, 47] : List UInt8)) = decide ((bytesOf s).take 2 = [87, 47]) := by
  have e : bytesOf (s.extract 0 2) = (bytesOf s).take 2 := by rw [bytes_extract]; rfl
  rw [← e]
  by_cases h : (s.extract 0 2).toList = [87, 47]
  · rw [h]
    have : bytesOf (s.extract 0 2) = [87, 47] := by
      unfold bytesOf
      rw [← toList_data, h]
      rfl
    rw [this]
    rfl
  · rw [beq_eq_false_iff_ne.2 h, decide_eq_false]
    intro h2
    refine h ?_
    have : s.extract 0 2 = ⟨#[87, 47]⟩ := bytes_inj (by rw [h2]; rfl)
    rw [this, toList_data]
theorem spec_untag_ev (s R : ByteArray) (w : Bool) (x : ByteArray) (hs : bytesOf s = preT w ++ bytesOf R) (hz : R.size ≤ 4611686018427387904) : Ev (fun k => spec_ReadTag.j1 k s R w x) (untag s R w) := by
  have hl : 2 ≤ R.size → s.toList ≠ [] := by
    intro h e
    rw [toList_nil] at e
    have := congrArg List.length hs
    rw [bytesOf_length, List.length_append, bytesOf_length] at this
    omega
  by_cases h : (R.size : Int) < 2
  · refine Ev.step (f := fun _ => some noTag) (fun k => ?_) (ev_eq (Ev.now _) ?_)
    · simp only [spec_ReadTag.j1]
      rw [if_pos h]
      rfl
    · unfold untag
      rw [if_neg (by omega)]
  · have e1 : wrap64 ((R.size : Int) - 1) = ((R.size - 1 : Nat) : Int) := by rw [wrap_in (by omega) (by omega)]; omega
    refine Ev.step (f := fun k => (spec_ShowTag.f k w (R.extract 1 (R.size - 1))).bind fun t => if t.toList = s.toList then some (w, R.extract 1 (R.size - 1), true) else some noTag) (fun k => ?_) (Ev.bind (spec_ShowTag_ev w _ (by rw [size_extract R _ _ (by omega)]; omega)) (ev_const ?_))
    · simp only [spec_ReadTag.j1]
      rw [if_neg h, e1, if_pos (by omega), if_pos (by omega), Int.toNat_natCast]
      rfl
    · unfold untag
      by_cases ht : showTag w (R.extract 1 (R.size - 1)) = s
      · by_cases hk : tagOk (R.extract 1 (R.size - 1)) = true
        · rw [if_pos (by rw [ht]), if_pos ⟨by omega, hk, ht⟩]
        · exfalso
          refine hl (by omega) ?_
          rw [← ht]
          unfold showTag
          rw [if_neg hk, toList_data]
      · rw [if_neg (fun e => ht (eq_of_toList e)), if_neg (fun e => ht e.2.2)]
theorem spec_ReadTag_ev (s : ByteArray) (hz : s.size ≤ 4611686018427387904) : Ev (fun k => spec_ReadTag.f k s) (readTag s) := by
  have two : ∀ x, Ev (fun k => spec_ReadTag.j0 k s s false false x) (untag s s false) := fun x =>
    Ev.step (f := fun k => spec_ReadTag.j1 k s s false x) (fun k => by simp only [spec_ReadTag.j0, Bool.false_eq_true, if_false]) (spec_untag_ev s s false x rfl hz)
  unfold spec_ReadTag.f readTag
  by_cases h : (s.size : Int) > 2
  · simp only [if_pos h]
    rw [pre_test]
    simp only [show (0 : Int) ≤ 2 from by decide, if_true, show (2 : Int) ≤ (s.size : Int) from by omega]
    by_cases hp : (bytesOf s).take 2 = [87, 47]
    · rw [decide_eq_true hp, if_pos ⟨by omega, hp⟩]
      refine Ev.step (f := fun k => spec_ReadTag.j1 k s (s.extract 2 s.size) true (⟨#[]⟩ : ByteArray)) (fun k => ?_) (spec_untag_ev s _ true _ (pre_split s hp) (by rw [size_extract s _ _ (Nat.le_refl _)]; omega))
      simp only [spec_ReadTag.j0, if_true]
      rw [if_pos (show (2 : Int) ≤ (s.size : Int) by omega)]
      first | rfl | exact if_pos (by decide) | simp
    · rw [decide_eq_false hp, if_neg (fun e => hp e.2)]
      exact two _
  · simp only [if_neg h]
    rw [if_neg (by omega)]
    exact two _
theorem strings_Trim_q (R : ByteArray) (hs : R.size ≤ 9223372036854775807) : strings_Trim.f R (⟨#[34]⟩ : ByteArray) = some (trimQ R) := by
  unfold strings_Trim.f
  rw [if_pos ⟨hs, by decide, by decide⟩]
  rfl
theorem impl_ReadTag_is (s : ByteArray) (hz : s.size ≤ 4611686018427387904) : impl_ReadTag.f s = some (readTag s) := by
  have hts : ∀ R : ByteArray, R.size ≤ s.size → (trimQ R).size ≤ 4611686018427387904 := by
    intro R hR
    have : (Lib.trimS R.data.toList [34]).length ≤ R.data.toList.length := by
      unfold Lib.trimS Lib.trimLeftS Lib.trimRightS
      refine Nat.le_trans (List.dropWhile_sublist _).length_le ?_
      rw [List.length_reverse]
      refine Nat.le_trans (List.dropWhile_sublist _).length_le ?_
      rw [List.length_reverse]
      exact Nat.le_refl _
    rw [data_length] at this
    have e : (trimQ R).size = (Lib.trimS R.data.toList [34]).length := by
      rw [← data_length]
      rfl
    omega
  have fin : ∀ (R : ByteArray) (w : Bool), R.size ≤ s.size → bytesOf s = preT w ++ bytesOf R →
      ((strings_Trim.f R (⟨#[34]⟩ : ByteArray)).bind fun t104 => ((impl_TagOk.f w t104).bind fun t106 => (if t106 = true then ((impl_ShowTag.f w t104).bind fun t107 => (if t107.toList = s.toList then (some (w, t104, true)) else (some (false, (⟨#[]⟩ : ByteArray), false)))) else (some (false, (⟨#[]⟩ : ByteArray), false))))) = some (untag s R w) := by
    intro R w hR hs
    rw [strings_Trim_q R (by omega)]
    simp only [Option.bind_some]
    rw [impl_TagOk_is _ _ (hts R hR), impl_ShowTag_is _ _ (hts R hR), ← untag_impl s R w hs]
    simp only [Option.bind_some]
    by_cases a : tagOk (trimQ R) = true
    · rw [if_pos a, if_pos a]
      by_cases b : showTag w (trimQ R) = s
      · rw [if_pos (by rw [b]), if_pos b]
      · rw [if_neg (fun e => b (eq_of_toList e)), if_neg b]
        rfl
    · rw [if_neg a, if_neg a]
      rfl
  unfold impl_ReadTag.f strings_CutPrefix.f stringslite_CutPrefix.f stringslite_HasPrefix.f
  have e2 : (((⟨#[87, 47]⟩ : ByteArray).size : Nat) : Int) = 2 := rfl
  have e3 : (⟨#[87, 47]⟩ : ByteArray).toList = ([87, 47] : List UInt8) := by rw [toList_data]
  rw [e2, e3]
  simp only [show (0 : Int) ≤ 2 from by decide, if_true, show ((2 : Int)).toNat = 2 from rfl]
  rw [pre_test]
  by_cases h : (s.size : Int) ≥ 2
  · rw [if_pos h, if_pos (by omega)]
    simp only [Option.bind_some]
    by_cases hp : (bytesOf s).take 2 = [87, 47]
    · rw [decide_eq_true hp, if_pos rfl, if_pos (by omega)]
      simp only [Option.bind_some]
      rw [fin _ true (by rw [size_extract s _ _ (Nat.le_refl _)]; omega) (pre_split s hp)]
      unfold readTag
      by_cases h3 : 2 < s.size
      · rw [if_pos ⟨h3, hp⟩]
      · have hb : bytesOf s = [87, 47] := by rw [← hp, List.take_of_length_le (by rw [bytesOf_length]; omega)]
        rw [if_neg (fun e => h3 e.1), untag_W s hb]
        unfold untag
        rw [if_neg]
        intro e
        have := e.1
        rw [size_extract s _ _ (Nat.le_refl _)] at this
        omega
    · rw [decide_eq_false hp, if_neg (by decide)]
      simp only [Option.bind_some]
      rw [fin s false (Nat.le_refl _) rfl]
      unfold readTag
      rw [if_neg (fun e => hp e.2)]
  · rw [if_neg h]
    simp only [Option.bind_some, Bool.false_eq_true, if_false]
    rw [fin s false (Nat.le_refl _) rfl]
    unfold readTag
    rw [if_neg (by omega)]
end Go.Proofs.YtpilaeoiagdoeaaDoor.Q
/-! ## PureFnExactReadTag -/
/-
  FnExactReadTag answers true at every text: both functions come to the same. No condition.
-/
namespace Go.Proofs.YtpilaeoiagdoeaaDoor.Pure
set_option linter.unusedVariables false
set_option linter.unusedSimpArgs false
open Go.RowKit Go.Proofs.YtpilaeoiagdoeaaDoor.P Go.Proofs.YtpilaeoiagdoeaaDoor.Q Go.Proofs.YtpilaeoiagdoeaaDoorW.PrintWords
theorem FnExactReadTag : laws_FnExactReadTag.Pure := by
  intro a ha
  obtain ⟨k, hk⟩ := (spec_ReadTag_ev a (by omega)).rounds
  refine ⟨k, ?_⟩
  unfold laws_FnExactReadTag.f laws_eqTag.f
  rw [hk, impl_ReadTag_is a (by omega)]
  split <;> simp
end Go.Proofs.YtpilaeoiagdoeaaDoor.Pure
/-! ## LawFnExactReadTag -/
/- The statement of FnExactReadTag, for every input: the row, out of the pure statement and the printed walk. No condition. -/
namespace Go.Proofs.YtpilaeoiagdoeaaDoor.fnExactReadTag
open Go.ChangeShapes Go.WideShapes Go.ChangeAt Go.RowKit
open Go.ChangeMaps (open_string shut_string)
set_option linter.unusedVariables false
theorem own : ownKnob Tryd.prog.godebug = none := by kernel_rfl
set_option maxRecDepth 100000 in
theorem lifted (os : Os) (started : os.Started) (H : Type) (enc : TypeId × Value → H) :
    ReturnsInHanded {} Tryd.checked os 6 .any (fun w args => (Rows.fnExactReadTagSpec.pre enc Tryd.prog Tryd.f6 [] false w args ∧ laidMetH Tryd.prog Rows.fnExactReadTagRow.laid w) ∧ sizedMet enc Tryd.prog Tryd.f6 (OpenSpec.ofChange Rows.fnExactReadTagSpec) false w args) (Rows.fnExactReadTagSpec.post enc Tryd.prog Tryd.f6 false true false false) := by
  refine RowAid.handed_both (C := Tryd.checked) (X := fun w _ => laidMetH Tryd.prog Rows.fnExactReadTagRow.laid w) (fun _ _ _ hh h => h.of_heap hh) own started (by kernel_rfl) Tryd.func6
    (ChangeSpec.witness_shaped (enc := enc) (C := Tryd.checked) (os := os) (X := fun w _ => laidMetH Tryd.prog Rows.fnExactReadTagRow.laid w) false (World.laidAll Tryd.prog os Rows.fnExactReadTagRow.laid) #[.string ByteArray.empty] 8 (World.laidAll_os _ _ _)
      (World.shaped_of_ZipB (by kernel_rfl) (by kernel_rfl)) (by kernel_rfl) (by kernel_rfl) (by kernel_rfl)
      (by rw [MakeChecks.laidMetH_plain _ _ _ (by kernel_rfl)]; exact laidMet_laidAll _ (by kernel_rfl) (by kernel_rfl))) ?_
  intro W base args ds gs before hval0 hW hcnd hsz0 hL hSh _
  have hsz : (DataW.weightsEach Tryd.prog (Tryd.f6.params.toList ++ Rows.fnExactReadTagSpec.plain.varTypes Tryd.prog) (ds ++ gs)).all (· ≤ reachBytes) = true := hsz0
  have hval : ∀ (j : Nat) t v, Tryd.f6.params[j]? = some t → args[j]? = some v → Value.okWide Tryd.prog W .any base t v := hval0
  have hW' := hW
  obtain ⟨p, q, hA0, hV, rfl, hfz, hnd⟩ := hW
  have hA : DataW.TrodAll enc Tryd.prog W 0 (fun _ => true) true Tryd.f6.params.toList args.toList ds p := hA0
  rw [Tryd.params6] at hA hval hsz
  obtain ⟨v0, vs0, d0, ds0, p0, q0, hargs, rfl, rfl, h0, r0⟩ := trodAll_cons hA
  obtain ⟨rfl, rfl, rfl⟩ := trodAll_nil r0
  obtain rfl : args = #[v0] := by cases args; simp_all
  obtain ⟨rfl, rfl⟩ := trodVars_none hV
  obtain ⟨a0, rfl, rfl, rfl, y0⟩ := open_string Tryd.underlying9 (hval 0 9 v0 rfl rfl) h0
  have w0 : a0.size ≤ 140737488351232 := by
    have z := sized_string hsz (j := 0) (t := 9) rfl rfl
    rw [Array.length_toList] at z
    exact z
  clear hA0 hval0 hsz0 hsz
  refine (P.laws_FnExactReadTag.walk Pure.FnExactReadTag a0 W w0).mono fun e W' ⟨he, bel⟩ => ?_
  subst he
  exact ⟨_, rfl, _, _, _, [], _, [], hW', trodAll_mk1 (shut_bool Tryd.underlying4 _), (trodAll_cons_mk (shut_string Tryd.underlying9 y0) trodAll_mk0), rfl, bel.frame _, fun h => by cases h⟩
theorem over : Rows.fnExactReadTagRow.holds Tryd.pinned (OpenSpec.ofChange Rows.fnExactReadTagSpec) :=
  OpenClaim.holds_of_wide 6 Tryd.f6 rfl rfl rfl rfl rfl rfl rfl ⟨rfl, rfl, rfl, rfl, rfl⟩ rfl rfl rfl rfl rfl (by kernel_rfl) Tryd.func6 (by kernel_rfl)
    (of_decide_eq_true (by kernel_rfl)) (by unfold Func.isWrapper; first | (rw [if_pos (by decide +kernel)]; kernel_rfl) | (rw [if_neg (by decide +kernel)]; exact ⟨rfl, rfl⟩))
    (fun os started H enc _ => lifted os started H enc)
theorem proved : Rows.FnExactReadTagSaid := over
#print axioms proved
end Go.Proofs.YtpilaeoiagdoeaaDoor.fnExactReadTag
namespace Go.Proofs.YtpilaeoiagdoeaaDoor
/-- The tied card, under a short name, for the claim. -/
theorem fnExactReadTag_card : Rows.FnExactReadTagCardSaid :=
  Claim7.holds_tied_plain_at .later [] [.data, .pinned] true (true, "287fd3763fb036b34b0038566f3bf98d4b21d9ed6af4807099248ba743891527") true
    fnExactReadTag.proved (fun _ h => by cases h) (by kernel_rfl) (fun _ h => by cases h) fnExactReadTag_row_tie rfl ⟨rfl, rfl⟩ (by kernel_rfl) rfl
    (fun f fn hf hfn => by
      obtain rfl : f = 6 := Option.some.inj ((show Tryd.prog.funcNamed "loop.example/g00207/laws.FnExactReadTag" = some 6 by kernel_rfl).symm.trans hf) |>.symm
      obtain rfl : fn = Tryd.f6 := (Option.some.inj (Tryd.func6.symm.trans hfn)).symm
      exact ⟨by kernel_rfl, fun j t ht => by
        rw [Tryd.params6] at ht
        have hm : t ∈ [9] := by simpa using Array.mem_of_getElem? ht
        have hall : ([9].all fun u => !Tryd.prog.wantsStandIn u) = true := by kernel_rfl
        exact (show Tryd.prog.wantsStandIn t = false by simpa using List.all_eq_true.1 hall t hm)⟩)
    (by kernel_rfl)
#print axioms fnExactReadTag_card
end Go.Proofs.YtpilaeoiagdoeaaDoor
