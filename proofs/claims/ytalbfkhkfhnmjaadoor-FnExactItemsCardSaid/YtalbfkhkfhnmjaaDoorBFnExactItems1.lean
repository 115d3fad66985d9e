/- Functions of the Go program as Lean functions, and proofs about them, merged out of this session's texts by its program bundle.py; conditions: those that each theorem states. -/
import Derived.Below
import Derived.ChangeOld
import Derived.Handed
import Derived.HandedShaped
import Derived.LaidMore
import Derived.Lay
import Derived.Lib.Bytealg
import Derived.Lib.SlTrimSet
import Derived.Lib.Strings
import Derived.OpenShut
import Derived.ProofKit
import Derived.SevenTiedAt
import Derived.ShutString
import Derived.SizedLaws
import Derived.Stop.Joined
import Derived.Test.YtalbfkhkfhnmjaaDoorCards
import Derived.Test.YtalbfkhkfhnmjaaDoorGTrim
import Derived.Test.YtalbfkhkfhnmjaaDoorGall
import Derived.Test.YtalbfkhkfhnmjaaDoorGimplItems
import Derived.Test.YtalbfkhkfhnmjaaDoorP0
import Derived.Test.YtalbfkhkfhnmjaaDoorPimplTrimmed
import Derived.Test.YtalbfkhkfhnmjaaDoorPimplVisibleOk
import Derived.Test.YtalbfkhkfhnmjaaDoorPimplisDigit
import Derived.Test.YtalbfkhkfhnmjaaDoorPimplisHex
import Derived.Test.YtalbfkhkfhnmjaaDoorPimplisVisible
import Derived.Test.YtalbfkhkfhnmjaaDoorPlawsFnExactItems
import Derived.Test.YtalbfkhkfhnmjaaDoorPlawseqStringS
import Derived.Test.YtalbfkhkfhnmjaaDoorPlawsheldStringS
import Derived.Test.YtalbfkhkfhnmjaaDoorPlawsmarkStringS
import Derived.Test.YtalbfkhkfhnmjaaDoorPlawsmarkText
import Derived.Test.YtalbfkhkfhnmjaaDoorPspecItems
import Derived.Test.YtalbfkhkfhnmjaaDoorPspecTrimmed
import Derived.Test.YtalbfkhkfhnmjaaDoorPspecVisibleOk
import Derived.Test.YtalbfkhkfhnmjaaDoorPspecl1Blank
import Derived.Test.YtalbfkhkfhnmjaaDoorPspecl1Hex
import Derived.Test.YtalbfkhkfhnmjaaDoorRows
import Derived.Test.YtalbfkhkfhnmjaaDoorTie
import Derived.WalkKit
namespace Go.Proofs.YtalbfkhkfhnmjaaDoor.RowAid
open Go
variable {H : Type} {enc : TypeId × Value → H}
theorem handed_both {a : Assume} {C : Checked} {os : Os} {f : FuncId} {fn : Func} {s : ChangeSpec} {conds : List PathCond} {apart fresh handsOn again : Bool} {X : World → Array Value → Prop}
    (hX : ∀ (w w' : World) (args : Array Value), w.heap = w'.heap → X w args → X w' args)
    (own : ownKnob C.prog.godebug = none) (started : os.Started) (noInit : C.prog.inits.idxOf? f = none) (hfn : C.prog.funcs[f]? = some fn)
    (witness : ∃ (w : World) (tape : Tape) (i : Input), w.os = os ∧ (w.forCall tape i).Shaped C.prog ∧ i.vars = [] ∧ Input.okWide C.prog (w.forCall tape i) .any w.heap.size f i ∧
      ((s.pre enc C.prog fn conds apart (w.forCall tape i).memory i.args ∧ X (w.forCall tape i).memory i.args) ∧ sizedMet enc C.prog fn (OpenSpec.ofChange s) apart (w.forCall tape i).memory i.args) ∧ a.holds C.prog (lone (Frame.enter C.prog f i.args .normal) [] (w.forCall tape i)))
    (contract : ∀ (W : World) (base : Nat) (args : Array Value) (ds gs : List (DataW H)) (before : List MemPlace),
      (∀ (j : Nat) t v, fn.params[j]? = some t → args[j]? = some v → Value.okWide C.prog W .any base t v) →
      DataW.Whole enc C.prog fn.params.toList s.vars apart W args.toList ds gs before →
      conds.all (PathCond.test C.prog ⟨fn.params.toList, ds, s.plain.varTypes C.prog, gs⟩) = true →
      (DataW.weightsEach C.prog (fn.params.toList ++ s.plain.varTypes C.prog) (ds ++ gs)).all (· ≤ reachBytes) = true → X W args → W.ShapedOpen C.prog →
      a.holds C.prog (lone (Frame.enter C.prog f args .normal) [] W) →
      Calls C.prog f args W fun e W' => ∃ v, e = .returned v ∧ s.post enc C.prog fn apart fresh handsOn again W args v W') :
    ReturnsInHanded a C os f .any (fun w args => (s.pre enc C.prog fn conds apart w args ∧ X w args) ∧ sizedMet enc C.prog fn (OpenSpec.ofChange s) apart w args) (s.post enc C.prog fn apart fresh handsOn again) := by
  refine returnsInHanded_of_calls own started noInit witness ?_
  intro w tape i _ hsh _ hok hpre hholds
  obtain ⟨_, _, _, fn', hfn', _, _, _, _, hval⟩ := hok
  have e : fn' = fn := Option.some.inj (hfn'.symm.trans hfn)
  subst e
  obtain ⟨⟨⟨ds, gs, before, hw, hc⟩, hx⟩, hz⟩ := hpre
  have hw' := DataW.Whole.of_heap (w' := w.forCall tape i) (by rfl) hw
  refine (contract (w.forCall tape i) w.heap.size i.args ds gs before hval hw' hc (hz.weights hw) (hX _ _ _ (by rfl) hx) hsh hholds).mono fun e W' ⟨v, he, hp⟩ => ?_
  subst he
  exact ChangeSpec.post_blind hp
end Go.Proofs.YtalbfkhkfhnmjaaDoor.RowAid
namespace Go.Proofs.YtalbfkhkfhnmjaaDoor.Q
open Go.RowKit Go.Proofs.YtalbfkhkfhnmjaaDoorW.PrintWords Go.Proofs.YtalbfkhkfhnmjaaDoorW.PrintLast Go.Proofs.YtalbfkhkfhnmjaaDoorW.PrintMore

theorem wrap_in {i : Int} (h0 : -9223372036854775808 ≤ i) (h1 : i ≤ 9223372036854775807) : wrap64 i = i := by unfold wrap64; omega
theorem wrap_next {i : Nat} {n : Nat} (h : i < n) (hn : n ≤ 4611686018427387904) : wrap64 ((i : Int) + 1) = ((i + 1 : Nat) : Int) := by unfold wrap64; omega

theorem toList_data (s : ByteArray) : s.toList = s.data.toList := ByteArray.toList_eq s
theorem eq_of_toList {a b : ByteArray} (h : a.toList = b.toList) : a = b := by
  rw [toList_data, toList_data] at h
  exact ByteArray.ext (Array.toList_inj.1 h)
theorem bt_get (s : ByteArray) (i : Nat) (h : i < s.size) : (bytesOf s)[i]? = some (bt s i) := by
  rw [← rd_bytesOf]
  have h1 : i < (bytesOf s).length := by rw [bytesOf_length]; exact h
  simp [rd, List.getD_eq_getElem?_getD, List.getElem?_eq_getElem h1]
theorem drop_bt (s : ByteArray) (i : Nat) (h : i < s.size) : (bytesOf s).drop i = bt s i :: (bytesOf s).drop (i + 1) := by
  have h1 : i < (bytesOf s).length := by rw [bytesOf_length]; exact h
  rw [List.drop_eq_getElem_cons h1]
  have := bt_get s i h
  rw [List.getElem?_eq_getElem h1] at this
  rw [Option.some.inj this]
theorem mem_bytes {s : ByteArray} {c : Int} (h : c ∈ bytesOf s) : 0 ≤ c ∧ c ≤ 255 := by
  unfold bytesOf at h
  obtain ⟨b, _, rfl⟩ := List.mem_map.1 h
  have := b.toNat_lt
  omega
theorem bytes_nums (l : List Int) (h : ∀ c ∈ l, 0 ≤ c ∧ c ≤ 255) : bytesOf (strOfNums l) = l := by
  unfold bytesOf
  rw [strOfNums_data, List.map_map]
  refine (List.map_congr_left fun c hc => ?_).trans (List.map_id l)
  have := h c hc
  simp only [Function.comp, UInt8.toNat_ofNat', id]
  omega
theorem nums_bytes (s : ByteArray) : strOfNums (bytesOf s) = s := by
  apply ByteArray.ext
  apply Array.toList_inj.1
  rw [strOfNums_data]
  unfold bytesOf
  rw [List.map_map]
  refine (List.map_congr_left fun c hc => ?_).trans (List.map_id _)
  simp
theorem bytes_inj {a b : ByteArray} (h : bytesOf a = bytesOf b) : a = b := by rw [← nums_bytes a, ← nums_bytes b, h]
theorem bytes_append (a b : ByteArray) : bytesOf (a ++ b) = bytesOf a ++ bytesOf b := by
  unfold bytesOf
  rw [← List.map_append]
  simp [ByteArray.data_append]

/-- A loop over bytes: what a round does with its state and a byte; an end ahead of time. -/
def runL {σ β : Type} (f : σ → Int → σ ⊕ β) (fin : σ → β) : List Int → σ → β
  | [], st => fin st
  | c :: cs, st => match f st c with
    | .inl st' => runL f fin cs st'
    | .inr b => b
/-- The printed loop comes to what 'runL' comes to, from some number of rounds on. -/
theorem ev_run {σ β : Type} (s : ByteArray) (I : σ → Nat → Prop) (f : σ → Int → σ ⊕ β) (fin : σ → β) (g : Nat → σ → Int → Option β) (K : Nat)
    (hstep : ∀ k st (i : Nat), K ≤ k → i < s.size → I st i → (∀ st', f st (bt s i) = .inl st' → g (k + 1) st i = g k st' ((i + 1 : Nat) : Int) ∧ I st' (i + 1)) ∧ (∀ b, f st (bt s i) = .inr b → g (k + 1) st i = some b))
    (hend : ∀ k st, K ≤ k → I st s.size → g (k + 1) st (s.size : Int) = some (fin st)) (st : σ) (h0 : I st 0) :
    Ev (fun k => g k st 0) (runL f fin (bytesOf s) st) := by
  have key : ∀ (d i : Nat) (st : σ), i + d = s.size → I st i → ∀ k, K + d < k → g k st (i : Int) = some (runL f fin ((bytesOf s).drop i) st) := by
    intro d
    induction d with
    | zero =>
      intro i st hd hI k hk
      obtain ⟨k, rfl⟩ : ∃ m, k = m + 1 := ⟨k - 1, by omega⟩
      have e : i = s.size := by omega
      subst e
      rw [hend k st (by omega) hI, List.drop_of_length_le (by rw [bytesOf_length]; exact Nat.le_refl _)]
      rfl
    | succ d ih =>
      intro i st hd hI k hk
      obtain ⟨k, rfl⟩ : ∃ m, k = m + 1 := ⟨k - 1, by omega⟩
      obtain ⟨h1, h2⟩ := hstep k st i (by omega) (by omega) hI
      rw [drop_bt s i (by omega)]
      show g (k + 1) st i = some (match f st (bt s i) with | .inl st' => runL f fin ((bytesOf s).drop (i + 1)) st' | .inr b => b)
      cases hf : f st (bt s i) with
      | inl st' =>
        obtain ⟨e, hI'⟩ := h1 st' hf
        rw [e]
        exact ih (i + 1) st' (by omega) hI' k (by omega)
      | inr b => exact h2 b hf
  refine ⟨K + s.size + 1, fun k hk => ?_⟩
  have := key s.size 0 st (by omega) h0 k (by omega)
  rw [List.drop_zero] at this
  exact this

/-- A loop that asks each byte. -/
theorem ev_all (s : ByteArray) (p : Int → Bool) (g : Nat → Int → Option Bool) (K : Nat)
    (h1 : ∀ k (i : Nat), K ≤ k → i < s.size → p (bt s i) = true → g (k + 1) i = g k ((i + 1 : Nat) : Int))
    (h0 : ∀ k (i : Nat), K ≤ k → i < s.size → p (bt s i) = false → g (k + 1) i = some false)
    (he : ∀ k, K ≤ k → g (k + 1) (s.size : Int) = some true) : Ev (fun k => g k 0) ((bytesOf s).all p) := by
  have h := ev_run (σ := Unit) (β := Bool) s (fun _ _ => True) (fun _ c => if p c = true then .inl () else .inr false) (fun _ => true) (fun k _ i => g k i) K
    (fun k st i hk hi _ => ⟨fun st' e => ⟨h1 k i hk hi (by
        by_cases hp : p (bt s i) = true
        · exact hp
        · rw [if_neg hp] at e; cases e), trivial⟩, fun b e => by
        by_cases hp : p (bt s i) = true
        · rw [if_pos hp] at e; cases e
        · rw [if_neg hp] at e
          obtain rfl : false = b := by injection e
          exact h0 k i hk hi (by simpa using hp)⟩)
    (fun k st hk _ => he k hk) () trivial
  have e : ∀ l : List Int, runL (σ := Unit) (β := Bool) (fun _ c => if p c = true then .inl () else .inr false) (fun _ => true) l () = l.all p := by
    intro l
    induction l with
    | nil => rfl
    | cons c cs ih =>
      rw [List.all_cons]
      unfold runL
      by_cases hp : p c = true
      · simp only [hp, if_true, Bool.true_and]; exact ih
      · simp only [(by simpa using hp : p c = false), Bool.false_and, Bool.false_eq_true, if_false]
  rw [e] at h
  exact h
theorem runL_all {β : Type} (p : Int → Bool) (r b : β) (l : List Int) : runL (σ := Unit) (fun _ c => if p c = true then .inl () else .inr b) (fun _ => r) l () = if l.all p = true then r else b := by
  induction l with
  | nil => rfl
  | cons c cs ih =>
    rw [List.all_cons]
    unfold runL
    by_cases hp : p c = true
    · simp only [hp, if_true, Bool.true_and]; exact ih
    · simp only [(by simpa using hp : p c = false), Bool.false_and, Bool.false_eq_true, if_false]
/-- A loop that asks each byte, and goes on behind it. -/
theorem ev_allr {β : Type} (s : ByteArray) (p : Int → Bool) (r b : β) (g : Nat → Int → Option β) (K : Nat)
    (h1 : ∀ k (i : Nat), K ≤ k → i < s.size → p (bt s i) = true → g (k + 1) i = g k ((i + 1 : Nat) : Int))
    (h0 : ∀ k (i : Nat), K ≤ k → i < s.size → p (bt s i) = false → g (k + 1) i = some b)
    (he : ∀ k, K ≤ k → g (k + 1) (s.size : Int) = some r) : Ev (fun k => g k 0) (if (bytesOf s).all p = true then r else b) := by
  rw [← runL_all p r b (bytesOf s)]
  refine ev_run (σ := Unit) s (fun _ _ => True) (fun _ c => if p c = true then .inl () else .inr b) (fun _ => r) (fun k _ i => g k i) K
    (fun k st i hk hi _ => ⟨fun st' e => ⟨h1 k i hk hi (by
        by_cases hp : p (bt s i) = true
        · exact hp
        · rw [if_neg hp] at e; cases e), trivial⟩, fun b' e => by
        by_cases hp : p (bt s i) = true
        · rw [if_pos hp] at e; cases e
        · rw [if_neg hp] at e
          obtain rfl : b = b' := by injection e
          exact h0 k i hk hi (by simpa using hp)⟩)
    (fun k st hk _ => he k hk) () trivial
/-- A loop that puts something behind a list for each byte. -/
theorem runL_flat {β : Type} (f : Int → List Int) (fin : List Int → β) (l st : List Int) : runL (fun st c => .inl (st ++ f c)) fin l st = fin (st ++ l.flatMap f) := by
  induction l generalizing st with
  | nil => simp [runL]
  | cons c cs ih =>
    unfold runL
    simp only [ih, List.flatMap_cons, List.append_assoc]
theorem ev_const {α : Type} {x : Option α} {r : α} (h : x = some r) : Ev (fun _ => x) r := ⟨0, fun _ _ => h⟩
theorem ev_eq {α : Type} {g : Nat → Option α} {r r' : α} (h : Ev g r) (e : r = r') : Ev g r' := e ▸ h
/-- From a number of rounds on: a law that holds at each such number. -/
theorem ev_now {α : Type} {g : Nat → Option α} {r : α} (K : Nat) (h : ∀ k, K ≤ k → g k = some r) : Ev g r := ⟨K, h⟩
theorem all_congr' {l : List Int} {p q : Int → Bool} (h : ∀ c ∈ l, p c = q c) : l.all p = l.all q := by
  induction l with
  | nil => rfl
  | cons a l ih =>
    rw [List.all_cons, List.all_cons, h a List.mem_cons_self, ih fun c hc => h c (List.mem_cons_of_mem _ hc)]
end Go.Proofs.YtalbfkhkfhnmjaaDoor.Q
namespace Go.Proofs.YtalbfkhkfhnmjaaDoor.Q
set_option linter.unusedVariables false
set_option linter.unusedSimpArgs false
open Go.RowKit Go.Proofs.YtalbfkhkfhnmjaaDoor.P Go.Proofs.YtalbfkhkfhnmjaaDoorW.PrintWords Go.Proofs.YtalbfkhkfhnmjaaDoorW.PrintLast Go.Proofs.YtalbfkhkfhnmjaaDoorW.PrintMore

theorem markText_loop (d : Nat) : ∀ (n : Int) (s : ByteArray), 0 ≤ n → n < 10 ^ d → n ≤ 9223372036854775807 → s.size + d + 1 ≤ 9223372036854775807 → ∃ t, Ev (fun k => laws_markText.l0 k n s) t := by
  induction d with
  | zero =>
    intro n s h0 h1 h2 h3
    have hn : n = 0 := by simp at h1; omega
    subst hn
    refine ⟨_, Ev.step (f := fun _ => some ((⟨#[109]⟩ : ByteArray) ++ s)) (fun k => ?_) (Ev.now _)⟩
    simp only [laws_markText.l0]
    rw [if_neg (by omega), if_pos (by omega)]
  | succ d ih =>
    intro n s h0 h1 h2 h3
    by_cases hn : n > 0
    · have hd : Int.tdiv n 10 = n / 10 := Int.tdiv_eq_ediv_of_nonneg h0
      have hq : n / 10 < 10 ^ d := by rw [Int.pow_succ] at h1; omega
      obtain ⟨t, ht⟩ := ih (n / 10) (strOfNums [(wrap64 (48 + (Int.tmod n 10))) % 256] ++ s) (by omega) hq (by omega) (by
        rw [ByteArray.size_append]
        have : (strOfNums [(wrap64 (48 + (Int.tmod n 10))) % 256]).size = 1 := by rfl
        omega)
      refine ⟨t, Ev.step (f := fun k => laws_markText.l0 k (n / 10) (strOfNums [(wrap64 (48 + (Int.tmod n 10))) % 256] ++ s)) (fun k => ?_) ht⟩
      simp only [laws_markText.l0]
      rw [if_pos hn]
      simp only [Option.bind_some]
      rw [if_pos (by have : (strOfNums [(wrap64 (48 + (Int.tmod n 10))) % 256]).size = 1 := by rfl
                     omega), hd, wrap_in (by omega) (by omega)]
    · refine ⟨_, Ev.step (f := fun _ => some ((⟨#[109]⟩ : ByteArray) ++ s)) (fun k => ?_) (Ev.now _)⟩
      simp only [laws_markText.l0]
      rw [if_neg hn, if_pos (by omega)]
theorem markText_some (n : Int) (h : n ≤ 9223372036854775807) : ∃ t, Ev (fun k => laws_markText.f k n) t := by
  unfold laws_markText.f
  by_cases h0 : n ≤ 0
  · simp only [if_pos h0]
    exact ⟨_, Ev.now _⟩
  · simp only [if_neg h0]
    exact markText_loop 19 n ⟨#[]⟩ (by omega) (by omega) h (by decide)
/-- The text of a mark's number. -/
noncomputable def mT (n : Int) : ByteArray := Classical.epsilon fun t => Ev (fun k => laws_markText.f k n) t
theorem mT_ev (n : Int) (h : n ≤ 9223372036854775807) : Ev (fun k => laws_markText.f k n) (mT n) := Classical.epsilon_spec (p := fun t => Ev (fun k => laws_markText.f k n) t) (markText_some n h)
theorem bytes_extract (s : ByteArray) (a b : Nat) : bytesOf (s.extract a b) = ((bytesOf s).drop a).take (b - a) := by
  unfold bytesOf
  rw [Lib.extract_data, List.map_take, List.map_drop]
theorem bytes_last (s : ByteArray) (h : 0 < s.size) : bytesOf s = bytesOf (s.extract 0 (s.size - 1)) ++ [bt s ((s.size - 1 : Nat) : Int)] := by
  rw [bytes_extract, List.drop_zero, Nat.sub_zero]
  have h1 := drop_bt s (s.size - 1) (by omega)
  have h2 : (bytesOf s).drop (s.size - 1 + 1) = [] := List.drop_of_length_le (by rw [bytesOf_length]; omega)
  rw [h2] at h1
  rw [← h1, List.take_append_drop]
theorem bytes_first (s : ByteArray) (h : 0 < s.size) : bytesOf s = bt s 0 :: bytesOf (s.extract 1 s.size) := by
  rw [bytes_extract]
  have h1 := drop_bt s 0 h
  rw [List.drop_zero] at h1
  rw [List.take_of_length_le (by rw [List.length_drop, bytesOf_length]; exact Nat.le_refl _)]
  exact h1
theorem size_extract (s : ByteArray) (a b : Nat) (hb : b ≤ s.size) : (s.extract a b).size = b - a := by
  rw [← bytesOf_length, bytes_extract, List.length_take, List.length_drop, bytesOf_length]
  omega
theorem toList_nil (s : ByteArray) : s.toList = [] ↔ s.size = 0 := by
  rw [toList_data, ← data_length]
  exact List.length_eq_zero_iff.symm
theorem bytes_nil (s : ByteArray) (h : s.size = 0) : bytesOf s = [] := List.eq_nil_of_length_eq_zero (by rw [bytesOf_length]; exact h)
theorem bytes_ofList (l : List UInt8) : bytesOf ⟨l.toArray⟩ = l.map fun b => (b.toNat : Int) := by
  unfold bytesOf
  rfl
theorem bytes_two (s : ByteArray) (i : Nat) (h : i + 2 ≤ s.size) : bytesOf (s.extract i (i + 2)) = [bt s (i : Int), bt s ((i + 1 : Nat) : Int)] := by
  rw [bytes_extract, drop_bt s i (by omega), drop_bt s (i + 1) (by omega), show i + 2 - i = 2 from by omega]
  rfl
def blaB (c : Int) : Bool := decide (c = 32) || decide (c = 9)
/-- A list without the blanks at its beginning, at its end. -/
def dropL (l : List Int) : List Int := l.dropWhile blaB
def dropR (l : List Int) : List Int := (l.reverse.dropWhile blaB).reverse
def trimN (l : List Int) : List Int := dropL (dropR l)
theorem dropR_nil : dropR [] = [] := rfl
theorem dropR_snoc (l : List Int) (c : Int) : dropR (l ++ [c]) = if blaB c = true then dropR l else l ++ [c] := by
  unfold dropR
  rw [List.reverse_append, List.reverse_singleton, List.singleton_append, List.dropWhile_cons]
  split
  · rfl
  · simp
theorem dropL_cons (l : List Int) (c : Int) : dropL (c :: l) = if blaB c = true then dropL l else c :: l := by
  unfold dropL
  rw [List.dropWhile_cons]
theorem drop_comm (l : List Int) : dropR (dropL l) = dropL (dropR l) := by
  induction l with
  | nil => rfl
  | cons c cs ih =>
    rw [dropL_cons]
    by_cases h : blaB c = true
    · rw [if_pos h, ih]
      have key : ∀ l : List Int, dropL (dropR (c :: l)) = dropL (dropR l) := by
        intro l
        have aux : ∀ n : Nat, ∀ l : List Int, l.length = n → dropL (dropR (c :: l)) = dropL (dropR l) := by
          intro n
          induction n with
          | zero =>
            intro l hl
            obtain rfl := List.eq_nil_of_length_eq_zero hl
            have : dropR [c] = [] := by
              have := dropR_snoc [] c
              rw [List.nil_append, if_pos h] at this
              exact this
            rw [this, dropR_nil]
          | succ n ihn =>
            intro l hl
            obtain ⟨l', x, rfl⟩ : ∃ l' x, l = l' ++ [x] := ⟨l.dropLast, l.getLast (by intro e; rw [e] at hl; cases hl), (List.dropLast_concat_getLast _).symm⟩
            rw [← List.cons_append, dropR_snoc, dropR_snoc]
            by_cases hx : blaB x = true
            · rw [if_pos hx, if_pos hx]
              exact ihn l' (by simpa using hl)
            · rw [if_neg hx, if_neg hx, List.cons_append, dropL_cons, if_pos h]
        exact aux _ l rfl
      exact (key cs).symm
    · rw [if_neg h]
      have : ∃ l', dropR (c :: cs) = c :: l' := by
        have aux : ∀ n : Nat, ∀ l : List Int, l.length = n → ∃ l', dropR (c :: l) = c :: l' := by
          intro n
          induction n with
          | zero =>
            intro l hl
            obtain rfl := List.eq_nil_of_length_eq_zero hl
            have := dropR_snoc [] c
            rw [List.nil_append, if_neg h] at this
            exact ⟨[], this⟩
          | succ n ihn =>
            intro l hl
            obtain ⟨l', x, rfl⟩ : ∃ l' x, l = l' ++ [x] := ⟨l.dropLast, l.getLast (by intro e; rw [e] at hl; cases hl), (List.dropLast_concat_getLast _).symm⟩
            rw [← List.cons_append, dropR_snoc]
            by_cases hx : blaB x = true
            · rw [if_pos hx]
              exact ihn l' (by simpa using hl)
            · rw [if_neg hx]
              exact ⟨l' ++ [x], rfl⟩
        exact aux _ cs rfl
      obtain ⟨l', e⟩ := this
      rw [e, dropL_cons, if_neg h]
theorem spec_l1Blank_is (c : Int) : spec_l1Blank.f c = some (blaB c) := by
  unfold spec_l1Blank.f blaB
  by_cases h : c = 32
  · simp [h]
  · by_cases h2 : c = 9 <;> simp [h, h2]
theorem spec_Trimmed_right (n : Nat) : ∀ s : ByteArray, s.size = n → n ≤ 4611686018427387904 → Ev (fun k => spec_Trimmed.l1 k s) (strOfNums (dropR (bytesOf s))) := by
  induction n with
  | zero =>
    intro s hs _
    refine Ev.step (f := fun _ => some s) (fun k => ?_) (ev_eq (Ev.now _) ?_)
    · simp only [spec_Trimmed.l1]
      rw [if_pos ((toList_nil s).2 hs)]
    · rw [bytes_nil s hs, dropR_nil, ← bytes_nil s hs, nums_bytes]
  | succ n ih =>
    intro s hs hn
    have e := bytes_last s (by omega)
    have hi : wrap64 ((s.size : Int) - 1) = ((s.size - 1 : Nat) : Int) := by rw [wrap_in (by omega) (by omega)]; omega
    rw [e, dropR_snoc, ← e]
    by_cases hb : blaB (bt s ((s.size - 1 : Nat) : Int)) = true
    · rw [if_pos hb]
      refine Ev.step (f := fun k => spec_Trimmed.l1 k (s.extract 0 (s.size - 1))) (fun k => ?_) (ih _ (by rw [size_extract s _ _ (by omega)]; omega) (by omega))
      simp only [spec_Trimmed.l1]
      rw [if_neg (by rw [toList_nil]; omega), hi, if_pos (by omega), if_pos (by omega), spec_l1Blank_is]
      simp only [Option.bind_some]
      rw [if_pos hb, if_pos (by omega), Int.toNat_natCast]
    · rw [if_neg hb, nums_bytes]
      refine Ev.step (f := fun _ => some s) (fun k => ?_) (Ev.now _)
      simp only [spec_Trimmed.l1]
      rw [if_neg (by rw [toList_nil]; omega), hi, if_pos (by omega), if_pos (by omega), spec_l1Blank_is]
      simp only [Option.bind_some]
      rw [if_neg hb]
theorem spec_Trimmed_left (n : Nat) : ∀ s : ByteArray, s.size = n → n ≤ 4611686018427387904 → Ev (fun k => spec_Trimmed.l0 k s) (strOfNums (dropR (dropL (bytesOf s)))) := by
  induction n with
  | zero =>
    intro s hs h0
    refine Ev.step (f := fun k => spec_Trimmed.j1 k s) (fun k => ?_) (Ev.step (f := fun k => spec_Trimmed.l1 k s) (fun k => ?_) (ev_eq (spec_Trimmed_right 0 s hs h0) ?_))
    · simp only [spec_Trimmed.l0]
      rw [if_pos ((toList_nil s).2 hs)]
    · simp only [spec_Trimmed.j1]
    · rw [bytes_nil s hs]; rfl
  | succ n ih =>
    intro s hs hn
    have e := bytes_first s (by omega)
    rw [e, dropL_cons, ← e]
    by_cases hb : blaB (bt s 0) = true
    · rw [if_pos hb]
      refine Ev.step (f := fun k => spec_Trimmed.l0 k (s.extract 1 s.size)) (fun k => ?_) (ih _ (by rw [size_extract s _ _ (by omega)]; omega) (by omega))
      simp only [spec_Trimmed.l0]
      rw [if_neg (by rw [toList_nil]; omega), if_pos (by omega), spec_l1Blank_is]
      simp only [Option.bind_some]
      rw [if_pos hb, if_pos (by omega)]
    · rw [if_neg hb]
      refine Ev.step (f := fun k => spec_Trimmed.j1 k s) (fun k => ?_) (Ev.step (f := fun k => spec_Trimmed.l1 k s) (fun k => ?_) (spec_Trimmed_right _ s rfl (by omega)))
      · simp only [spec_Trimmed.l0]
        rw [if_neg (by rw [toList_nil]; omega), if_pos (by omega), spec_l1Blank_is]
        simp only [Option.bind_some]
        rw [if_neg hb]
      · simp only [spec_Trimmed.j1]
/-- A text without the blanks at its ends. -/
def trimT (s : ByteArray) : ByteArray := strOfNums (trimN (bytesOf s))
theorem spec_Trimmed_ev (s : ByteArray) (hs : s.size ≤ 4611686018427387904) : Ev (fun k => spec_Trimmed.f k s) (trimT s) := by
  unfold spec_Trimmed.f trimT trimN
  rw [← drop_comm]
  exact spec_Trimmed_left _ s rfl hs
theorem bla_u8 (b : UInt8) : ([32, 9] : List UInt8).contains b = blaB (b.toNat : Int) := by
  have n32 : (b.toNat : Int) = 32 → b = 32 := fun h => by
    refine UInt8.toNat_inj.1 ?_
    have e : b.toNat = 32 := by omega
    rw [e]; rfl
  have n9 : (b.toNat : Int) = 9 → b = 9 := fun h => by
    refine UInt8.toNat_inj.1 ?_
    have e : b.toNat = 9 := by omega
    rw [e]; rfl
  have h1 : b = 32 ↔ (b.toNat : Int) = 32 := ⟨fun h => by rw [h]; rfl, n32⟩
  have h2 : b = 9 ↔ (b.toNat : Int) = 9 := ⟨fun h => by rw [h]; rfl, n9⟩
  unfold blaB
  rw [show decide ((b.toNat : Int) = 32) = decide (b = 32) from decide_eq_decide.2 h1.symm, show decide ((b.toNat : Int) = 9) = decide (b = 9) from decide_eq_decide.2 h2.symm]
  by_cases a : b = 32
  · simp [a]
  · by_cases c : b = 9 <;> simp [a, c]
theorem dropW_map (l : List UInt8) : (l.dropWhile (([32, 9] : List UInt8).contains ·)).map (fun b => (b.toNat : Int)) = dropL (l.map fun b => (b.toNat : Int)) := by
  induction l with
  | nil => rfl
  | cons b l ih =>
    rw [List.map_cons, dropL_cons, List.dropWhile_cons, bla_u8]
    split
    · exact ih
    · rfl
theorem impl_Trimmed_is (s : ByteArray) (hs : s.size ≤ 9223372036854775807) : impl_Trimmed.f s = some (trimT s) := by
  unfold impl_Trimmed.f strings_Trim.f
  rw [if_pos ⟨hs, by decide, by decide⟩]
  refine congrArg some (bytes_inj ?_)
  have h0 : ∀ c ∈ trimN (bytesOf s), 0 ≤ c ∧ c ≤ 255 := by
    intro c hc
    refine mem_bytes (s := s) ?_
    unfold trimN dropL dropR at hc
    have h1 := (List.dropWhile_sublist _).subset hc
    rw [List.mem_reverse] at h1
    have h2 := (List.dropWhile_sublist _).subset h1
    rwa [List.mem_reverse] at h2
  unfold trimT
  rw [bytes_nums _ h0, bytes_ofList]
  unfold Lib.trimS Lib.trimLeftS Lib.trimRightS trimN dropR
  rw [show ((⟨#[32, 9]⟩ : ByteArray).data.toList) = ([32, 9] : List UInt8) from rfl, dropW_map, List.map_reverse, dropW_map, List.map_reverse]
  rfl
def visB (c : Int) : Bool := decide (32 ≤ c) && decide (c ≤ 126) || decide (c = 9)
def digB (c : Int) : Bool := decide (48 ≤ c) && decide (c ≤ 57)
def letB (c : Int) : Bool := decide (97 ≤ c) && decide (c ≤ 122) || decide (65 ≤ c) && decide (c ≤ 90)
def hexB (c : Int) : Bool := digB c || decide (97 ≤ c) && decide (c ≤ 102) || decide (65 ≤ c) && decide (c ≤ 70)
def tagB (c : Int) : Bool := decide (33 ≤ c) && decide (c ≤ 126) && decide (c ≠ 34)
def tokB (c : Int) : Bool := letB c || digB c || decide (c ∈ [33, 35, 36, 37, 38, 39, 42, 43, 45, 46, 94, 95, 124, 126, 96])
def plaB (c : Int) : Bool := letB c || digB c || decide (c ∈ [45, 46, 95, 126, 47, 58, 64, 33, 36, 38, 39, 40, 41, 42, 43, 44, 59, 61])

theorem impl_isVisible_is (c : Int) : impl_isVisible.f c = some (visB c) := by
  unfold impl_isVisible.f visB
  by_cases h1 : c ≥ 32 <;> by_cases h2 : c ≤ 126 <;> simp [h1, h2] <;> (try omega) <;> (try (by_cases h3 : c = 9 <;> simp [h3] <;> omega))
theorem impl_isDigit_is (c : Int) : impl_isDigit.f c = some (digB c) := by
  unfold impl_isDigit.f digB
  by_cases h1 : c ≥ 48 <;> simp [h1] <;> omega
theorem impl_isHex_is (c : Int) : impl_isHex.f c = some (hexB c) := by
  unfold impl_isHex.f hexB
  rw [impl_isDigit_is]
  cases h0 : digB c <;> by_cases h1 : c ≥ 97 <;> by_cases h2 : c ≤ 102 <;> by_cases h3 : c ≥ 65 <;> by_cases h4 : c ≤ 70 <;> simp [h1, h2, h3, h4] <;> omega

/-- A law on bytes, tried at each. -/
theorem byte_cases {p : Int → Prop} (h : ∀ n : Fin 256, p (n.val : Int)) (c : Int) (h0 : 0 ≤ c) (h1 : c ≤ 255) : p c := by
  have := h ⟨c.toNat, by omega⟩
  rwa [show ((⟨c.toNat, by omega⟩ : Fin 256).val : Int) = c from by show (c.toNat : Int) = c; omega] at this
/-- A hexadecimal digit's value, or -1. -/
def hexV (c : Int) : Int := if digB c = true then c - 48 else if 97 ≤ c ∧ c ≤ 102 then c - 87 else if 65 ≤ c ∧ c ≤ 70 then c - 55 else -1
theorem hexV_neg (c : Int) : decide (hexV c < 0) = !hexB c := by
  unfold hexV hexB
  cases h0 : digB c
  · by_cases h1 : 97 ≤ c ∧ c ≤ 102
    · simp [h1]; omega
    · by_cases h2 : 65 ≤ c ∧ c ≤ 70
      · have h1' : (decide (97 ≤ c) && decide (c ≤ 102)) = false := by simp; omega
        simp [h1, h1', h2]; omega
      · have h1' : (decide (97 ≤ c) && decide (c ≤ 102)) = false := by simp; omega
        have h2' : (decide (65 ≤ c) && decide (c ≤ 70)) = false := by simp; omega
        simp [h1, h1', h2, h2']
  · unfold digB at h0
    simp at h0
    simp
    omega
theorem spec_l1Hex_is (c : Int) (h0 : 0 ≤ c) (h1 : c ≤ 255) (k : Nat) (hk : 2 ≤ k) : spec_l1Hex.f k c = some (hexV c) :=
  at_rounds (fun k => spec_l1Hex.mono c k) hk (byte_cases (p := fun c => spec_l1Hex.f 2 c = some (hexV c)) (by decide +kernel) c h0 h1)
/-- 'all' over a predicate. -/
theorem all_vis (s : ByteArray) (hs : s.size ≤ 9223372036854775807) : impl_all.f s 55 = some ((bytesOf s).all visB) := by
  unfold impl_all.f
  rw [if_pos hs]
  simp only [Nat.reduceEqDiff, if_true, if_false, reduceIte]
  rw [all_congr' fun c hc => (by rw [impl_isVisible_is]; cases visB c <;> rfl : (impl_isVisible.f c == some true) = visB c)]
theorem all_hex (s : ByteArray) (hs : s.size ≤ 9223372036854775807) : impl_all.f s 49 = some ((bytesOf s).all hexB) := by
  unfold impl_all.f
  rw [if_pos hs]
  simp only [Nat.reduceEqDiff, if_true, if_false, reduceIte]
  rw [all_congr' fun c hc => (by rw [impl_isHex_is]; cases hexB c <;> rfl : (impl_isHex.f c == some true) = hexB c)]
theorem all_dig (s : ByteArray) (hs : s.size ≤ 9223372036854775807) : impl_all.f s 72 = some ((bytesOf s).all digB) := by
  unfold impl_all.f
  rw [if_pos hs]
  simp only [Nat.reduceEqDiff, if_true, if_false, reduceIte]
  rw [all_congr' fun c hc => (by rw [impl_isDigit_is]; cases digB c <;> rfl : (impl_isDigit.f c == some true) = digB c)]
def visOk (s : ByteArray) : Bool := decide (s.size ≤ 400) && (bytesOf s).all visB
theorem spec_VisibleOk_ev (s : ByteArray) (hs : s.size ≤ 4611686018427387904) : Ev (fun k => spec_VisibleOk.f k s) (visOk s) := by
  unfold spec_VisibleOk.f visOk
  by_cases h : (s.size : Int) > 400
  · simp only [if_pos h]
    exact ev_const (by rw [decide_eq_false (by omega), Bool.false_and])
  · simp only [if_neg h]
    rw [decide_eq_true (by omega), Bool.true_and]
    refine ev_all s visB (fun k i => spec_VisibleOk.l0 k s i) 0 (fun k i _ hi hp => ?_) (fun k i _ hi hp => ?_) (fun k _ => ?_)
    · simp only [spec_VisibleOk.l0]
      rw [if_pos (by omega), if_pos (by omega), wrap_next hi hs]
      unfold visB at hp
      by_cases h1 : bt s i < 32
      · have h9 : bt s i = 9 := by simp at hp; omega
        rw [if_pos h1, if_pos h9]
      · rw [if_neg h1]
        by_cases h2 : bt s i > 126
        · have h9 : bt s i = 9 := by simp at hp; omega
          rw [if_pos h2, if_pos h9]
        · rw [if_neg h2]
    · simp only [spec_VisibleOk.l0]
      rw [if_pos (by omega), if_pos (by omega)]
      unfold visB at hp
      simp at hp
      by_cases h1 : bt s i < 32
      · rw [if_pos h1, if_neg hp.2]
      · rw [if_neg h1, if_pos (by omega), if_neg hp.2]
    · simp only [spec_VisibleOk.l0]
      rw [if_neg (by omega)]
theorem impl_VisibleOk_is (s : ByteArray) (hs : s.size ≤ 4611686018427387904) : impl_VisibleOk.f s = some (visOk s) := by
  unfold impl_VisibleOk.f visOk
  by_cases h : (s.size : Int) ≤ 400
  · rw [if_pos h, all_vis s (by omega), decide_eq_true (by omega), Bool.true_and]; rfl
  · rw [if_neg h, decide_eq_false (by omega), Bool.false_and]
theorem rd_i (l : List ByteArray) (i : Nat) (h : i < l.length) : rdOf ByteArray.empty l (i : Int) = l[i] := by
  simp [rdOf, List.getD_eq_getElem?_getD, h]
theorem eqTexts_self (l : List ByteArray) (hl : l.length ≤ 1048576) : Ev (fun k => laws_eqStringS.f k l l) true := by
  unfold laws_eqStringS.f
  simp only [if_true]
  have key : ∀ (n i : Nat), i + n = l.length → Ev (fun k => laws_eqStringS.l0 k l l (i : Int)) true := by
    intro n
    induction n with
    | zero =>
      intro i hd
      refine Ev.step (f := fun _ => some true) (fun k => ?_) (Ev.now _)
      simp only [laws_eqStringS.l0]
      rw [if_neg (by omega)]
    | succ n ih =>
      intro i hd
      refine Ev.step (fun k => ?_) (ih (i + 1) (by omega))
      simp only [laws_eqStringS.l0]
      have hw2 : wrap64 ((i : Int) + 1) = ((i + 1 : Nat) : Int) := by rw [wrap_in (by omega) (by omega)]; omega
      rw [if_pos (by omega), if_pos (by omega), if_pos (by omega), if_pos trivial, hw2]
  exact key l.length 0 (by omega)
/-- A list's marks. -/
noncomputable def mkS (m : Int) : List ByteArray → List ByteArray
  | [] => []
  | _ :: xs => mT m :: mkS (m + 1) xs
theorem markStringS_loop (B : List ByteArray) : ∀ (A : List ByteArray) (m : Int), 0 ≤ m → m + B.length ≤ 9000000 → A.length + B.length ≤ 9000000 →
    Ev (fun k => laws_markStringS.l0 k (A ++ B) m (A.length : Int)) (m + B.length, A ++ mkS m B) := by
  induction B with
  | nil =>
    intro A m h0 h1 h2
    refine Ev.step (f := fun _ => some (m, A)) (fun k => ?_) (ev_eq (Ev.now _) (by simp [mkS]))
    simp only [laws_markStringS.l0]
    rw [List.append_nil, if_neg (by omega)]
  | cons b B ih =>
    intro A m h0 h1 h2
    rw [List.length_cons] at h1 h2
    have hn := ih (A ++ [mT m]) (m + 1) (by omega) (by omega) (by rw [List.length_append, List.length_singleton]; omega)
    rw [List.length_append, List.length_singleton, List.append_assoc] at hn
    refine Ev.step (f := fun k => (laws_markText.f k m).bind fun t101 => laws_markStringS.l0 k (A ++ ([t101] ++ B)) (m + 1) ((A.length + 1 : Nat) : Int)) (fun k => ?_) (Ev.bind (mT_ev m (by omega)) (ev_eq hn ?_))
    · simp only [laws_markStringS.l0]
      have h0 : (0 : Int) ≤ (A.length : Int) := by omega
      rw [if_pos (by rw [List.length_append, List.length_cons]; omega), wrap_in (i := m + 1) (by omega) (by omega), wrap_in (i := (A.length : Int) + 1) (by omega) (by omega)]
      simp only [if_pos h0, Int.toNat_natCast]
      congr 1
      funext t
      simp
    · rw [List.append_assoc]
      simp only [mkS, List.length_cons, List.singleton_append]
      congr 1
      omega
theorem markStringS_ev (l : List ByteArray) (hl : l.length ≤ 1048576) : Ev (fun k => laws_markStringS.f k l 1) (1 + (l.length : Int), mkS 1 l) := by
  unfold laws_markStringS.f
  exact markStringS_loop l [] 1 (by decide) (by omega) (by simp; omega)
theorem mkS_length (l : List ByteArray) : ∀ m, (mkS m l).length = l.length := by
  induction l with
  | nil => intro m; rfl
  | cons a l ih => intro m; simp [mkS, ih]
theorem heldStringS_loop (B : List ByteArray) : ∀ (A : List ByteArray) (m : Int), 0 ≤ m → m + B.length ≤ 9000000 → A.length + B.length ≤ 9000000 →
    Ev (fun k => laws_heldStringS.l0 k (A ++ mkS m B) m (A.length : Int)) (m + B.length) := by
  induction B with
  | nil =>
    intro A m h0 h1 h2
    refine Ev.step (f := fun _ => some m) (fun k => ?_) (ev_eq (Ev.now _) (by simp))
    have e : A ++ mkS m [] = A := by simp [mkS]
    rw [e]
    simp only [laws_heldStringS.l0]
    rw [if_neg (by omega)]
  | cons b B ih =>
    intro A m h0 h1 h2
    rw [List.length_cons] at h1 h2
    have hn := ih (A ++ [mT m]) (m + 1) (by omega) (by omega) (by rw [List.length_append, List.length_singleton]; omega)
    rw [List.length_append, List.length_singleton, List.append_assoc] at hn
    have hlen : (A ++ mkS m (b :: B)).length = A.length + (B.length + 1) := by rw [List.length_append, mkS_length, List.length_cons]
    have hrd : rdOf ByteArray.empty (A ++ mkS m (b :: B)) (A.length : Int) = mT m := by
      rw [rd_i _ _ (by rw [hlen]; omega)]
      simp [mkS]
    refine Ev.step (f := fun k => (laws_markText.f k m).bind fun t102 => if (mT m).toList = t102.toList then laws_heldStringS.l0 k (A ++ mkS m (b :: B)) (m + 1) ((A.length + 1 : Nat) : Int) else some (-1)) (fun k => ?_) (Ev.bind (mT_ev m (by omega)) ?_)
    · simp only [laws_heldStringS.l0]
      rw [if_pos (by rw [hlen]; omega), if_pos (by omega), hrd, wrap_in (i := m + 1) (by omega) (by omega), wrap_in (i := (A.length : Int) + 1) (by omega) (by omega)]
      rfl
    · simp only [if_true]
      refine ev_eq hn ?_
      rw [List.length_cons]
      omega
theorem heldStringS_ev (l : List ByteArray) (hl : l.length ≤ 1048576) : Ev (fun k => laws_heldStringS.f k (mkS 1 l) 1) (1 + (l.length : Int)) := by
  unfold laws_heldStringS.f
  exact heldStringS_loop l [] 1 (by decide) (by omega) (by simp; omega)
theorem trim_same (p : ByteArray) (h : p.size ≤ 9223372036854775807) : trimS p = trimT p := by
  have h1 := trimmed_is p h
  rw [impl_Trimmed_is p h] at h1
  exact (Option.some.inj h1).symm
theorem items_put_ev (s : ByteArray) (hs : s.size ≤ 400) (out : List ByteArray) (ho : out.length ≤ 1000) (fr i : Nat) (hf : fr ≤ i) (hi : i ≤ s.size) (op : Bool) (r : List ByteArray)
    (h : Ev (fun k => spec_Items.l0 k s (out ++ itemL (s.extract fr i)) ((i + 1 : Nat) : Int) op ((i + 1 : Nat) : Int)) r) : Ev (fun k => spec_Items.j1 k s out (fr : Int) op (i : Int) true) r := by
  have hz : (s.extract fr i).size ≤ 400 := by rw [ByteArray.size_extract]; omega
  have hw : wrap64 ((i : Int) + 1) = ((i + 1 : Nat) : Int) := by rw [wrap_in (by omega) (by omega)]; omega
  refine Ev.step (f := fun k => (spec_Trimmed.f k (s.extract fr i)).bind fun t105 => (if t105.toList = ([] : List UInt8) then (spec_Items.l0 k s out ((i + 1 : Nat) : Int) op ((i + 1 : Nat) : Int)) else (if out.length < 8796093022208 then (spec_Items.l0 k s (out ++ [t105]) ((i + 1 : Nat) : Int) op ((i + 1 : Nat) : Int)) else (none)))) (fun k => ?_) (Ev.bind (spec_Trimmed_ev _ (by omega)) ?_)
  · simp only [spec_Items.j1]
    rw [if_pos trivial, if_pos (by omega), if_pos (by omega), if_pos (by omega), Int.toNat_natCast, Int.toNat_natCast, hw]
  · have ht := trim_same (s.extract fr i) (by omega)
    unfold itemL at h
    rw [ht] at h
    by_cases c : (trimT (s.extract fr i)).toList = []
    · simp only [if_pos c] at h ⊢
      rw [List.append_nil] at h
      exact h
    · have h8 : out.length < 8796093022208 := by omega
      simp only [if_neg c, if_pos h8] at h ⊢
      exact h
theorem items_end (s : ByteArray) (hs : s.size ≤ 400) (out : List ByteArray) (ho : out.length ≤ 1000) (fr : Nat) (hf : fr ≤ s.size) (op : Bool) : Ev (fun k => spec_Items.l0 k s out (fr : Int) op (s.size : Int)) (out ++ itemL (s.extract fr s.size)) := by
  have h := items_put_ev s hs out ho fr s.size hf (Nat.le_refl _) op (out ++ itemL (s.extract fr s.size)) (Ev.step (f := fun _ => some (out ++ itemL (s.extract fr s.size))) (fun k => by
    simp only [spec_Items.l0]
    rw [if_neg (by omega)]) (Ev.now _))
  refine Ev.step (fun k => ?_) h
  simp only [spec_Items.l0]
  rw [if_pos (by omega), if_pos trivial]
theorem spec_Items_loop (s : ByteArray) (hs : s.size ≤ 400) (n : Nat) : ∀ (i fr : Nat) (op : Bool) (out : List ByteArray), i ≤ s.size → fr ≤ i → s.size ≤ i + n → out.length ≤ fr → Ev (fun k => spec_Items.l0 k s out (fr : Int) op (i : Int)) (itemsG s n out fr op i) := by
  induction n with
  | zero =>
    intro i fr op out hi hf hn ho
    have e : i = s.size := by omega
    subst e
    exact items_end s hs out (by omega) fr hf op
  | succ n ih =>
    intro i fr op out hi hf hn ho
    rw [itemsG]
    by_cases hlt : i < s.size
    · rw [if_pos hlt]
      have hw : wrap64 ((i : Int) + 1) = ((i + 1 : Nat) : Int) := by rw [wrap_in (by omega) (by omega)]; omega
      have hne : ¬ (i : Int) = (s.size : Int) := by omega
      have l0 : ∀ k, spec_Items.l0 (k + 1) s out (fr : Int) op (i : Int) = (if (bt s (i : Int)) = 44 then (spec_Items.j1 k s out (fr : Int) op (i : Int) (!op)) else (spec_Items.j1 k s out (fr : Int) op (i : Int) false)) := by
        intro k
        simp only [spec_Items.l0]
        rw [if_pos (by omega), if_neg hne, if_pos (by omega), if_pos (by omega)]
      have j1 : ∀ k, spec_Items.j1 (k + 1) s out (fr : Int) op (i : Int) false = (if (bt s (i : Int)) = 34 then (spec_Items.l0 k s out (fr : Int) (!op) ((i + 1 : Nat) : Int)) else (if (bt s (i : Int)) = 92 then (spec_Items.j2 k s out (fr : Int) op (i : Int) op) else (spec_Items.j2 k s out (fr : Int) op (i : Int) false))) := by
        intro k
        simp only [spec_Items.j1]
        rw [if_neg (by simp), if_pos (by omega), if_pos (by omega), hw]
      have j2 : ∀ k, spec_Items.j2 (k + 1) s out (fr : Int) op (i : Int) false = spec_Items.l0 k s out (fr : Int) op ((i + 1 : Nat) : Int) := by
        intro k
        simp only [spec_Items.j2]
        rw [if_neg (by simp), hw]
      have stay : ∀ r, Ev (fun k => spec_Items.l0 k s out (fr : Int) op ((i + 1 : Nat) : Int)) r → Ev (fun k => spec_Items.j2 k s out (fr : Int) op (i : Int) false) r := fun r h => Ev.step j2 h
      have hnext := ih (i + 1) fr op out (by omega) (by omega) (by omega) ho
      by_cases c34 : bt s (i : Int) = 34
      · rw [if_pos c34]
        refine Ev.step (f := fun k => spec_Items.j1 k s out (fr : Int) op (i : Int) false) (fun k => by rw [l0, if_neg (by omega)]) (Ev.step (fun k => ?_) (ih (i + 1) fr (!op) out (by omega) (by omega) (by omega) ho))
        rw [j1, if_pos c34]
      · rw [if_neg c34]
        by_cases c92 : bt s (i : Int) = 92
        · have to2 : ∀ r, Ev (fun k => spec_Items.j2 k s out (fr : Int) op (i : Int) op) r → Ev (fun k => spec_Items.l0 k s out (fr : Int) op (i : Int)) r := fun r h =>
            Ev.step (f := fun k => spec_Items.j1 k s out (fr : Int) op (i : Int) false) (fun k => by rw [l0, if_neg (by omega)]) (Ev.step (fun k => by rw [j1, if_neg c34, if_pos c92]) h)
          cases op with
          | false =>
            rw [if_neg (by simp), if_neg (fun x => by have := x.1; omega)]
            exact to2 _ (stay _ hnext)
          | true =>
            rw [if_pos ⟨c92, rfl⟩]
            refine to2 _ ?_
            by_cases he : i + 1 = s.size
            · refine Ev.step (f := fun k => spec_Items.l0 k s out (fr : Int) true (s.size : Int)) (fun k => ?_) (ev_eq (items_end s hs out (by omega) fr (by omega) true) ?_)
              · simp only [spec_Items.j2]
                rw [if_pos trivial, hw, if_pos (by omega), wrap_in (i := ((i + 1 : Nat) : Int) - 1) (by omega) (by omega), wrap_in (by omega) (by omega)]
                congr 1
                omega
              · cases n with
                | zero => rfl
                | succ n => rw [itemsG, if_neg (by omega)]
            · refine Ev.step (f := fun k => spec_Items.l0 k s out (fr : Int) true ((i + 2 : Nat) : Int)) (fun k => ?_) (ih (i + 2) fr true out (by omega) (by omega) (by omega) ho)
              simp only [spec_Items.j2]
              rw [if_pos trivial, hw, if_neg (by omega), wrap_in (by omega) (by omega)]
              congr 1
        · rw [if_neg (fun x => c92 x.1)]
          by_cases c44 : bt s (i : Int) = 44
          · cases op with
            | false =>
              rw [if_pos ⟨c44, rfl⟩]
              have hil := itemL_le (s.extract fr i)
              refine Ev.step (f := fun k => spec_Items.j1 k s out (fr : Int) false (i : Int) true) (fun k => by rw [l0, if_pos c44]; rfl) (items_put_ev s hs out (by omega) fr i hf (by omega) false _ ?_)
              exact ih (i + 1) (i + 1) false _ (by omega) (Nat.le_refl _) (by omega) (by rw [List.length_append]; omega)
            | true =>
              rw [if_neg (by simp)]
              refine Ev.step (f := fun k => spec_Items.j1 k s out (fr : Int) true (i : Int) false) (fun k => by rw [l0, if_pos c44]; rfl) (Ev.step (fun k => by rw [j1, if_neg c34, if_neg c92]) (stay _ hnext))
          · rw [if_neg (fun x => c44 x.1)]
            exact Ev.step (f := fun k => spec_Items.j1 k s out (fr : Int) op (i : Int) false) (fun k => by rw [l0, if_neg c44]) (Ev.step (fun k => by rw [j1, if_neg c34, if_neg c92]) (stay _ hnext))
    · rw [if_neg hlt]
      have e : i = s.size := by omega
      subst e
      exact items_end s hs out (by omega) fr hf op
theorem visOk_size {s : ByteArray} (h : visOk s = true) : s.size ≤ 400 := by
  unfold visOk at h
  rw [Bool.and_eq_true, decide_eq_true_eq] at h
  exact h.1
def itemsR (s : ByteArray) : List ByteArray := if visOk s = true then itemsG s (s.size + 1) [] 0 false 0 else []
theorem impl_Items_is (s : ByteArray) (hs : s.size ≤ 4611686018427387904) : impl_Items.f s = some (itemsR s) := by
  unfold impl_Items.f itemsR
  rw [impl_VisibleOk_is s hs]
  rfl
theorem spec_Items_ev (s : ByteArray) (hs : s.size ≤ 4611686018427387904) : Ev (fun k => spec_Items.f k s) (itemsR s) := by
  unfold spec_Items.f itemsR
  simp only [Option.bind_some]
  refine Ev.bind (spec_VisibleOk_ev s hs) ?_
  by_cases c : visOk s = true
  · simp only [if_pos c]
    have hz : s.size ≤ 400 := visOk_size c
    exact spec_Items_loop s hz (s.size + 1) 0 0 false [] (by omega) (by omega) (by omega) (Nat.le_refl _)
  · simp only [if_neg c]
    exact Ev.now _
theorem itemsG_len (s : ByteArray) (n : Nat) : ∀ (out : List ByteArray) (fr : Nat) (op : Bool) (i : Nat), (itemsG s n out fr op i).length ≤ out.length + n + 1 := by
  induction n with
  | zero => intro out fr op i; rw [itemsG, List.length_append]; have := itemL_le (s.extract fr s.size); omega
  | succ n ih =>
    intro out fr op i
    rw [itemsG]
    have h1 := itemL_le (s.extract fr s.size)
    have h2 := itemL_le (s.extract fr i)
    split
    · split
      · have := ih out fr (!op) (i + 1); omega
      · split
        · have := ih out fr op (i + 2); omega
        · split
          · have := ih (out ++ itemL (s.extract fr i)) (i + 1) op (i + 1); rw [List.length_append] at this; omega
          · have := ih out fr op (i + 1); omega
    · rw [List.length_append]; omega
theorem itemsR_len (s : ByteArray) : (itemsR s).length ≤ 402 := by
  unfold itemsR
  split
  · rename_i c
    have := itemsG_len s (s.size + 1) [] 0 false 0
    have hz : s.size ≤ 400 := visOk_size c
    simp only [List.length_nil] at this
    omega
  · exact Nat.zero_le _
end Go.Proofs.YtalbfkhkfhnmjaaDoor.Q
namespace Go.Proofs.YtalbfkhkfhnmjaaDoor.Pure
set_option linter.unusedVariables false
set_option linter.unusedSimpArgs false
open Go.RowKit Go.Proofs.YtalbfkhkfhnmjaaDoor.P Go.Proofs.YtalbfkhkfhnmjaaDoor.Q Go.Proofs.YtalbfkhkfhnmjaaDoorW.PrintWords
theorem FnExactItems : laws_FnExactItems.Pure := by
 intro a ha
 unfold laws_FnExactItems.f
 by_cases hs : (a.size : Int) > 1048576
 ·
  simp only [if_pos hs]
  exact ⟨0, trivial⟩
 ·
  simp only [if_neg hs]
  have hl := itemsR_len a
  have hI := ev_const (impl_Items_is a (by omega))
  have hE := eqTexts_self (itemsR a) (by omega)
  refine Ev.rounds (r := true) (Ev.bind (spec_Items_ev a (by omega)) (Ev.bind hI (Ev.bind hE ?_)))
  simp only [if_true]
  refine Ev.bind (markStringS_ev (itemsR a) (by omega)) (Ev.bind (heldStringS_ev (itemsR a) (by omega)) ?_)
  simp only [if_neg (show ¬ (1 + (((itemsR a).length : Nat) : Int) < 0) by omega), eq_self, if_true]
  refine Ev.bind hI (Ev.bind hE ?_)
  simp only [if_true]
  refine Ev.bind (heldStringS_ev (itemsR a) (by omega)) ?_
  simp only [if_neg (show ¬ (1 + (((itemsR a).length : Nat) : Int) < 0) by omega), eq_self, if_true]
  exact Ev.now _
end Go.Proofs.YtalbfkhkfhnmjaaDoor.Pure
namespace Go.Proofs.YtalbfkhkfhnmjaaDoor.fnExactItems
open Go.ChangeShapes Go.WideShapes Go.ChangeAt Go.RowKit
open Go.ChangeMaps (open_string shut_string)
set_option linter.unusedVariables false
theorem own : ownKnob Tryd.prog.godebug = none := by kernel_rfl
set_option maxRecDepth 100000 in
theorem lifted (os : Os) (started : os.Started) (H : Type) (enc : TypeId × Value → H) :
    ReturnsInHanded {} Tryd.checked os 3 .any (fun w args => (Rows.fnExactItemsSpec.pre enc Tryd.prog Tryd.f3 [] false w args ∧ laidMetH Tryd.prog Rows.fnExactItemsRow.laid w) ∧ sizedMet enc Tryd.prog Tryd.f3 (OpenSpec.ofChange Rows.fnExactItemsSpec) false w args) (Rows.fnExactItemsSpec.post enc Tryd.prog Tryd.f3 false true false false) := by
  refine RowAid.handed_both (C := Tryd.checked) (X := fun w _ => laidMetH Tryd.prog Rows.fnExactItemsRow.laid w) (fun _ _ _ hh h => h.of_heap hh) own started (by kernel_rfl) Tryd.func3
    (ChangeSpec.witness_shaped (enc := enc) (C := Tryd.checked) (os := os) (X := fun w _ => laidMetH Tryd.prog Rows.fnExactItemsRow.laid w) false (World.laidAll Tryd.prog os Rows.fnExactItemsRow.laid) #[.string ByteArray.empty] 8 (World.laidAll_os _ _ _)
      (World.shaped_of_ZipB (by kernel_rfl) (by kernel_rfl)) (by kernel_rfl) (by kernel_rfl) (by kernel_rfl)
      (by rw [MakeChecks.laidMetH_plain _ _ _ (by kernel_rfl)]; exact laidMet_laidAll _ (by kernel_rfl) (by kernel_rfl))) ?_
  intro W base args ds gs before hval0 hW hcnd hsz0 hL hSh _
  have hsz : (DataW.weightsEach Tryd.prog (Tryd.f3.params.toList ++ Rows.fnExactItemsSpec.plain.varTypes Tryd.prog) (ds ++ gs)).all (· ≤ reachBytes) = true := hsz0
  have hval : ∀ (j : Nat) t v, Tryd.f3.params[j]? = some t → args[j]? = some v → Value.okWide Tryd.prog W .any base t v := hval0
  have hW' := hW
  obtain ⟨p, q, hA0, hV, rfl, hfz, hnd⟩ := hW
  have hA : DataW.TrodAll enc Tryd.prog W 0 (fun _ => true) true Tryd.f3.params.toList args.toList ds p := hA0
  rw [Tryd.params3] at hA hval hsz
  obtain ⟨v0, vs0, d0, ds0, p0, q0, hargs, rfl, rfl, h0, r0⟩ := trodAll_cons hA
  obtain ⟨rfl, rfl, rfl⟩ := trodAll_nil r0
  obtain rfl : args = #[v0] := by cases args; simp_all
  obtain ⟨rfl, rfl⟩ := trodVars_none hV
  obtain ⟨a0, rfl, rfl, rfl, y0⟩ := open_string Tryd.underlying9 (hval 0 9 v0 rfl rfl) h0
  have w0 : a0.size ≤ 140737488351232 := by
    have z := sized_string hsz (j := 0) (t := 9) rfl rfl
    rw [Array.length_toList] at z
    exact z
  clear hA0 hval0 hsz0 hsz
  refine (P.laws_FnExactItems.walk Pure.FnExactItems a0 W w0).mono fun e W' ⟨he, bel⟩ => ?_
  subst he
  exact ⟨_, rfl, _, _, _, [], _, [], hW', trodAll_mk1 (shut_bool Tryd.underlying4 _), (trodAll_cons_mk (shut_string Tryd.underlying9 y0) trodAll_mk0), rfl, bel.frame _, fun h => by cases h⟩
theorem over : Rows.fnExactItemsRow.holds Tryd.pinned (OpenSpec.ofChange Rows.fnExactItemsSpec) :=
  OpenClaim.holds_of_wide 3 Tryd.f3 rfl rfl rfl rfl rfl rfl rfl ⟨rfl, rfl, rfl, rfl, rfl⟩ rfl rfl rfl rfl rfl (by kernel_rfl) Tryd.func3 (by kernel_rfl)
    (of_decide_eq_true (by kernel_rfl)) (by unfold Func.isWrapper; first | (rw [if_pos (by decide +kernel)]; kernel_rfl) | (rw [if_neg (by decide +kernel)]; exact ⟨rfl, rfl⟩))
    (fun os started H enc _ => lifted os started H enc)
theorem proved : Rows.FnExactItemsSaid := over
#print axioms proved
end Go.Proofs.YtalbfkhkfhnmjaaDoor.fnExactItems
namespace Go.Proofs.YtalbfkhkfhnmjaaDoor
/-- The tied card, under a short name, for the claim. -/
theorem fnExactItems_card : Rows.FnExactItemsCardSaid :=
  Claim7.holds_tied_plain_at .later [] [.data, .pinned] true (true, "7e7a3fefffea0b553aa830ed627cf692d5253a5efc4814182ed69e94805bf61a") true
    fnExactItems.proved (fun _ h => by cases h) (by kernel_rfl) (fun _ h => by cases h) fnExactItems_row_tie rfl ⟨rfl, rfl⟩ (by kernel_rfl) rfl
    (fun f fn hf hfn => by
      obtain rfl : f = 3 := Option.some.inj ((show Tryd.prog.funcNamed "loop.example/g00207/laws.FnExactItems" = some 3 by kernel_rfl).symm.trans hf) |>.symm
      obtain rfl : fn = Tryd.f3 := (Option.some.inj (Tryd.func3.symm.trans hfn)).symm
      exact ⟨by kernel_rfl, fun j t ht => by
        rw [Tryd.params3] at ht
        have hm : t ∈ [9] := by simpa using Array.mem_of_getElem? ht
        have hall : ([9].all fun u => !Tryd.prog.wantsStandIn u) = true := by kernel_rfl
        exact (show Tryd.prog.wantsStandIn t = false by simpa using List.all_eq_true.1 hall t hm)⟩)
    (by kernel_rfl)
#print axioms fnExactItems_card
end Go.Proofs.YtalbfkhkfhnmjaaDoor
