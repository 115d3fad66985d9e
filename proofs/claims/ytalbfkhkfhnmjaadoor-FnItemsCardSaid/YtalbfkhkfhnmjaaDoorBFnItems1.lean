/- Functions of the Go program as Lean functions, and proofs about them, merged out of this session's texts by its program bundle.py; conditions: those that each theorem states. -/
import Derived.Below
import Derived.ChangeOld
import Derived.Handed
import Derived.HandedShaped
import Derived.LaidMore
import Derived.Laws.BitsLemmas
import Derived.Lay
import Derived.Lib.Bytealg
import Derived.Lib.SlTrimSet
import Derived.Lib.Strings
import Derived.OpenShut
import Derived.ProofKit
import Derived.SevenTiedAt
import Derived.ShutString
import Derived.SizedLaws
import Derived.Stop.Joined
import Derived.Test.YtalbfkhkfhnmjaaDoorCards
import Derived.Test.YtalbfkhkfhnmjaaDoorGTrim
import Derived.Test.YtalbfkhkfhnmjaaDoorGall
import Derived.Test.YtalbfkhkfhnmjaaDoorGimplItems
import Derived.Test.YtalbfkhkfhnmjaaDoorP0
import Derived.Test.YtalbfkhkfhnmjaaDoorPimplTrimmed
import Derived.Test.YtalbfkhkfhnmjaaDoorPimplVisibleOk
import Derived.Test.YtalbfkhkfhnmjaaDoorPimplisDigit
import Derived.Test.YtalbfkhkfhnmjaaDoorPimplisHex
import Derived.Test.YtalbfkhkfhnmjaaDoorPimplisVisible
import Derived.Test.YtalbfkhkfhnmjaaDoorPlawsFnItems
import Derived.Test.YtalbfkhkfhnmjaaDoorPlawsbig
import Derived.Test.YtalbfkhkfhnmjaaDoorPlawslikeTexts
import Derived.Test.YtalbfkhkfhnmjaaDoorPlawsmarkText
import Derived.Test.YtalbfkhkfhnmjaaDoorPspecDrawItems
import Derived.Test.YtalbfkhkfhnmjaaDoorPspecItems
import Derived.Test.YtalbfkhkfhnmjaaDoorPspecQuoted
import Derived.Test.YtalbfkhkfhnmjaaDoorPspecTrimmed
import Derived.Test.YtalbfkhkfhnmjaaDoorPspecVisibleOk
import Derived.Test.YtalbfkhkfhnmjaaDoorPspecl1Below
import Derived.Test.YtalbfkhkfhnmjaaDoorPspecl1Blank
import Derived.Test.YtalbfkhkfhnmjaaDoorPspecl1Byte
import Derived.Test.YtalbfkhkfhnmjaaDoorPspecl1DrawText
import Derived.Test.YtalbfkhkfhnmjaaDoorPspecl1New
import Derived.Test.YtalbfkhkfhnmjaaDoorPspecl1Once
import Derived.Test.YtalbfkhkfhnmjaaDoorPspecl1Quoted
import Derived.Test.YtalbfkhkfhnmjaaDoorRows
import Derived.Test.YtalbfkhkfhnmjaaDoorTie
import Derived.Test.YtalbfkhkfhnmjaaDoorWSized
import Derived.Test.YtalbfkhkfhnmjaaDoorXA
import Derived.WalkKit
namespace Go.Proofs.YtalbfkhkfhnmjaaDoor.RowAid
open Go
variable {H : Type} {enc : TypeId × Value → H}
theorem handed_both {a : Assume} {C : Checked} {os : Os} {f : FuncId} {fn : Func} {s : ChangeSpec} {conds : List PathCond} {apart fresh handsOn again : Bool} {X : World → Array Value → Prop}
    (hX : ∀ (w w' : World) (args : Array Value), w.heap = w'.heap → X w args → X w' args)
    (own : ownKnob C.prog.godebug = none) (started : os.Started) (noInit : C.prog.inits.idxOf? f = none) (hfn : C.prog.funcs[f]? = some fn)
    (witness : ∃ (w : World) (tape : Tape) (i : Input), w.os = os ∧ (w.forCall tape i).Shaped C.prog ∧ i.vars = [] ∧ Input.okWide C.prog (w.forCall tape i) .any w.heap.size f i ∧
      ((s.pre enc C.prog fn conds apart (w.forCall tape i).memory i.args ∧ X (w.forCall tape i).memory i.args) ∧ sizedMet enc C.prog fn (OpenSpec.ofChange s) apart (w.forCall tape i).memory i.args) ∧ a.holds C.prog (lone (Frame.enter C.prog f i.args .normal) [] (w.forCall tape i)))
    (contract : ∀ (W : World) (base : Nat) (args : Array Value) (ds gs : List (DataW H)) (before : List MemPlace),
      (∀ (j : Nat) t v, fn.params[j]? = some t → args[j]? = some v → Value.okWide C.prog W .any base t v) →
      DataW.Whole enc C.prog fn.params.toList s.vars apart W args.toList ds gs before →
      conds.all (PathCond.test C.prog ⟨fn.params.toList, ds, s.plain.varTypes C.prog, gs⟩) = true →
      (DataW.weightsEach C.prog (fn.params.toList ++ s.plain.varTypes C.prog) (ds ++ gs)).all (· ≤ reachBytes) = true → X W args → W.ShapedOpen C.prog →
      a.holds C.prog (lone (Frame.enter C.prog f args .normal) [] W) →
      Calls C.prog f args W fun e W' => ∃ v, e = .returned v ∧ s.post enc C.prog fn apart fresh handsOn again W args v W') :
    ReturnsInHanded a C os f .any (fun w args => (s.pre enc C.prog fn conds apart w args ∧ X w args) ∧ sizedMet enc C.prog fn (OpenSpec.ofChange s) apart w args) (s.post enc C.prog fn apart fresh handsOn again) := by
  refine returnsInHanded_of_calls own started noInit witness ?_
  intro w tape i _ hsh _ hok hpre hholds
  obtain ⟨_, _, _, fn', hfn', _, _, _, _, hval⟩ := hok
  have e : fn' = fn := Option.some.inj (hfn'.symm.trans hfn)
  subst e
  obtain ⟨⟨⟨ds, gs, before, hw, hc⟩, hx⟩, hz⟩ := hpre
  have hw' := DataW.Whole.of_heap (w' := w.forCall tape i) (by rfl) hw
  refine (contract (w.forCall tape i) w.heap.size i.args ds gs before hval hw' hc (hz.weights hw) (hX _ _ _ (by rfl) hx) hsh hholds).mono fun e W' ⟨v, he, hp⟩ => ?_
  subst he
  exact ChangeSpec.post_blind hp
end Go.Proofs.YtalbfkhkfhnmjaaDoor.RowAid
namespace Go.Proofs.YtalbfkhkfhnmjaaDoor.Q
open Go.RowKit Go.Proofs.YtalbfkhkfhnmjaaDoorW.PrintWords Go.Proofs.YtalbfkhkfhnmjaaDoorW.PrintLast Go.Proofs.YtalbfkhkfhnmjaaDoorW.PrintMore

theorem wrap_in {i : Int} (h0 : -9223372036854775808 ≤ i) (h1 : i ≤ 9223372036854775807) : wrap64 i = i := by unfold wrap64; omega
theorem wrap_next {i : Nat} {n : Nat} (h : i < n) (hn : n ≤ 4611686018427387904) : wrap64 ((i : Int) + 1) = ((i + 1 : Nat) : Int) := by unfold wrap64; omega

theorem toList_data (s : ByteArray) : s.toList = s.data.toList := ByteArray.toList_eq s
theorem eq_of_toList {a b : ByteArray} (h : a.toList = b.toList) : a = b := by
  rw [toList_data, toList_data] at h
  exact ByteArray.ext (Array.toList_inj.1 h)
theorem bt_get (s : ByteArray) (i : Nat) (h : i < s.size) : (bytesOf s)[i]? = some (bt s i) := by
  rw [← rd_bytesOf]
  have h1 : i < (bytesOf s).length := by rw [bytesOf_length]; exact h
  simp [rd, List.getD_eq_getElem?_getD, List.getElem?_eq_getElem h1]
theorem drop_bt (s : ByteArray) (i : Nat) (h : i < s.size) : (bytesOf s).drop i = bt s i :: (bytesOf s).drop (i + 1) := by
  have h1 : i < (bytesOf s).length := by rw [bytesOf_length]; exact h
  rw [List.drop_eq_getElem_cons h1]
  have := bt_get s i h
  rw [List.getElem?_eq_getElem h1] at this
  rw [Option.some.inj this]
theorem mem_bytes {s : ByteArray} {c : Int} (h : c ∈ bytesOf s) : 0 ≤ c ∧ c ≤ 255 := by
  unfold bytesOf at h
  obtain ⟨b, _, rfl⟩ := List.mem_map.1 h
  have := b.toNat_lt
  omega
theorem bytes_nums (l : List Int) (h : ∀ c ∈ l, 0 ≤ c ∧ c ≤ 255) : bytesOf (strOfNums l) = l := by
  unfold bytesOf
  rw [strOfNums_data, List.map_map]
  refine (List.map_congr_left fun c hc => ?_).trans (List.map_id l)
  have := h c hc
  simp only [Function.comp, UInt8.toNat_ofNat', id]
  omega
theorem nums_bytes (s : ByteArray) : strOfNums (bytesOf s) = s := by
  apply ByteArray.ext
  apply Array.toList_inj.1
  rw [strOfNums_data]
  unfold bytesOf
  rw [List.map_map]
  refine (List.map_congr_left fun c hc => ?_).trans (List.map_id _)
  simp
theorem bytes_inj {a b : ByteArray} (h : bytesOf a = bytesOf b) : a = b := by rw [← nums_bytes a, ← nums_bytes b, h]
theorem bytes_append (a b : ByteArray) : bytesOf (a ++ b) = bytesOf a ++ bytesOf b := by
  unfold bytesOf
  rw [← List.map_append]
  simp [ByteArray.data_append]

/-- A loop over bytes: what a round does with its state and a byte; an end ahead of time. -/
def runL {σ β : Type} (f : σ → Int → σ ⊕ β) (fin : σ → β) : List Int → σ → β
  | [], st => fin st
  | c :: cs, st => match f st c with
    | .inl st' => runL f fin cs st'
    | .inr b => b
/-- The printed loop comes to what 'runL' comes to, from some number of rounds on. -/
theorem ev_run {σ β : Type} (s : ByteArray) (I : σ → Nat → Prop) (f : σ → Int → σ ⊕ β) (fin : σ → β) (g : Nat → σ → Int → Option β) (K : Nat)
    (hstep : ∀ k st (i : Nat), K ≤ k → i < s.size → I st i → (∀ st', f st (bt s i) = .inl st' → g (k + 1) st i = g k st' ((i + 1 : Nat) : Int) ∧ I st' (i + 1)) ∧ (∀ b, f st (bt s i) = .inr b → g (k + 1) st i = some b))
    (hend : ∀ k st, K ≤ k → I st s.size → g (k + 1) st (s.size : Int) = some (fin st)) (st : σ) (h0 : I st 0) :
    Ev (fun k => g k st 0) (runL f fin (bytesOf s) st) := by
  have key : ∀ (d i : Nat) (st : σ), i + d = s.size → I st i → ∀ k, K + d < k → g k st (i : Int) = some (runL f fin ((bytesOf s).drop i) st) := by
    intro d
    induction d with
    | zero =>
      intro i st hd hI k hk
      obtain ⟨k, rfl⟩ : ∃ m, k = m + 1 := ⟨k - 1, by omega⟩
      have e : i = s.size := by omega
      subst e
      rw [hend k st (by omega) hI, List.drop_of_length_le (by rw [bytesOf_length]; exact Nat.le_refl _)]
      rfl
    | succ d ih =>
      intro i st hd hI k hk
      obtain ⟨k, rfl⟩ : ∃ m, k = m + 1 := ⟨k - 1, by omega⟩
      obtain ⟨h1, h2⟩ := hstep k st i (by omega) (by omega) hI
      rw [drop_bt s i (by omega)]
      show g (k + 1) st i = some (match f st (bt s i) with | .inl st' => runL f fin ((bytesOf s).drop (i + 1)) st' | .inr b => b)
      cases hf : f st (bt s i) with
      | inl st' =>
        obtain ⟨e, hI'⟩ := h1 st' hf
        rw [e]
        exact ih (i + 1) st' (by omega) hI' k (by omega)
      | inr b => exact h2 b hf
  refine ⟨K + s.size + 1, fun k hk => ?_⟩
  have := key s.size 0 st (by omega) h0 k (by omega)
  rw [List.drop_zero] at this
  exact this

/-- A loop that asks each byte. -/
theorem ev_all (s : ByteArray) (p : Int → Bool) (g : Nat → Int → Option Bool) (K : Nat)
    (h1 : ∀ k (i : Nat), K ≤ k → i < s.size → p (bt s i) = true → g (k + 1) i = g k ((i + 1 : Nat) : Int))
    (h0 : ∀ k (i : Nat), K ≤ k → i < s.size → p (bt s i) = false → g (k + 1) i = some false)
    (he : ∀ k, K ≤ k → g (k + 1) (s.size : Int) = some true) : Ev (fun k => g k 0) ((bytesOf s).all p) := by
  have h := ev_run (σ := Unit) (β := Bool) s (fun _ _ => True) (fun _ c => if p c = true then .inl () else .inr false) (fun _ => true) (fun k _ i => g k i) K
    (fun k st i hk hi _ => ⟨fun st' e => ⟨h1 k i hk hi (by
        by_cases hp : p (bt s i) = true
        · exact hp
        · rw [if_neg hp] at e; cases e), trivial⟩, fun b e => by
        by_cases hp : p (bt s i) = true
        · rw [if_pos hp] at e; cases e
        · rw [if_neg hp] at e
          obtain rfl : false = b := by injection e
          exact h0 k i hk hi (by simpa using hp)⟩)
    (fun k st hk _ => he k hk) () trivial
  have e : ∀ l : List Int, runL (σ := Unit) (β := Bool) (fun _ c => if p c = true then .inl () else .inr false) (fun _ => true) l () = l.all p := by
    intro l
    induction l with
    | nil => rfl
    | cons c cs ih =>
      rw [List.all_cons]
      unfold runL
      by_cases hp : p c = true
      · simp only [hp, if_true, Bool.true_and]; exact ih
      · simp only [(by simpa using hp : p c = false), Bool.false_and, Bool.false_eq_true, if_false]
  rw [e] at h
  exact h
theorem runL_all {β : Type} (p : Int → Bool) (r b : β) (l : List Int) : runL (σ := Unit) (fun _ c => if p c = true then .inl () else .inr b) (fun _ => r) l () = if l.all p = true then r else b := by
  induction l with
  | nil => rfl
  | cons c cs ih =>
    rw [List.all_cons]
    unfold runL
    by_cases hp : p c = true
    · simp only [hp, if_true, Bool.true_and]; exact ih
    · simp only [(by simpa using hp : p c = false), Bool.false_and, Bool.false_eq_true, if_false]
/-- A loop that asks each byte, and goes on behind it. -/
theorem ev_allr {β : Type} (s : ByteArray) (p : Int → Bool) (r b : β) (g : Nat → Int → Option β) (K : Nat)
    (h1 : ∀ k (i : Nat), K ≤ k → i < s.size → p (bt s i) = true → g (k + 1) i = g k ((i + 1 : Nat) : Int))
    (h0 : ∀ k (i : Nat), K ≤ k → i < s.size → p (bt s i) = false → g (k + 1) i = some b)
    (he : ∀ k, K ≤ k → g (k + 1) (s.size : Int) = some r) : Ev (fun k => g k 0) (if (bytesOf s).all p = true then r else b) := by
  rw [← runL_all p r b (bytesOf s)]
  refine ev_run (σ := Unit) s (fun _ _ => True) (fun _ c => if p c = true then .inl () else .inr b) (fun _ => r) (fun k _ i => g k i) K
    (fun k st i hk hi _ => ⟨fun st' e => ⟨h1 k i hk hi (by
        by_cases hp : p (bt s i) = true
        · exact hp
        · rw [if_neg hp] at e; cases e), trivial⟩, fun b' e => by
        by_cases hp : p (bt s i) = true
        · rw [if_pos hp] at e; cases e
        · rw [if_neg hp] at e
          obtain rfl : b = b' := by injection e
          exact h0 k i hk hi (by simpa using hp)⟩)
    (fun k st hk _ => he k hk) () trivial
/-- A loop that puts something behind a list for each byte. -/
theorem runL_flat {β : Type} (f : Int → List Int) (fin : List Int → β) (l st : List Int) : runL (fun st c => .inl (st ++ f c)) fin l st = fin (st ++ l.flatMap f) := by
  induction l generalizing st with
  | nil => simp [runL]
  | cons c cs ih =>
    unfold runL
    simp only [ih, List.flatMap_cons, List.append_assoc]
theorem ev_const {α : Type} {x : Option α} {r : α} (h : x = some r) : Ev (fun _ => x) r := ⟨0, fun _ _ => h⟩
theorem ev_eq {α : Type} {g : Nat → Option α} {r r' : α} (h : Ev g r) (e : r = r') : Ev g r' := e ▸ h
/-- From a number of rounds on: a law that holds at each such number. -/
theorem ev_now {α : Type} {g : Nat → Option α} {r : α} (K : Nat) (h : ∀ k, K ≤ k → g k = some r) : Ev g r := ⟨K, h⟩
theorem all_congr' {l : List Int} {p q : Int → Bool} (h : ∀ c ∈ l, p c = q c) : l.all p = l.all q := by
  induction l with
  | nil => rfl
  | cons a l ih =>
    rw [List.all_cons, List.all_cons, h a List.mem_cons_self, ih fun c hc => h c (List.mem_cons_of_mem _ hc)]
end Go.Proofs.YtalbfkhkfhnmjaaDoor.Q
namespace Go.Proofs.YtalbfkhkfhnmjaaDoor.P
open Go.RowKit Go.Proofs.YtalbfkhkfhnmjaaDoorW.PrintWords Go.Proofs.YtalbfkhkfhnmjaaDoorW.PrintLast Go.Proofs.YtalbfkhkfhnmjaaDoorW.PrintMore
attribute [local go_sem] max2_int min2_int max_two min_two max_three min_three max_four min_four   -- for this text's walks alone
set_option linter.unusedVariables false
set_option linter.unusedSimpArgs false

/-! ### spec_l1Hex: function 51 -/
mutual
def spec_l1Hex.j0 : Nat → Int → Bool → Option (Int)
 | 0, _, _ => none
 | k + 1, x0, x3 => if x3 = true then (some ((x0 - 48) % 256)) else (if x0 ≥ 97 then (spec_l1Hex.j1 k x0 (decide (x0 ≤ 102))) else (spec_l1Hex.j1 k x0 false))
def spec_l1Hex.j1 : Nat → Int → Bool → Option (Int)
 | 0, _, _ => none
 | k + 1, x0, x13 => if x13 = true then (some (((x0 - 97) % 256) + 10)) else (if x0 ≥ 65 then (if x0 ≤ 70 then (some (((x0 - 65) % 256) + 10)) else (some (-1))) else (some (-1)))
end
def spec_l1Hex.f (k : Nat) (a0 : Int) : Option (Int) := if a0 ≥ 48 then (spec_l1Hex.j0 k a0 (decide (a0 ≤ 57))) else (spec_l1Hex.j0 k a0 false)
theorem spec_l1Hex.mono_l : ∀ k, (∀ y0 y1, LeO (spec_l1Hex.j0 k y0 y1) (spec_l1Hex.j0 (k + 1) y0 y1)) ∧ (∀ y0 y1, LeO (spec_l1Hex.j1 k y0 y1) (spec_l1Hex.j1 (k + 1) y0 y1))
 | 0 => ⟨fun _ _ r h => by simp [spec_l1Hex.j0] at h, fun _ _ r h => by simp [spec_l1Hex.j1] at h⟩
 | k + 1 => by
  obtain ⟨ih0, ih1⟩ := spec_l1Hex.mono_l k
  refine ⟨?_, ?_⟩
  ·
   intro y0 y1
   unfold spec_l1Hex.j0
   repeat' first
   | (with_reducible exact ih0 _ _)
   | (with_reducible exact ih1 _ _)
   | (with_reducible exact LeO.refl _)
   | (with_reducible exact LeO.none _)
   | (with_reducible refine LeO.ite ?_ ?_)
   | (with_reducible refine LeO.bind ?_ (fun _ => ?_))
   | exact ih0 _ _
   | exact ih1 _ _
   | exact LeO.none _
   | refine LeO.ite ?_ ?_
   | refine LeO.bind ?_ (fun _ => ?_)
  ·
   intro y0 y1
   unfold spec_l1Hex.j1
   repeat' first
   | (with_reducible exact ih0 _ _)
   | (with_reducible exact ih1 _ _)
   | (with_reducible exact LeO.refl _)
   | (with_reducible exact LeO.none _)
   | (with_reducible refine LeO.ite ?_ ?_)
   | (with_reducible refine LeO.bind ?_ (fun _ => ?_))
   | exact ih0 _ _
   | exact ih1 _ _
   | exact LeO.none _
   | refine LeO.ite ?_ ?_
   | refine LeO.bind ?_ (fun _ => ?_)
theorem spec_l1Hex.mono : ∀ a0 k, LeO (spec_l1Hex.f k a0) (spec_l1Hex.f (k + 1) a0) := by
 intro a0 k
 obtain ⟨ih0, ih1⟩ := spec_l1Hex.mono_l k
 unfold spec_l1Hex.f
 repeat' first
   | (with_reducible exact ih0 _ _)
   | (with_reducible exact ih1 _ _)
   | (with_reducible exact LeO.refl _)
   | (with_reducible exact LeO.none _)
   | (with_reducible refine LeO.ite ?_ ?_)
   | (with_reducible refine LeO.bind ?_ (fun _ => ?_))
   | exact ih0 _ _
   | exact ih1 _ _
   | exact LeO.none _
   | refine LeO.ite ?_ ?_
   | refine LeO.bind ?_ (fun _ => ?_)
set_option maxHeartbeats 8000000 in
set_option maxRecDepth 100000 in
theorem spec_l1Hex.calls (k : Nat) (a0 : Int) (r : Int) (w : World) (h : spec_l1Hex.f k a0 = some r) :
  Calls Tryd.prog 51 #[.int .u8 a0] w fun e w' => e = .returned (.int .i64 r) ∧ Drawn0 w w' := by
 have H : (if a0 ≥ 48 then (spec_l1Hex.j0 k a0 (decide (a0 ≤ 57))) else (spec_l1Hex.j0 k a0 false)) = some r := h
 clear h
 have HC2 := Aside0.mk H
 clear H
 go_enter Tryd.func51, Tryd.ntmps51
 go_upto_region 1 with (fail)
 go_cut [3] (fun v3 wc => ∃ (kq : Nat) (x3_1 : Bool), v3 = .bool x3_1 ∧ Aside0 (spec_l1Hex.j0 kq a0 x3_1 = some r) ∧ Aside0 (kq ≤ k) ∧ Drawn0 w wc)
 case first =>
  have H := HC2.out
  clear HC2
  by_cases c3 : a0 ≥ 48
  ·
   rw [if_pos c3] at H
   have c3b0 : decide (48 ≤ a0) = true := decide_eq_true c3
   clear c3
   (first | rw [c3b0] | (simp only [i64_w, i32_w]; rw [c3b0]) | skip)
   have H' := Aside0.mk H
   clear H
   go_wp2
   go_meet
   case rel => exact ⟨_, (decide (a0 ≤ 57)), (by first | rfl | (simp; done) | (simp [*]; done)), H', ⟨by first | omega | exact Nat.le_refl _⟩, by repeat (first | exact Drawn0.refl _ | apply Drawn0.step)⟩
  ·
   rw [if_neg c3] at H
   have c3b0 : decide (48 ≤ a0) = false := decide_eq_false c3
   clear c3
   (first | rw [c3b0] | (simp only [i64_w, i32_w]; rw [c3b0]) | skip)
   have H' := Aside0.mk H
   clear H
   go_wp2
   go_meet
   case rel => exact ⟨_, (false), (by first | rfl | (simp; done) | (simp [*]; done)), H', ⟨by first | omega | exact Nat.le_refl _⟩, by repeat (first | exact Drawn0.refl _ | apply Drawn0.step)⟩
 case rest =>
  clear HC2
  try clear p2
  try clear c3
  try clear c3b0
  obtain ⟨kq, x3_1, rfl, HA, HJ1, ⟨mc1, rfl⟩⟩ := hcut
  cases kq with
  | zero => exact absurd HA.out (by simp [spec_l1Hex.j0])
  | succ kj1 =>
   have H := HA.out
   clear HA
   simp only [spec_l1Hex.j0] at H
   by_cases c4 : x3_1 = true
   ·
    subst c4
    have H1 : (some ((a0 - 48) % 256)) = some r := by rw [if_pos rfl] at H; exact H
    clear H
    have H := H1
    clear H1
    obtain rfl := Option.some.inj H
    go_wp2
    go_ret
    exact ⟨by first | rfl | (simp; done) | (simp [*]; done), by repeat (first | exact Drawn0.refl _ | apply Drawn0.step)⟩
   ·
    replace c4 := Bool.eq_false_iff.mpr c4
    subst c4
    rw [if_neg (show ¬ (false = true) by decide)] at H
    have HC5 := Aside0.mk H
    clear H
    go_upto_region 3 with (fail)
    go_cut [13] (fun v13 wc => ∃ (kq : Nat) (x13_4 : Bool), v13 = .bool x13_4 ∧ Aside0 (spec_l1Hex.j1 kq a0 x13_4 = some r) ∧ Aside0 (kq ≤ kj1) ∧ Drawn0 w wc)
    case first =>
     have H := HC5.out
     clear HC5
     by_cases c6 : a0 ≥ 97
     ·
      rw [if_pos c6] at H
      have c6b0 : decide (97 ≤ a0) = true := decide_eq_true c6
      clear c6
      (first | rw [c6b0] | (simp only [i64_w, i32_w]; rw [c6b0]) | skip)
      have H' := Aside0.mk H
      clear H
      go_wp2
      go_meet
      case rel => exact ⟨_, (decide (a0 ≤ 102)), (by first | rfl | (simp; done) | (simp [*]; done)), H', ⟨by have := HJ1.out; first | omega | exact Nat.le_refl _⟩, by repeat (first | exact Drawn0.refl _ | apply Drawn0.step)⟩
     ·
      rw [if_neg c6] at H
      have c6b0 : decide (97 ≤ a0) = false := decide_eq_false c6
      clear c6
      (first | rw [c6b0] | (simp only [i64_w, i32_w]; rw [c6b0]) | skip)
      have H' := Aside0.mk H
      clear H
      go_wp2
      go_meet
      case rel => exact ⟨_, (false), (by first | rfl | (simp; done) | (simp [*]; done)), H', ⟨by have := HJ1.out; first | omega | exact Nat.le_refl _⟩, by repeat (first | exact Drawn0.refl _ | apply Drawn0.step)⟩
    case rest =>
     clear HC5
     try clear c1
     try clear p2
     try clear c3
     try clear c3b0
     try clear c4
     try clear c5
     try clear c6
     try clear c6b0
     try clear p2
     obtain ⟨kq, x13_4, rfl, HA, HJ4, ⟨mc4, rfl⟩⟩ := hcut
     cases kq with
     | zero => exact absurd HA.out (by simp [spec_l1Hex.j1])
     | succ kj4 =>
      have H := HA.out
      clear HA
      simp only [spec_l1Hex.j1] at H
      by_cases c7 : x13_4 = true
      ·
       subst c7
       have H1 : (some (((a0 - 97) % 256) + 10)) = some r := by rw [if_pos rfl] at H; exact H
       clear H
       have H := H1
       clear H1
       obtain rfl := Option.some.inj H
       go_wp2
       go_ret
       exact ⟨by first | rfl | (simp; done) | (simp [*]; done), by repeat (first | exact Drawn0.refl _ | apply Drawn0.step)⟩
      ·
       replace c7 := Bool.eq_false_iff.mpr c7
       subst c7
       rw [if_neg (show ¬ (false = true) by decide)] at H
       by_cases c8 : a0 ≥ 65
       ·
        rw [if_pos c8] at H
        have c8b0 : decide (65 ≤ a0) = true := decide_eq_true c8
        clear c8
        by_cases c9 : a0 ≤ 70
        ·
         rw [if_pos c9] at H
         have c9b0 : decide (a0 ≤ 70) = true := decide_eq_true c9
         clear c9
         obtain rfl := Option.some.inj H
         go_wp2
         go_ret
         exact ⟨by first | rfl | (simp; done) | (simp [*]; done), by repeat (first | exact Drawn0.refl _ | apply Drawn0.step)⟩
        ·
         rw [if_neg c9] at H
         have c9b0 : decide (a0 ≤ 70) = false := decide_eq_false c9
         clear c9
         obtain rfl := Option.some.inj H
         go_wp2
         go_ret
         exact ⟨by first | rfl | (simp; done) | (simp [*]; done), by repeat (first | exact Drawn0.refl _ | apply Drawn0.step)⟩
       ·
        rw [if_neg c8] at H
        have c8b0 : decide (65 ≤ a0) = false := decide_eq_false c8
        clear c8
        obtain rfl := Option.some.inj H
        go_wp2
        go_ret
        exact ⟨by first | rfl | (simp; done) | (simp [*]; done), by repeat (first | exact Drawn0.refl _ | apply Drawn0.step)⟩
end Go.Proofs.YtalbfkhkfhnmjaaDoor.P
namespace Go.Proofs.YtalbfkhkfhnmjaaDoor.Q
set_option linter.unusedVariables false
set_option linter.unusedSimpArgs false
open Go.RowKit Go.Proofs.YtalbfkhkfhnmjaaDoor.P Go.Proofs.YtalbfkhkfhnmjaaDoorW.PrintWords Go.Proofs.YtalbfkhkfhnmjaaDoorW.PrintLast Go.Proofs.YtalbfkhkfhnmjaaDoorW.PrintMore

def visB (c : Int) : Bool := decide (32 ≤ c) && decide (c ≤ 126) || decide (c = 9)
def digB (c : Int) : Bool := decide (48 ≤ c) && decide (c ≤ 57)
def letB (c : Int) : Bool := decide (97 ≤ c) && decide (c ≤ 122) || decide (65 ≤ c) && decide (c ≤ 90)
def hexB (c : Int) : Bool := digB c || decide (97 ≤ c) && decide (c ≤ 102) || decide (65 ≤ c) && decide (c ≤ 70)
def tagB (c : Int) : Bool := decide (33 ≤ c) && decide (c ≤ 126) && decide (c ≠ 34)
def tokB (c : Int) : Bool := letB c || digB c || decide (c ∈ [33, 35, 36, 37, 38, 39, 42, 43, 45, 46, 94, 95, 124, 126, 96])
def plaB (c : Int) : Bool := letB c || digB c || decide (c ∈ [45, 46, 95, 126, 47, 58, 64, 33, 36, 38, 39, 40, 41, 42, 43, 44, 59, 61])

theorem impl_isVisible_is (c : Int) : impl_isVisible.f c = some (visB c) := by
  unfold impl_isVisible.f visB
  by_cases h1 : c ≥ 32 <;> by_cases h2 : c ≤ 126 <;> simp [h1, h2] <;> (try omega) <;> (try (by_cases h3 : c = 9 <;> simp [h3] <;> omega))
theorem impl_isDigit_is (c : Int) : impl_isDigit.f c = some (digB c) := by
  unfold impl_isDigit.f digB
  by_cases h1 : c ≥ 48 <;> simp [h1] <;> omega
theorem impl_isHex_is (c : Int) : impl_isHex.f c = some (hexB c) := by
  unfold impl_isHex.f hexB
  rw [impl_isDigit_is]
  cases h0 : digB c <;> by_cases h1 : c ≥ 97 <;> by_cases h2 : c ≤ 102 <;> by_cases h3 : c ≥ 65 <;> by_cases h4 : c ≤ 70 <;> simp [h1, h2, h3, h4] <;> omega

/-- A law on bytes, tried at each. -/
theorem byte_cases {p : Int → Prop} (h : ∀ n : Fin 256, p (n.val : Int)) (c : Int) (h0 : 0 ≤ c) (h1 : c ≤ 255) : p c := by
  have := h ⟨c.toNat, by omega⟩
  rwa [show ((⟨c.toNat, by omega⟩ : Fin 256).val : Int) = c from by show (c.toNat : Int) = c; omega] at this
/-- A hexadecimal digit's value, or -1. -/
def hexV (c : Int) : Int := if digB c = true then c - 48 else if 97 ≤ c ∧ c ≤ 102 then c - 87 else if 65 ≤ c ∧ c ≤ 70 then c - 55 else -1
theorem hexV_neg (c : Int) : decide (hexV c < 0) = !hexB c := by
  unfold hexV hexB
  cases h0 : digB c
  · by_cases h1 : 97 ≤ c ∧ c ≤ 102
    · simp [h1]; omega
    · by_cases h2 : 65 ≤ c ∧ c ≤ 70
      · have h1' : (decide (97 ≤ c) && decide (c ≤ 102)) = false := by simp; omega
        simp [h1, h1', h2]; omega
      · have h1' : (decide (97 ≤ c) && decide (c ≤ 102)) = false := by simp; omega
        have h2' : (decide (65 ≤ c) && decide (c ≤ 70)) = false := by simp; omega
        simp [h1, h1', h2, h2']
  · unfold digB at h0
    simp at h0
    simp
    omega
theorem spec_l1Hex_is (c : Int) (h0 : 0 ≤ c) (h1 : c ≤ 255) (k : Nat) (hk : 2 ≤ k) : spec_l1Hex.f k c = some (hexV c) :=
  at_rounds (fun k => spec_l1Hex.mono c k) hk (byte_cases (p := fun c => spec_l1Hex.f 2 c = some (hexV c)) (by decide +kernel) c h0 h1)
/-- 'all' over a predicate. -/
theorem all_vis (s : ByteArray) (hs : s.size ≤ 9223372036854775807) : impl_all.f s 55 = some ((bytesOf s).all visB) := by
  unfold impl_all.f
  rw [if_pos hs]
  simp only [Nat.reduceEqDiff, if_true, if_false, reduceIte]
  rw [all_congr' fun c hc => (by rw [impl_isVisible_is]; cases visB c <;> rfl : (impl_isVisible.f c == some true) = visB c)]
theorem all_hex (s : ByteArray) (hs : s.size ≤ 9223372036854775807) : impl_all.f s 49 = some ((bytesOf s).all hexB) := by
  unfold impl_all.f
  rw [if_pos hs]
  simp only [Nat.reduceEqDiff, if_true, if_false, reduceIte]
  rw [all_congr' fun c hc => (by rw [impl_isHex_is]; cases hexB c <;> rfl : (impl_isHex.f c == some true) = hexB c)]
theorem all_dig (s : ByteArray) (hs : s.size ≤ 9223372036854775807) : impl_all.f s 72 = some ((bytesOf s).all digB) := by
  unfold impl_all.f
  rw [if_pos hs]
  simp only [Nat.reduceEqDiff, if_true, if_false, reduceIte]
  rw [all_congr' fun c hc => (by rw [impl_isDigit_is]; cases digB c <;> rfl : (impl_isDigit.f c == some true) = digB c)]
theorem bytes_extract (s : ByteArray) (a b : Nat) : bytesOf (s.extract a b) = ((bytesOf s).drop a).take (b - a) := by
  unfold bytesOf
  rw [Lib.extract_data, List.map_take, List.map_drop]
theorem bytes_last (s : ByteArray) (h : 0 < s.size) : bytesOf s = bytesOf (s.extract 0 (s.size - 1)) ++ [bt s ((s.size - 1 : Nat) : Int)] := by
  rw [bytes_extract, List.drop_zero, Nat.sub_zero]
  have h1 := drop_bt s (s.size - 1) (by omega)
  have h2 : (bytesOf s).drop (s.size - 1 + 1) = [] := List.drop_of_length_le (by rw [bytesOf_length]; omega)
  rw [h2] at h1
  rw [← h1, List.take_append_drop]
theorem bytes_first (s : ByteArray) (h : 0 < s.size) : bytesOf s = bt s 0 :: bytesOf (s.extract 1 s.size) := by
  rw [bytes_extract]
  have h1 := drop_bt s 0 h
  rw [List.drop_zero] at h1
  rw [List.take_of_length_le (by rw [List.length_drop, bytesOf_length]; exact Nat.le_refl _)]
  exact h1
theorem size_extract (s : ByteArray) (a b : Nat) (hb : b ≤ s.size) : (s.extract a b).size = b - a := by
  rw [← bytesOf_length, bytes_extract, List.length_take, List.length_drop, bytesOf_length]
  omega
theorem toList_nil (s : ByteArray) : s.toList = [] ↔ s.size = 0 := by
  rw [toList_data, ← data_length]
  exact List.length_eq_zero_iff.symm
theorem bytes_nil (s : ByteArray) (h : s.size = 0) : bytesOf s = [] := List.eq_nil_of_length_eq_zero (by rw [bytesOf_length]; exact h)
theorem bytes_ofList (l : List UInt8) : bytesOf ⟨l.toArray⟩ = l.map fun b => (b.toNat : Int) := by
  unfold bytesOf
  rfl
theorem bytes_two (s : ByteArray) (i : Nat) (h : i + 2 ≤ s.size) : bytesOf (s.extract i (i + 2)) = [bt s (i : Int), bt s ((i + 1 : Nat) : Int)] := by
  rw [bytes_extract, drop_bt s i (by omega), drop_bt s (i + 1) (by omega), show i + 2 - i = 2 from by omega]
  rfl
/-- From some number of rounds on it answers, and the answer is as told. -/
def TotP {α : Type} (g : Nat → Option α) (P : α → Prop) : Prop := ∃ r, Ev g r ∧ P r
theorem TotP.bind {α β : Type} {g : Nat → Option α} {f : Nat → α → Option β} {P : α → Prop} {Q : β → Prop} (h : TotP g P) (k : ∀ a, P a → TotP (fun n => f n a) Q) : TotP (fun n => (g n).bind (f n)) Q := by
  obtain ⟨a, ha, pa⟩ := h
  obtain ⟨b, hb, qb⟩ := k a pa
  exact ⟨b, Ev.bind ha hb, qb⟩
theorem TotP.of {α : Type} {x : Option α} {P : α → Prop} (h : ∃ r, x = some r ∧ P r) : TotP (fun _ => x) P := by
  obtain ⟨r, e, p⟩ := h
  exact ⟨r, ev_const e, p⟩
theorem TotP.now {α : Type} {r : α} {P : α → Prop} (p : P r) : TotP (fun _ => some r) P := ⟨r, Ev.now r, p⟩
theorem TotP.imp {α : Type} {g : Nat → Option α} {P Q : α → Prop} (h : TotP g P) (pq : ∀ r, P r → Q r) : TotP g Q := by
  obtain ⟨r, e, p⟩ := h
  exact ⟨r, e, pq r p⟩
theorem TotP.step {α : Type} {g f : Nat → Option α} {P : α → Prop} (h : ∀ k, g (k + 1) = f k) (t : TotP f P) : TotP g P := by
  obtain ⟨r, e, p⟩ := t
  exact ⟨r, Ev.step h e, p⟩
theorem TotP.ite {α : Type} {c : Prop} [Decidable c] {f g : Nat → Option α} {P : α → Prop} (hf : c → TotP f P) (hg : ¬ c → TotP g P) : TotP (fun k => if c then f k else g k) P := by
  by_cases h : c
  · simp only [if_pos h]; exact hf h
  · simp only [if_neg h]; exact hg h
theorem bindOf {α β : Type} {x : Option α} {f : α → Option β} {P : α → Prop} {Q : β → Prop} (h : ∃ r, x = some r ∧ P r) (k : ∀ a, P a → ∃ r, f a = some r ∧ Q r) : ∃ r, x.bind f = some r ∧ Q r := by
  obtain ⟨a, rfl, p⟩ := h
  exact k a p

theorem and255 (a : Int) : 0 ≤ Go.bits .and .i64 a 255 ∧ Go.bits .and .i64 a 255 ≤ 255 := by
  unfold Go.bits
  have h : ((BitVec.ofInt IntKind.i64.bits a) &&& (BitVec.ofInt IntKind.i64.bits 255)).toNat ≤ 255 := by
    rw [BitVec.toNat_and]
    exact Nat.le_trans Nat.and_le_right (by decide)
  show 0 ≤ IntKind.i64.wrap ((((BitVec.ofInt IntKind.i64.bits a) &&& (BitVec.ofInt IntKind.i64.bits 255)).toNat : Nat) : Int) ∧ IntKind.i64.wrap ((((BitVec.ofInt IntKind.i64.bits a) &&& (BitVec.ofInt IntKind.i64.bits 255)).toNat : Nat) : Int) ≤ 255
  generalize ((BitVec.ofInt IntKind.i64.bits a) &&& (BitVec.ofInt IntKind.i64.bits 255)).toNat = n at h ⊢
  rw [IntKind.wrap_i64]
  omega
/-- The cursor's place is no negative number. -/
theorem byte_ok (b : List Int) (i h : Int) (h0 : 0 ≤ i) (hb : b.length ≤ 140737488351232) : ∃ r : Int × Int × Int, spec_l1Byte.f b i h = some r ∧ (0 ≤ r.1 ∧ r.1 ≤ 255 ∧ 0 ≤ r.2.1) := by
  unfold spec_l1Byte.f
  by_cases hi : i < (b.length : Int)
  · rw [if_pos hi, if_pos h0]
    exact ⟨_, rfl, (and255 _).1, (and255 _).2, by show 0 ≤ wrap64 (i + 1); rw [wrap_in (by omega) (by omega)]; omega⟩
  · rw [if_neg hi]
    exact ⟨_, rfl, (and255 _).1, (and255 _).2, h0⟩
theorem below_ok (b : List Int) (i h n : Int) (h0 : 0 ≤ i) (hb : b.length ≤ 140737488351232) :
    ∃ r : Int × Int × Int, spec_l1Below.f b i h n = some r ∧ (0 ≤ r.1 ∧ (0 < n → r.1 < n) ∧ (n ≤ 0 → r.1 = 0) ∧ 0 ≤ r.2.1) := by
  unfold spec_l1Below.f
  by_cases hn : n ≤ 0
  · rw [if_pos hn]
    exact ⟨_, rfl, by show (0 : Int) ≤ 0; omega, fun h => by omega, fun _ => rfl, h0⟩
  · rw [if_neg hn]
    by_cases h2 : n ≤ 256
    · rw [if_pos h2]
      refine bindOf (byte_ok b i h h0 hb) fun r ⟨r0, r1, r2⟩ => ?_
      rw [if_neg (by omega)]
      refine ⟨_, rfl, ?_, fun _ => ?_, fun h => by omega, r2⟩
      · show 0 ≤ Int.tmod r.1 n
        rw [Int.tmod_eq_emod_of_nonneg r0]; exact Int.emod_nonneg _ (by omega)
      · show Int.tmod r.1 n < n
        rw [Int.tmod_eq_emod_of_nonneg r0]; exact Int.emod_lt_of_pos _ (by omega)
    · rw [if_neg h2]
      refine bindOf (byte_ok b i h h0 hb) fun r ⟨r0, r1, r2⟩ => ?_
      refine bindOf (byte_ok b _ _ r2 hb) fun s ⟨s0, s1, s2⟩ => ?_
      refine bindOf (byte_ok b _ _ s2 hb) fun t ⟨t0, t1, t2⟩ => ?_
      refine bindOf (byte_ok b _ _ t2 hb) fun u ⟨u0, u1, u2⟩ => ?_
      rw [if_neg (by omega)]
      rw [wrap_in (i := r.1 * 16777216) (by omega) (by omega), wrap_in (i := s.1 * 65536) (by omega) (by omega), wrap_in (i := r.1 * 16777216 + s.1 * 65536) (by omega) (by omega), wrap_in (i := t.1 * 256) (by omega) (by omega), wrap_in (i := r.1 * 16777216 + s.1 * 65536 + t.1 * 256) (by omega) (by omega), wrap_in (i := r.1 * 16777216 + s.1 * 65536 + t.1 * 256 + u.1) (by omega) (by omega)]
      refine ⟨_, rfl, ?_, fun _ => ?_, fun h => by omega, u2⟩
      · show 0 ≤ Int.tmod _ n
        rw [Int.tmod_eq_emod_of_nonneg (by omega)]; exact Int.emod_nonneg _ (by omega)
      · show Int.tmod _ n < n
        rw [Int.tmod_eq_emod_of_nonneg (by omega)]; exact Int.emod_lt_of_pos _ (by omega)
theorem once_ok (b : List Int) (i h n : Int) (h0 : 0 ≤ i) (hb : b.length ≤ 140737488351232) :
    ∃ r : Bool × Int × Int, spec_l1Once.f b i h n = some r ∧ 0 ≤ r.2.1 := by
  unfold spec_l1Once.f
  exact bindOf (below_ok b i h n h0 hb) fun r ⟨_, _, _, r3⟩ => ⟨_, rfl, r3⟩
theorem new_loop (b : List Int) (hb : b.length ≤ 140737488351232) (d : Nat) : ∀ (i : Nat) (x : Int), i + d = b.length → ∃ h, ∀ k, d < k → spec_l1New.l0 k b x (i : Int) = some (b, 0, h) := by
  induction d with
  | zero =>
    intro i x hd
    refine ⟨x, fun k hk => ?_⟩
    obtain ⟨k, rfl⟩ : ∃ z, k = z + 1 := ⟨k - 1, by omega⟩
    simp only [spec_l1New.l0]
    rw [if_neg (by omega)]
  | succ d ih =>
    intro i x hd
    obtain ⟨h, hh⟩ := ih (i + 1) (Go.bits .and .i64 (wrap64 ((wrap64 ((wrap64 (x * 137)) + (wrap64 (rd b (i : Int))))) + 11)) 1073741823) (by omega)
    refine ⟨h, fun k hk => ?_⟩
    obtain ⟨k, rfl⟩ : ∃ z, k = z + 1 := ⟨k - 1, by omega⟩
    simp only [spec_l1New.l0]
    rw [if_pos (by omega), if_pos (by omega), wrap_in (i := (i : Int) + 1) (by omega) (by omega)]
    exact hh k (by omega)
theorem new_ok (b : List Int) (hb : b.length ≤ 140737488351232) : TotP (fun k => spec_l1New.f k b) (fun r => r.1 = b ∧ 0 ≤ r.2.1) := by
  obtain ⟨h, hh⟩ := new_loop b hb b.length 0 (wrap64 (109013 + (b.length : Int))) (by omega)
  refine ⟨(b, 0, h), ⟨b.length + 1, fun k hk => ?_⟩, rfl, by show (0 : Int) ≤ 0; omega⟩
  unfold spec_l1New.f
  exact hh k (by omega)
theorem strOfNums_size (l : List Int) : (strOfNums l).size = l.length := by
  show (strOfNums l).data.size = _
  rw [← Array.length_toList, strOfNums_data, List.length_map]
theorem drawText_end (b : List Int) (hb : b.length ≤ 140737488351232) (x : List Int) (i h : Int) (h0 : 0 ≤ i) (k : Nat) : ∃ r, spec_l1DrawText.j1 (k + 1) x (decide ((x.length : Int) > 0)) b i h = some r ∧ (0 ≤ r.2.1 ∧ r.1.size = x.length) := by
  simp only [spec_l1DrawText.j1]
  by_cases hx : (x.length : Int) > 0
  · rw [decide_eq_true hx, if_pos rfl]
    refine bindOf (below_ok b i h _ h0 hb) fun r0 p0 => ?_
    refine bindOf (byte_ok b _ _ p0.2.2.2 hb) fun r1 p1 => ?_
    rw [if_pos p0.1, if_pos (p0.2.1 (by omega))]
    exact ⟨_, rfl, p1.2.2, by show (strOfNums _).size = _; rw [strOfNums_size, List.length_set]⟩
  · rw [decide_eq_false hx, if_neg (by simp)]
    exact ⟨_, rfl, h0, by show (strOfNums _).size = _; rw [strOfNums_size]⟩
theorem drawText_stop (b : List Int) (hb : b.length ≤ 140737488351232) (x : List Int) (i h : Int) (h0 : 0 ≤ i) (k : Nat) : ∃ r, spec_l1DrawText.j1 (k + 1) x false b i h = some r ∧ (0 ≤ r.2.1 ∧ r.1.size = x.length) := by
  simp only [spec_l1DrawText.j1]
  rw [if_neg (by simp)]
  exact ⟨_, rfl, h0, by show (strOfNums _).size = _; rw [strOfNums_size]⟩
theorem drawText_loop (b : List Int) (hb : b.length ≤ 140737488351232) (signs : ByteArray) (hs : 0 < signs.size) (d : Nat) : ∀ (x : List Int) (i h : Int), 0 ≤ i → x.length + d ≤ 1000000 →
    ∃ r, (0 ≤ r.2.1 ∧ r.1.size = x.length + d) ∧ ∀ k, d + 1 < k → spec_l1DrawText.l0 k signs x (d : Int) b i h = some r := by
  induction d with
  | zero =>
    intro x i h h0 hd
    obtain ⟨r0, e0, p0⟩ := once_ok b i h 14 h0 hb
    by_cases hc : r0.1 = true
    · obtain ⟨r1, _, p1⟩ := drawText_end b hb x r0.2.1 r0.2.2 p0 0
      refine ⟨r1, p1, fun k hk => ?_⟩
      obtain ⟨k, rfl⟩ : ∃ z, k = z + 2 := ⟨k - 2, by omega⟩
      simp only [spec_l1DrawText.l0]
      rw [if_neg (by omega), e0]
      simp only [Option.bind_some]
      rw [if_pos hc]
      obtain ⟨r2, e2, _⟩ := drawText_end b hb x r0.2.1 r0.2.2 p0 k
      have e3 : spec_l1DrawText.j1 (k + 1) x (decide ((x.length : Int) > 0)) b r0.2.1 r0.2.2 = spec_l1DrawText.j1 (0 + 1) x (decide ((x.length : Int) > 0)) b r0.2.1 r0.2.2 := by simp only [spec_l1DrawText.j1]
      rw [e3]
      assumption
    · refine ⟨(strOfNums x, r0.2.1, r0.2.2), ⟨p0, by show (strOfNums x).size = _; rw [strOfNums_size]; rfl⟩, fun k hk => ?_⟩
      obtain ⟨k, rfl⟩ : ∃ z, k = z + 2 := ⟨k - 2, by omega⟩
      simp only [spec_l1DrawText.l0]
      rw [if_neg (by omega), e0]
      simp only [Option.bind_some]
      rw [if_neg hc]
      simp only [spec_l1DrawText.j1]
      rw [if_neg (by simp)]
  | succ d ih =>
    intro x i h h0 hd
    obtain ⟨r0, e0, p0⟩ := below_ok b i h (signs.size : Int) h0 hb
    obtain ⟨r, p, hr⟩ := ih (x ++ [bt signs r0.1]) r0.2.1 r0.2.2 p0.2.2.2 (by rw [List.length_append, List.length_singleton]; omega)
    refine ⟨r, ⟨p.1, by rw [p.2, List.length_append, List.length_singleton]; omega⟩, fun k hk => ?_⟩
    obtain ⟨k, rfl⟩ : ∃ z, k = z + 1 := ⟨k - 1, by omega⟩
    simp only [spec_l1DrawText.l0]
    rw [if_pos (by omega), e0]
    simp only [Option.bind_some]
    rw [if_pos p0.1, if_pos (p0.2.1 (by omega)), if_pos (by omega), wrap_in (i := ((d + 1 : Nat) : Int) - 1) (by omega) (by omega), show ((d + 1 : Nat) : Int) - 1 = (d : Int) by omega]
    exact hr k (by omega)
theorem drawText_ok (b : List Int) (hb : b.length ≤ 140737488351232) (i h : Int) (h0 : 0 ≤ i) (signs : ByteArray) (hs : 0 < signs.size) (m : Int) (m0 : 0 ≤ m) (m1 : m ≤ 1000) :
    TotP (fun k => spec_l1DrawText.f k b i h signs m) (fun r => 0 ≤ r.2.1 ∧ r.1.size ≤ m.toNat) := by
  unfold spec_l1DrawText.f
  rw [wrap_in (i := m + 1) (by omega) (by omega)]
  refine TotP.bind (TotP.of (below_ok b i h _ h0 hb)) fun r0 p0 => ?_
  obtain ⟨r, p, hr⟩ := drawText_loop b hb signs hs r0.1.toNat [] r0.2.1 r0.2.2 p0.2.2.2 (by have := p0.2.1 (by omega); simp only [List.length_nil]; omega)
  refine ⟨r, ⟨r0.1.toNat + 2, fun k hk => ?_⟩, p.1, by rw [p.2]; have := p0.2.1 (by omega); simp only [List.length_nil]; omega⟩
  have := hr k (by omega)
  rw [Int.toNat_of_nonneg p0.1] at this
  exact this
theorem rd_byte (b : List Int) (hx : ∀ x ∈ b, 0 ≤ x ∧ x ≤ 255) (i : Int) : 0 ≤ rd b i ∧ rd b i ≤ 255 := by
  unfold rd
  rw [List.getD_eq_getElem?_getD]
  cases h : b[i.toNat]? with
  | none => exact ⟨by decide, by decide⟩
  | some v => exact hx v (List.mem_of_getElem? h)
end Go.Proofs.YtalbfkhkfhnmjaaDoor.Q
namespace Go.Proofs.YtalbfkhkfhnmjaaDoor.P
open Go.RowKit Go.Proofs.YtalbfkhkfhnmjaaDoorW.PrintWords Go.Proofs.YtalbfkhkfhnmjaaDoorW.PrintLast Go.Proofs.YtalbfkhkfhnmjaaDoorW.PrintMore
attribute [local go_sem] max2_int min2_int max_two min_two max_three min_three max_four min_four   -- for this text's walks alone
set_option linter.unusedVariables false
set_option linter.unusedSimpArgs false

/-! ### laws_eqStringS: function 9 -/
def laws_eqStringS.l0 : Nat → List ByteArray → List ByteArray → Int → Option (Bool)
 | 0, _, _, _ => none
 | k + 1, x0, x1, x5 => if x5 < (x0.length : Int) then (if 0 ≤ x5 then (if x5 < (x1.length : Int) then (if (rdOf ByteArray.empty x0 x5).toList = (rdOf ByteArray.empty x1 x5).toList then (laws_eqStringS.l0 k x0 x1 (wrap64 (x5 + 1))) else (some false)) else (none)) else (none)) else (some true)
def laws_eqStringS.f (k : Nat) (l0 : List ByteArray) (l1 : List ByteArray) : Option (Bool) := if (l0.length : Int) = (l1.length : Int) then (laws_eqStringS.l0 k l0 l1 0) else (some false)
theorem laws_eqStringS.mono_l : ∀ k, (∀ y0 y1 y2, LeO (laws_eqStringS.l0 k y0 y1 y2) (laws_eqStringS.l0 (k + 1) y0 y1 y2))
 | 0 => fun _ _ _ r h => by simp [laws_eqStringS.l0] at h
 | k + 1 => by
  have ih0 := laws_eqStringS.mono_l k
  ·
   intro y0 y1 y2
   unfold laws_eqStringS.l0
   repeat' first
   | (with_reducible exact ih0 _ _ _)
   | (with_reducible exact LeO.refl _)
   | (with_reducible exact LeO.none _)
   | (with_reducible refine LeO.ite ?_ ?_)
   | (with_reducible refine LeO.bind ?_ (fun _ => ?_))
   | exact ih0 _ _ _
   | exact LeO.none _
   | refine LeO.ite ?_ ?_
   | refine LeO.bind ?_ (fun _ => ?_)
theorem laws_eqStringS.mono : ∀ a0 a1 k, LeO (laws_eqStringS.f k a0 a1) (laws_eqStringS.f (k + 1) a0 a1) := by
 intro a0 a1 k
 have ih0 := laws_eqStringS.mono_l k
 unfold laws_eqStringS.f
 repeat' first
   | (with_reducible exact ih0 _ _ _)
   | (with_reducible exact LeO.refl _)
   | (with_reducible exact LeO.none _)
   | (with_reducible refine LeO.ite ?_ ?_)
   | (with_reducible refine LeO.bind ?_ (fun _ => ?_))
   | exact ih0 _ _ _
   | exact LeO.none _
   | refine LeO.ite ?_ ?_
   | refine LeO.bind ?_ (fun _ => ?_)
set_option maxHeartbeats 8000000 in
set_option maxRecDepth 100000 in
theorem laws_eqStringS.calls (k : Nat) (A0 : Option Addr) (c0 : Nat) (l0 : List ByteArray) (A1 : Option Addr) (c1 : Nat) (l1 : List ByteArray) (r : Bool) (w : World) (hr0 : Kd.C Kd.string w A0 l0.length l0) (hc0 : l0.length ≤ c0) (hr1 : Kd.C Kd.string w A1 l1.length l1) (hc1 : l1.length ≤ c1) (h : laws_eqStringS.f k l0 l1 = some r) :
  Calls Tryd.prog 9 #[.slice A0 l0.length c0, .slice A1 l1.length c1] w fun e w' => e = .returned (.bool r) ∧ Drawn0 w w' := by
 have HR0 := Aside0.mk hr0
 have HC0 := Aside0.mk hc0
 clear hr0 hc0
 have HR1 := Aside0.mk hr1
 have HC1 := Aside0.mk hc1
 clear hr1 hc1
 have H : (if (l0.length : Int) = (l1.length : Int) then (laws_eqStringS.l0 k l0 l1 0) else (some false)) = some r := h
 clear h
 by_cases c3 : (l0.length : Int) = (l1.length : Int)
 ·
  rw [if_pos c3] at H
  have c3b0 : ((l0.length : Int) == (l1.length : Int)) = true := beq_iff_eq.mpr c3
  have c3b1 : ((l0.length : Int) != (l1.length : Int)) = false := bne_eq_false_iff_eq.mpr c3
  have c3b2 : (l0.length == l1.length) = true := by first | simpa using c3 | (simp at c3 ⊢; omega)
  clear c3
  have H' := Aside0.mk H
  clear H
  go_enter Tryd.func9, Tryd.ntmps9
  go_wp2
  repeat (go_quiet (fail); try go_wp2)
  go_loopg [5] k (fun kq v5 w' => ∃ (x5_1 : Int), v5 = .int .i64 x5_1 ∧ Aside0 (laws_eqStringS.l0 kq l0 l1 x5_1 = some r) ∧ Aside0 (kq ≤ k) ∧ Drawn0 w w')
  case atStart => exact ⟨(0), (by first | rfl | (simp; done) | (simp [*]; done)), H', ⟨Nat.le_refl _⟩, by repeat (first | exact Drawn0.refl _ | apply Drawn0.step)⟩
  case round =>
   clear H'
   try clear c1
   try clear p2
   try clear c3
   try clear c3b0
   try clear c3b1
   try clear c3b2
   obtain ⟨x5_1, rfl, HA, HK1, ⟨m1, rfl⟩⟩ := hrel
   cases gk with
   | zero => exact absurd HA.out (by simp [laws_eqStringS.l0])
   | succ k1 =>
    have H := HA.out
    clear HA
    simp only [laws_eqStringS.l0] at H
    by_cases c4 : x5_1 < (l0.length : Int)
    ·
     rw [if_pos c4] at H
     have c4b0 : decide (x5_1 < (l0.length : Int)) = true := decide_eq_true c4
     clear c4
     by_cases c5 : 0 ≤ x5_1
     ·
      rw [if_pos c5] at H
      have c5b0 : decide (0 ≤ x5_1) = true := decide_eq_true c5
      clear c5
      by_cases c6 : x5_1 < (l1.length : Int)
      ·
       rw [if_pos c6] at H
       have c6b0 : decide (x5_1 < (l1.length : Int)) = true := decide_eq_true c6
       clear c6
       by_cases c7 : (rdOf ByteArray.empty l0 x5_1).toList = (rdOf ByteArray.empty l1 x5_1).toList
       ·
        rw [if_pos c7] at H
        have c7b0 : ((rdOf ByteArray.empty l0 x5_1).toList == (rdOf ByteArray.empty l1 x5_1).toList) = true := beq_iff_eq.mpr c7
        have c7b1 : ((rdOf ByteArray.empty l0 x5_1).toList != (rdOf ByteArray.empty l1 x5_1).toList) = false := bne_eq_false_iff_eq.mpr c7
        clear c7
        have H' := Aside0.mk H
        clear H
        have p101 : 0 ≤ (x5_1 : Int) := of_decide_eq_true (by first | (with_reducible assumption) | assumption)
        have q101 : x5_1 < (l0.length : Int) := of_decide_eq_true (by first | (with_reducible assumption) | assumption)
        obtain ⟨ad101, e101, hx101_0⟩ := Kd.at_string HR0.out x5_1 p101 q101
        cases e101
        replace p101 := eq_true p101
        replace q101 := eq_true q101
        have p102 : 0 ≤ (x5_1 : Int) := of_decide_eq_true (by first | (with_reducible assumption) | assumption)
        have q102 : x5_1 < (l1.length : Int) := of_decide_eq_true (by first | (with_reducible assumption) | assumption)
        obtain ⟨ad102, e102, hx102_0⟩ := Kd.at_string HR1.out x5_1 p102 q102
        cases e102
        replace p102 := eq_true p102
        replace q102 := eq_true q102
        go_wp2
        repeat (go_quiet (fail); try go_wp2)
        go_roundg k1
        case measure => have := HK1.out; omega
        case rel => exact ⟨(wrap64 (x5_1 + 1)), (by first | rfl | (simp; done) | (simp [*]; done)), H', ⟨by have := HK1.out; omega⟩, by repeat (first | exact Drawn0.refl _ | apply Drawn0.step)⟩
       ·
        rw [if_neg c7] at H
        have c7b0 : ((rdOf ByteArray.empty l0 x5_1).toList == (rdOf ByteArray.empty l1 x5_1).toList) = false := beq_eq_false_iff_ne.mpr c7
        have c7b1 : ((rdOf ByteArray.empty l0 x5_1).toList != (rdOf ByteArray.empty l1 x5_1).toList) = true := bne_iff_ne.mpr c7
        obtain rfl := Option.some.inj H
        have p101 : 0 ≤ (x5_1 : Int) := of_decide_eq_true (by first | (with_reducible assumption) | assumption)
        have q101 : x5_1 < (l0.length : Int) := of_decide_eq_true (by first | (with_reducible assumption) | assumption)
        obtain ⟨ad101, e101, hx101_0⟩ := Kd.at_string HR0.out x5_1 p101 q101
        cases e101
        replace p101 := eq_true p101
        replace q101 := eq_true q101
        have p102 : 0 ≤ (x5_1 : Int) := of_decide_eq_true (by first | (with_reducible assumption) | assumption)
        have q102 : x5_1 < (l1.length : Int) := of_decide_eq_true (by first | (with_reducible assumption) | assumption)
        obtain ⟨ad102, e102, hx102_0⟩ := Kd.at_string HR1.out x5_1 p102 q102
        cases e102
        replace p102 := eq_true p102
        replace q102 := eq_true q102
        go_wp2
        repeat (go_quiet (fail); try go_wp2)
        go_ret
        exact ⟨by first | rfl | (simp; done) | (simp [*]; done), by repeat (first | exact Drawn0.refl _ | apply Drawn0.step)⟩
      ·
       rw [if_neg c6] at H
       exact absurd H (by simp)
     ·
      rw [if_neg c5] at H
      exact absurd H (by simp)
    ·
     rw [if_neg c4] at H
     have c4b0 : decide (x5_1 < (l0.length : Int)) = false := decide_eq_false c4
     clear c4
     obtain rfl := Option.some.inj H
     go_wp2
     repeat (go_quiet (fail); try go_wp2)
     go_ret
     exact ⟨by first | rfl | (simp; done) | (simp [*]; done), by repeat (first | exact Drawn0.refl _ | apply Drawn0.step)⟩
 ·
  rw [if_neg c3] at H
  have c3b0 : ((l0.length : Int) == (l1.length : Int)) = false := beq_eq_false_iff_ne.mpr c3
  have c3b1 : ((l0.length : Int) != (l1.length : Int)) = true := bne_iff_ne.mpr c3
  have c3b2 : (l0.length == l1.length) = false := by first | simpa using c3 | (simp at c3 ⊢; omega)
  obtain rfl := Option.some.inj H
  go_enter Tryd.func9, Tryd.ntmps9
  go_wp2
  repeat (go_quiet (fail); try go_wp2)
  go_ret
  exact ⟨by first | rfl | (simp; done) | (simp [*]; done), by repeat (first | exact Drawn0.refl _ | apply Drawn0.step)⟩
/-! ### laws_heldStringS: function 11 -/
abbrev laws_heldStringS.d0 : Array Bool := #[false, false, false, false, false, false, false]
abbrev laws_heldStringS.d1 : Array Bool := #[true, false, false, false, false, false, false]
abbrev laws_heldStringS.d2 : Array Bool := #[true, true, false, false, false, false, false]
abbrev laws_heldStringS.d3 : Array Bool := #[true, true, true, false, false, false, false]
abbrev laws_heldStringS.d4 : Array Bool := #[true, true, true, false, true, false, false]
abbrev laws_heldStringS.d5 : Array Bool := #[true, true, true, true, true, false, false]
abbrev laws_heldStringS.d6 : Array Bool := #[true, true, true, true, true, true, false]
abbrev laws_heldStringS.d7 : Array Bool := #[true, true, true, true, true, true, true]
def laws_heldStringS.l0 : Nat → List ByteArray → Int → Int → Option (Int)
 | 0, _, _, _ => none
 | k + 1, x0, x1, x5 => if x5 < (x0.length : Int) then (if 0 ≤ x5 then ((laws_markText.f k x1).bind fun t102 => (if (rdOf ByteArray.empty x0 x5).toList = t102.toList then (laws_heldStringS.l0 k x0 (wrap64 (x1 + 1)) (wrap64 (x5 + 1))) else (some (-1)))) else (none)) else (some x1)
def laws_heldStringS.f (k : Nat) (l0 : List ByteArray) (a1 : Int) : Option (Int) := laws_heldStringS.l0 k l0 a1 0
theorem laws_heldStringS.mono_l : ∀ k, (∀ y0 y1 y2, LeO (laws_heldStringS.l0 k y0 y1 y2) (laws_heldStringS.l0 (k + 1) y0 y1 y2))
 | 0 => fun _ _ _ r h => by simp [laws_heldStringS.l0] at h
 | k + 1 => by
  have ih0 := laws_heldStringS.mono_l k
  ·
   intro y0 y1 y2
   unfold laws_heldStringS.l0
   repeat' first
   | (with_reducible exact ih0 _ _ _)
   | (with_reducible exact laws_markText.mono _ _)
   | (with_reducible exact LeO.refl _)
   | (with_reducible exact LeO.none _)
   | (with_reducible refine LeO.ite ?_ ?_)
   | (with_reducible refine LeO.bind ?_ (fun _ => ?_))
   | exact ih0 _ _ _
   | exact laws_markText.mono _ _
   | exact LeO.none _
   | refine LeO.ite ?_ ?_
   | refine LeO.bind ?_ (fun _ => ?_)
theorem laws_heldStringS.mono : ∀ a0 a1 k, LeO (laws_heldStringS.f k a0 a1) (laws_heldStringS.f (k + 1) a0 a1) := by
 intro a0 a1 k
 have ih0 := laws_heldStringS.mono_l k
 unfold laws_heldStringS.f
 repeat' first
   | (with_reducible exact ih0 _ _ _)
   | (with_reducible exact laws_markText.mono _ _)
   | (with_reducible exact LeO.refl _)
   | (with_reducible exact LeO.none _)
   | (with_reducible refine LeO.ite ?_ ?_)
   | (with_reducible refine LeO.bind ?_ (fun _ => ?_))
   | exact ih0 _ _ _
   | exact laws_markText.mono _ _
   | exact LeO.none _
   | refine LeO.ite ?_ ?_
   | refine LeO.bind ?_ (fun _ => ?_)
set_option maxHeartbeats 8000000 in
set_option maxRecDepth 100000 in
theorem laws_heldStringS.calls (k : Nat) (A0 : Option Addr) (c0 : Nat) (l0 : List ByteArray) (a1 : Int) (r : Int) (w : World) (hr0 : Kd.C Kd.string w A0 l0.length l0) (hc0 : l0.length ≤ c0) (h : laws_heldStringS.f k l0 a1 = some r) :
  Calls Tryd.prog 11 #[.slice A0 l0.length c0, .int .i64 a1] w fun e w' => e = .returned (.int .i64 r) ∧ Below w.heap.size w w' := by
 have HR0 := Aside0.mk hr0
 have HC0 := Aside0.mk hc0
 clear hr0 hc0
 have HB := Aside0.mk (Below.refl w.heap.size w)
 have H : (laws_heldStringS.l0 k l0 a1 0) = some r := h
 clear h
 have H' := Aside0.mk H
 clear H
 go_enter Tryd.func11, Tryd.ntmps11
 go_wp2
 go_loopg [1, 5] k (fun kq v1 v5 w' => ∃ (x1_1 : Int) (x5_1 : Int), v1 = .int .i64 x1_1 ∧ v5 = .int .i64 x5_1 ∧ Aside0 (laws_heldStringS.l0 kq l0 x1_1 x5_1 = some r) ∧ Aside0 (kq ≤ k) ∧ Aside0 (Below w.heap.size w w'))
 case atStart => exact ⟨(a1), (0), (by first | rfl | (simp; done) | (simp [*]; done)), (by first | rfl | (simp; done) | (simp [*]; done)), H', ⟨Nat.le_refl _⟩, ⟨bh⟩⟩
 case round =>
  clear H'
  try clear c1
  try clear p2
  obtain ⟨x1_1, x5_1, rfl, rfl, HA, HK1, HB⟩ := hrel
  cases gk with
  | zero => exact absurd HA.out (by simp [laws_heldStringS.l0])
  | succ k1 =>
   have H := HA.out
   clear HA
   simp only [laws_heldStringS.l0] at H
   by_cases c3 : x5_1 < (l0.length : Int)
   ·
    rw [if_pos c3] at H
    have c3b0 : decide (x5_1 < (l0.length : Int)) = true := decide_eq_true c3
    clear c3
    by_cases c4 : 0 ≤ x5_1
    ·
     rw [if_pos c4] at H
     have c4b0 : decide (0 ≤ x5_1) = true := decide_eq_true c4
     clear c4
     obtain ⟨t102, A50, H⟩ := Option.bind_eq_some_iff.mp H
     try dsimp only at H
     have A5 := Aside0.mk A50
     clear A50
     by_cases c6 : (rdOf ByteArray.empty l0 x5_1).toList = t102.toList
     ·
      rw [if_pos c6] at H
      have c6b0 : ((rdOf ByteArray.empty l0 x5_1).toList == t102.toList) = true := beq_iff_eq.mpr c6
      have c6b1 : ((rdOf ByteArray.empty l0 x5_1).toList != t102.toList) = false := bne_eq_false_iff_eq.mpr c6
      clear c6
      have H' := Aside0.mk H
      clear H
      try go_wp2
      replace HB := Aside0.mk (below_drew1 HB.out)
      have p101 : 0 ≤ (x5_1 : Int) := of_decide_eq_true (by first | (with_reducible assumption) | assumption)
      have q101 : x5_1 < (l0.length : Int) := of_decide_eq_true (by first | (with_reducible assumption) | assumption)
      obtain ⟨ad101, e101, hx101_0⟩ := Kd.at_string HR0.out x5_1 p101 q101
      have hw101_0 := hx101_0
      cases e101
      replace hx101_0 := (HB.out.cell (World.block_lt_of_cell? w _ hx101_0)).trans hx101_0
      replace p101 := eq_true p101
      replace q101 := eq_true q101
      refine start_ (n := 7) (S := fun w' => w'.cell? (ad101.add (x5_1).toNat) = some (.string (rdOf ByteArray.empty l0 x5_1))) (ds := []) laws_heldStringS.d0 (by kernel_rfl) rfl rfl (((HB.out.cell (World.block_lt_of_cell? w _ hw101_0)).trans hw101_0)) (fun hHeld => ?_)
      generalize wr.drew = w7 at HB hx101_0 hHeld ⊢
      refine pure_ (i := 0) (N := some 12) (v := ?_) (a' := ?_) laws_heldStringS.d1 rfl rfl (by kernel_rfl) (fun _ _ _ h => h) (Or.inl ⟨by rfl, ?_⟩) ?_ ?_
      rotate_left
      ·
       intro w'
       go_simp
       with_reducible rfl
      rotate_left
      ·
       simp only [Act.put, List.setIfInBounds_toArray, List.set_cons_zero, List.set_cons_succ, i64_w, i32_w]
       rfl
      refine pure_ (i := 1) (N := some 13) (v := ?_) (a' := ?_) laws_heldStringS.d2 rfl rfl (by kernel_rfl) (fun _ _ _ h => h) (Or.inl ⟨by rfl, ?_⟩) ?_ ?_
      rotate_left
      ·
       intro w'
       go_simp
       with_reducible rfl
      rotate_left
      ·
       simp only [Act.put, List.setIfInBounds_toArray, List.set_cons_zero, List.set_cons_succ, i64_w, i32_w]
       rfl
      refine pure_ (i := 2) (N := some 14) (v := ?_) (a' := ?_) laws_heldStringS.d3 rfl rfl (by kernel_rfl) (fun _ _ _ h => h) (Or.inl ⟨by rfl, ?_⟩) ?_ ?_
      rotate_left
      ·
       intro w'
       go_simp
       with_reducible rfl
      rotate_left
      ·
       simp only [Act.put, List.setIfInBounds_toArray, List.set_cons_zero, List.set_cons_succ, i64_w, i32_w]
       rfl
      refine pure_ (i := 4) (N := some 16) (v := ?_) (a' := ?_) laws_heldStringS.d4 rfl rfl (by kernel_rfl) (fun _ _ _ h => h) (Or.inl ⟨by rfl, ?_⟩) ?_ ?_
      rotate_left
      ·
       intro w'
       go_simp
       with_reducible rfl
      rotate_left
      ·
       simp only [Act.put, List.setIfInBounds_toArray, List.set_cons_zero, List.set_cons_succ, i64_w, i32_w]
       rfl
      refine take_ (i := 3) (N := some 15) (v := ?_) (a' := ?_) laws_heldStringS.d5 rfl rfl (by kernel_rfl) (fun _ _ _ h => h) (Or.inl ⟨by rfl, ?_⟩) hHeld ?_ ?_
      rotate_left
      ·
       intro w' s0
       go_simp
       with_reducible rfl
      rotate_left
      ·
       simp only [Act.put, List.setIfInBounds_toArray, List.set_cons_zero, List.set_cons_succ, i64_w, i32_w]
       rfl
      refine one_ (i := 5) (N := some 17) laws_heldStringS.d6 rfl rfl (by kernel_rfl) (by decide) (fun K hK => ?_)
      refine gs Tryd.func32 #[.int .i64 x1_1] ?_
      with_reducible refine (laws_markText.calls k1 x1_1 t102 _ A5.out).mono ?_
      rintro e w8 ⟨rfl, hb⟩
      refine ⟨_, rfl, ?_⟩
      replace HB := Aside0.mk (below_step bh hb)
      (try clear hb)
      (try clear hb2)
      (try clear hk)
      (try clear hi)
      refine hK.out _ _ (((HB.out.cell (World.block_lt_of_cell? w _ hw101_0)).trans hw101_0)) (fun hHeld => ?_)
      clear hK K
      refine nm 17 ?_
      refine pure_ (i := 6) (N := some 18) (v := ?_) (a' := ?_) laws_heldStringS.d7 rfl rfl (by kernel_rfl) (fun _ _ _ h => h) (Or.inl ⟨by rfl, ?_⟩) ?_ ?_
      rotate_left
      ·
       intro w'
       go_simp
       with_reducible rfl
      rotate_left
      ·
       simp only [Act.put, List.setIfInBounds_toArray, List.set_cons_zero, List.set_cons_succ, i64_w, i32_w]
       rfl
      refine done_ (by kernel_rfl) ?_
      try go_wp2
      go_roundg k1
      case measure => have := HK1.out; omega
      case rel => exact ⟨(wrap64 (x1_1 + 1)), (wrap64 (x5_1 + 1)), (by first | rfl | (simp; done) | (simp [*]; done)), (by first | rfl | (simp; done) | (simp [*]; done)), H', ⟨by have := HK1.out; omega⟩, ⟨bh⟩⟩
     ·
      rw [if_neg c6] at H
      have c6b0 : ((rdOf ByteArray.empty l0 x5_1).toList == t102.toList) = false := beq_eq_false_iff_ne.mpr c6
      have c6b1 : ((rdOf ByteArray.empty l0 x5_1).toList != t102.toList) = true := bne_iff_ne.mpr c6
      obtain rfl := Option.some.inj H
      try go_wp2
      replace HB := Aside0.mk (below_drew1 HB.out)
      have p101 : 0 ≤ (x5_1 : Int) := of_decide_eq_true (by first | (with_reducible assumption) | assumption)
      have q101 : x5_1 < (l0.length : Int) := of_decide_eq_true (by first | (with_reducible assumption) | assumption)
      obtain ⟨ad101, e101, hx101_0⟩ := Kd.at_string HR0.out x5_1 p101 q101
      have hw101_0 := hx101_0
      cases e101
      replace hx101_0 := (HB.out.cell (World.block_lt_of_cell? w _ hx101_0)).trans hx101_0
      replace p101 := eq_true p101
      replace q101 := eq_true q101
      refine start_ (n := 7) (S := fun w' => w'.cell? (ad101.add (x5_1).toNat) = some (.string (rdOf ByteArray.empty l0 x5_1))) (ds := []) laws_heldStringS.d0 (by kernel_rfl) rfl rfl (((HB.out.cell (World.block_lt_of_cell? w _ hw101_0)).trans hw101_0)) (fun hHeld => ?_)
      generalize wr.drew = w9 at HB hx101_0 hHeld ⊢
      refine pure_ (i := 0) (N := some 12) (v := ?_) (a' := ?_) laws_heldStringS.d1 rfl rfl (by kernel_rfl) (fun _ _ _ h => h) (Or.inl ⟨by rfl, ?_⟩) ?_ ?_
      rotate_left
      ·
       intro w'
       go_simp
       with_reducible rfl
      rotate_left
      ·
       simp only [Act.put, List.setIfInBounds_toArray, List.set_cons_zero, List.set_cons_succ, i64_w, i32_w]
       rfl
      refine pure_ (i := 1) (N := some 13) (v := ?_) (a' := ?_) laws_heldStringS.d2 rfl rfl (by kernel_rfl) (fun _ _ _ h => h) (Or.inl ⟨by rfl, ?_⟩) ?_ ?_
      rotate_left
      ·
       intro w'
       go_simp
       with_reducible rfl
      rotate_left
      ·
       simp only [Act.put, List.setIfInBounds_toArray, List.set_cons_zero, List.set_cons_succ, i64_w, i32_w]
       rfl
      refine pure_ (i := 2) (N := some 14) (v := ?_) (a' := ?_) laws_heldStringS.d3 rfl rfl (by kernel_rfl) (fun _ _ _ h => h) (Or.inl ⟨by rfl, ?_⟩) ?_ ?_
      rotate_left
      ·
       intro w'
       go_simp
       with_reducible rfl
      rotate_left
      ·
       simp only [Act.put, List.setIfInBounds_toArray, List.set_cons_zero, List.set_cons_succ, i64_w, i32_w]
       rfl
      refine pure_ (i := 4) (N := some 16) (v := ?_) (a' := ?_) laws_heldStringS.d4 rfl rfl (by kernel_rfl) (fun _ _ _ h => h) (Or.inl ⟨by rfl, ?_⟩) ?_ ?_
      rotate_left
      ·
       intro w'
       go_simp
       with_reducible rfl
      rotate_left
      ·
       simp only [Act.put, List.setIfInBounds_toArray, List.set_cons_zero, List.set_cons_succ, i64_w, i32_w]
       rfl
      refine take_ (i := 3) (N := some 15) (v := ?_) (a' := ?_) laws_heldStringS.d5 rfl rfl (by kernel_rfl) (fun _ _ _ h => h) (Or.inl ⟨by rfl, ?_⟩) hHeld ?_ ?_
      rotate_left
      ·
       intro w' s0
       go_simp
       with_reducible rfl
      rotate_left
      ·
       simp only [Act.put, List.setIfInBounds_toArray, List.set_cons_zero, List.set_cons_succ, i64_w, i32_w]
       rfl
      refine one_ (i := 5) (N := some 17) laws_heldStringS.d6 rfl rfl (by kernel_rfl) (by decide) (fun K hK => ?_)
      refine gs Tryd.func32 #[.int .i64 x1_1] ?_
      with_reducible refine (laws_markText.calls k1 x1_1 t102 _ A5.out).mono ?_
      rintro e w10 ⟨rfl, hb⟩
      refine ⟨_, rfl, ?_⟩
      replace HB := Aside0.mk (below_step bh hb)
      (try clear hb)
      (try clear hb2)
      (try clear hk)
      (try clear hi)
      refine hK.out _ _ (((HB.out.cell (World.block_lt_of_cell? w _ hw101_0)).trans hw101_0)) (fun hHeld => ?_)
      clear hK K
      refine nm 17 ?_
      refine pure_ (i := 6) (N := some 18) (v := ?_) (a' := ?_) laws_heldStringS.d7 rfl rfl (by kernel_rfl) (fun _ _ _ h => h) (Or.inl ⟨by rfl, ?_⟩) ?_ ?_
      rotate_left
      ·
       intro w'
       go_simp
       with_reducible rfl
      rotate_left
      ·
       simp only [Act.put, List.setIfInBounds_toArray, List.set_cons_zero, List.set_cons_succ, i64_w, i32_w]
       rfl
      refine done_ (by kernel_rfl) ?_
      try go_wp2
      go_ret
      exact ⟨er, bh⟩
    ·
     rw [if_neg c4] at H
     exact absurd H (by simp)
   ·
    rw [if_neg c3] at H
    have c3b0 : decide (x5_1 < (l0.length : Int)) = false := decide_eq_false c3
    clear c3
    obtain rfl := Option.some.inj H
    go_wp2
    go_ret
    exact ⟨er, bh⟩
/-! ### laws_markStringS: function 10 -/
def laws_markStringS.l0 : Nat → List ByteArray → Int → Int → Option (Int × List ByteArray)
 | 0, _, _, _ => none
 | k + 1, x0, x1, x5 => if x5 < (x0.length : Int) then ((laws_markText.f k x1).bind fun t101 => (if 0 ≤ x5 then (laws_markStringS.l0 k (x0.set (x5 : Int).toNat t101) (wrap64 (x1 + 1)) (wrap64 (x5 + 1))) else (none))) else (some (x1, x0))
def laws_markStringS.f (k : Nat) (l0 : List ByteArray) (a1 : Int) : Option (Int × List ByteArray) := laws_markStringS.l0 k l0 a1 0
theorem laws_markStringS.mono_l : ∀ k, (∀ y0 y1 y2, LeO (laws_markStringS.l0 k y0 y1 y2) (laws_markStringS.l0 (k + 1) y0 y1 y2))
 | 0 => fun _ _ _ r h => by simp [laws_markStringS.l0] at h
 | k + 1 => by
  have ih0 := laws_markStringS.mono_l k
  ·
   intro y0 y1 y2
   unfold laws_markStringS.l0
   repeat' first
   | (with_reducible exact ih0 _ _ _)
   | (with_reducible exact laws_markText.mono _ _)
   | (with_reducible exact LeO.refl _)
   | (with_reducible exact LeO.none _)
   | (with_reducible refine LeO.ite ?_ ?_)
   | (with_reducible refine LeO.bind ?_ (fun _ => ?_))
   | exact ih0 _ _ _
   | exact laws_markText.mono _ _
   | exact LeO.none _
   | refine LeO.ite ?_ ?_
   | refine LeO.bind ?_ (fun _ => ?_)
theorem laws_markStringS.mono : ∀ a0 a1 k, LeO (laws_markStringS.f k a0 a1) (laws_markStringS.f (k + 1) a0 a1) := by
 intro a0 a1 k
 have ih0 := laws_markStringS.mono_l k
 unfold laws_markStringS.f
 repeat' first
   | (with_reducible exact ih0 _ _ _)
   | (with_reducible exact laws_markText.mono _ _)
   | (with_reducible exact LeO.refl _)
   | (with_reducible exact LeO.none _)
   | (with_reducible refine LeO.ite ?_ ?_)
   | (with_reducible refine LeO.bind ?_ (fun _ => ?_))
   | exact ih0 _ _ _
   | exact laws_markText.mono _ _
   | exact LeO.none _
   | refine LeO.ite ?_ ?_
   | refine LeO.bind ?_ (fun _ => ?_)
set_option maxHeartbeats 8000000 in
set_option maxRecDepth 100000 in
theorem laws_markStringS.calls (k : Nat) (P0_ : Nat → Prop) (u9000_ : Value) (l0 : List ByteArray) (a1 : Int) (r1 : Int) (r2 : List ByteArray) (w0 w : World) (hB : Below w0.heap.size w0 w) (ho0 : Kd.R Kd.string 9 w w0.heap.size P0_ u9000_ l0) (h : laws_markStringS.f k l0 a1 = some (r1, r2)) :
  Calls Tryd.prog 10 #[u9000_, .int .i64 a1] w fun e w' => e = .returned (.int .i64 r1) ∧ Kd.R Kd.string 9 w' w0.heap.size (fun k_ => (P0_ k_ ∨ w.heap.size ≤ k_)) u9000_ r2 ∧ Below w0.heap.size w0 w' ∧ Kept w w' (fun k_ => P0_ k_) := by
 have HO0 := Aside0.mk (show Kd.R Kd.string 9 w w0.heap.size (fun k_ => (P0_ k_ ∨ w.heap.size ≤ k_)) u9000_ l0 from Kd.R_mono ho0 (fun k_ hk => (.inl hk)))
 have HK := Aside0.mk (Kept.refl w (fun k_ => P0_ k_))
 have HW0 := Aside0.mk hB.size
 have HB := Aside0.mk hB
 clear hB
 have H : (laws_markStringS.l0 k l0 a1 0) = some (r1, r2) := h
 clear h
 have H' := Aside0.mk H
 clear H
 go_enter Tryd.func10, Tryd.ntmps10
 go_wp2
 go_loopg [1, 5] k (fun kq v1 v5 w' => ∃ (x0_1 : List ByteArray) (x1_1 : Int) (x5_1 : Int), v1 = .int .i64 x1_1 ∧ v5 = .int .i64 x5_1 ∧ Aside0 (laws_markStringS.l0 kq x0_1 x1_1 x5_1 = some (r1, r2)) ∧ Aside0 (kq ≤ k) ∧ Aside0 (Kd.R Kd.string 9 w' w0.heap.size (fun k_ => (P0_ k_ ∨ w.heap.size ≤ k_)) u9000_ x0_1) ∧ Aside0 (Kept w w' (fun k_ => P0_ k_)) ∧ Aside0 (Below w0.heap.size w0 w'))
 case atStart => exact ⟨(l0), (a1), (0), (by first | rfl | (simp; done) | (simp [*]; done)), (by first | rfl | (simp; done) | (simp [*]; done)), H', ⟨Nat.le_refl _⟩, ⟨by (with_reducible repeat (first | apply Kd.R_alloc | apply Kd.R_drewN | apply Kd.R_drew)); exact HO0.out⟩, ⟨by repeat (first | (with_reducible first | exact HK.out | apply Kept.alloc | apply Kept.drewN | apply Kept.drew) | exact HK.out)⟩, ⟨bh⟩⟩
 case round =>
  clear H'
  try clear c1
  try clear p2
  obtain ⟨x0_1, x1_1, x5_1, rfl, rfl, HA, HK1, HO_0, HK, HB⟩ := hrel
  cases gk with
  | zero => exact absurd HA.out (by simp [laws_markStringS.l0])
  | succ k1 =>
   have H := HA.out
   clear HA
   simp only [laws_markStringS.l0] at H
   by_cases c3 : x5_1 < (x0_1.length : Int)
   ·
    rw [if_pos c3] at H
    have c3b0 : decide (x5_1 < (x0_1.length : Int)) = true := decide_eq_true c3
    clear c3
    obtain ⟨t101, A40, H⟩ := Option.bind_eq_some_iff.mp H
    try dsimp only at H
    have A4 := Aside0.mk A40
    clear A40
    by_cases c5 : 0 ≤ x5_1
    ·
     rw [if_pos c5] at H
     have c5b0 : decide (0 ≤ x5_1) = true := decide_eq_true c5
     clear c5
     obtain ⟨y102, hy102⟩ : ∃ y_ : List ByteArray, y_ = (x0_1.set (x5_1 : Int).toNat t101) := ⟨_, rfl⟩
     replace H : (laws_markStringS.l0 k1 y102 (wrap64 (x1_1 + 1)) (wrap64 (x5_1 + 1))) = some (r1, r2) := by first | (rw [hy102]; with_reducible exact H) | (have H2_ := (Option.bind_some _ _).symm.trans H; rw [hy102]; with_reducible exact H2_) | (have H2_ := (Option.bind_some _ _).symm.trans H; with_reducible exact H2_) | with_reducible exact H | (rw [hy102]; exact H) | exact H
     have Ny102 := Aside0.mk hy102
     clear hy102
     have H' := Aside0.mk H
     clear H
     obtain ⟨Ao7, co7, eo7⟩ := Kd.R_slice HO_0.out
     subst eo7
     go_wp2_with (first | ((with_reducible refine gate_callee (f := 32) rfl ?_); refine goesL_ (some 15) rfl rfl Tryd.func32 (by kernel_rfl) rfl #[.int .i64 x1_1] rfl mc ?_; (with_reducible refine (laws_markText.calls k1 x1_1 t101 _ A4.out).mono ?_); rintro e w8 ⟨rfl, hb⟩; refine ⟨_, rfl, ?_⟩; replace HO_0 := Aside0.mk (Kd.R_below (by (with_reducible repeat (first | apply Kd.R_alloc | apply Kd.R_drewN | apply Kd.R_drew)); exact HO_0.out) hb); replace HK := Aside0.mk (Kept.below (S := (fun k_ => P0_ k_)) (by repeat (first | (with_reducible first | exact HK.out | apply Kept.alloc | apply Kept.drewN | apply Kept.drew) | exact HK.out)) hb); replace HB := Aside0.mk (below_step bh hb); (try clear hb); (try clear hb2); (try clear hk); (try clear hi); have p6 : 0 ≤ (x5_1 : Int) := of_decide_eq_true (by first | (with_reducible assumption) | assumption); have q6 : (x5_1 : Int) < ((x0_1.length : Int) : Int) := of_decide_eq_true (by first | (with_reducible assumption) | assumption); obtain ⟨go6, co6, eo6, gb6, gl6, cl6, HG6⟩ := Kd.R_form HO_0.out (by omega); (first | cases eo6 | (injection eo6 with ea_ en_ ec_; (first | subst ea_ | (injection ea_ with ea_; subst ea_)); subst ec_; clear en_)); have GB6 := Aside0.mk gb6; have GG6 := Aside0.mk HG6; clear gb6 gl6 HG6; have HMgo6 := Aside0.mk (show (P0_ go6 ∨ w.heap.size ≤ go6) from (HO_0.out.1 _ rfl)); obtain ⟨hx6_0, hf6_0⟩ := Kd.R_celln (⟨#[]⟩ : ByteArray) HO_0.out (x5_1 : Int) p6 q6; replace p6 := eq_true p6; replace q6 := eq_true q6; obtain ⟨hy9_, hz9_⟩ := Kd.R_celln (⟨#[]⟩ : ByteArray) HO_0.out (x5_1 : Int) (of_decide_eq_true (by first | (with_reducible assumption) | assumption)) (of_decide_eq_true (by first | (with_reducible assumption) | assumption)); have HP9 := Kd.R_putg HO_0.out (x5_1 : Int) t101) | ((with_reducible refine gate_store (t := 9) (p := 16) rfl ?_); refine store_event (t := 9) (p := 16) (v := ?vo_w10) (w1 := (w8.setCell ⟨go6, (x5_1 : Int).toNat, none⟩ (.string t101))) ?hg ?ho ?hn ?hr ?_; (case ho => rfl); (case hg => rfl); (case hn => rfl); (case hr => first | (go_simp; done) | (go_simp; rfl)); intro w10 hw; have hg : w8.grownBy w10 (some go6) := (by rw [hw]; exact HP9.2); have hp_ : Kd.R Kd.string 9 w10 w0.heap.size (fun k_ => (P0_ k_ ∨ w.heap.size ≤ k_)) (.slice (some ⟨go6, 0, none⟩) x0_1.length co7) y102 := (by rw [hw, Ny102.out]; exact HP9.1); clear HP9; have n0_ := Aside0.mk (hp_); have n1_ := Aside0.mk ((by rw [hw]; exact below_set (HB.out) GB6.out : Below w0.heap.size w0 w10)); have n2_ := Aside0.mk (Kept.of_grown (S := (fun k_ => P0_ k_)) hg (by repeat (first | (with_reducible first | exact HK.out | apply Kept.alloc | apply Kept.drewN | apply Kept.drew) | exact HK.out)) (fun k_ e_ => (HO_0.out.1 k_ e_))); clear HO_0; clear HB; clear HK; have HO_0 := n0_; have HB := n1_; have HK := n2_; clear n0_ n1_ n2_; clear hg hw hp_))
     go_roundg k1
     case measure => have := HK1.out; omega
     case rel => exact ⟨(y102), (wrap64 (x1_1 + 1)), (wrap64 (x5_1 + 1)), (by first | rfl | (simp; done) | (simp [*]; done)), (by first | rfl | (simp; done) | (simp [*]; done)), H', ⟨by have := HK1.out; omega⟩, ⟨by (with_reducible repeat (first | apply Kd.R_alloc | apply Kd.R_drewN | apply Kd.R_drew)); exact HO_0.out⟩, ⟨by repeat (first | (with_reducible first | exact HK.out | apply Kept.alloc | apply Kept.drewN | apply Kept.drew) | exact HK.out)⟩, ⟨bh⟩⟩
    ·
     rw [if_neg c5] at H
     exact absurd H (by simp)
   ·
    rw [if_neg c3] at H
    have c3b0 : decide (x5_1 < (x0_1.length : Int)) = false := decide_eq_false c3
    clear c3
    simp only [Option.some.injEq, Prod.mk.injEq] at H
    obtain ⟨rfl, rfl⟩ := H
    obtain ⟨Ao11, co11, eo11⟩ := Kd.R_slice HO_0.out
    subst eo11
    go_wp2
    go_ret
    exact ⟨er, by (with_reducible repeat (first | apply Kd.R_alloc | apply Kd.R_drewN | apply Kd.R_drew)); exact HO_0.out, bh, by repeat (first | (with_reducible first | exact HK.out | apply Kept.alloc | apply Kept.drewN | apply Kept.drew) | exact HK.out)⟩
end Go.Proofs.YtalbfkhkfhnmjaaDoor.P
namespace Go.Proofs.YtalbfkhkfhnmjaaDoor.Q
set_option linter.unusedVariables false
set_option linter.unusedSimpArgs false
open Go.RowKit Go.Proofs.YtalbfkhkfhnmjaaDoor.P Go.Proofs.YtalbfkhkfhnmjaaDoorW.PrintWords Go.Proofs.YtalbfkhkfhnmjaaDoorW.PrintLast Go.Proofs.YtalbfkhkfhnmjaaDoorW.PrintMore

theorem markText_loop (d : Nat) : ∀ (n : Int) (s : ByteArray), 0 ≤ n → n < 10 ^ d → n ≤ 9223372036854775807 → s.size + d + 1 ≤ 9223372036854775807 → ∃ t, Ev (fun k => laws_markText.l0 k n s) t := by
  induction d with
  | zero =>
    intro n s h0 h1 h2 h3
    have hn : n = 0 := by simp at h1; omega
    subst hn
    refine ⟨_, Ev.step (f := fun _ => some ((⟨#[109]⟩ : ByteArray) ++ s)) (fun k => ?_) (Ev.now _)⟩
    simp only [laws_markText.l0]
    rw [if_neg (by omega), if_pos (by omega)]
  | succ d ih =>
    intro n s h0 h1 h2 h3
    by_cases hn : n > 0
    · have hd : Int.tdiv n 10 = n / 10 := Int.tdiv_eq_ediv_of_nonneg h0
      have hq : n / 10 < 10 ^ d := by rw [Int.pow_succ] at h1; omega
      obtain ⟨t, ht⟩ := ih (n / 10) (strOfNums [(wrap64 (48 + (Int.tmod n 10))) % 256] ++ s) (by omega) hq (by omega) (by
        rw [ByteArray.size_append]
        have : (strOfNums [(wrap64 (48 + (Int.tmod n 10))) % 256]).size = 1 := by rfl
        omega)
      refine ⟨t, Ev.step (f := fun k => laws_markText.l0 k (n / 10) (strOfNums [(wrap64 (48 + (Int.tmod n 10))) % 256] ++ s)) (fun k => ?_) ht⟩
      simp only [laws_markText.l0]
      rw [if_pos hn]
      simp only [Option.bind_some]
      rw [if_pos (by have : (strOfNums [(wrap64 (48 + (Int.tmod n 10))) % 256]).size = 1 := by rfl
                     omega), hd, wrap_in (by omega) (by omega)]
    · refine ⟨_, Ev.step (f := fun _ => some ((⟨#[109]⟩ : ByteArray) ++ s)) (fun k => ?_) (Ev.now _)⟩
      simp only [laws_markText.l0]
      rw [if_neg hn, if_pos (by omega)]
theorem markText_some (n : Int) (h : n ≤ 9223372036854775807) : ∃ t, Ev (fun k => laws_markText.f k n) t := by
  unfold laws_markText.f
  by_cases h0 : n ≤ 0
  · simp only [if_pos h0]
    exact ⟨_, Ev.now _⟩
  · simp only [if_neg h0]
    exact markText_loop 19 n ⟨#[]⟩ (by omega) (by omega) h (by decide)
/-- The text of a mark's number. -/
noncomputable def mT (n : Int) : ByteArray := Classical.epsilon fun t => Ev (fun k => laws_markText.f k n) t
theorem mT_ev (n : Int) (h : n ≤ 9223372036854775807) : Ev (fun k => laws_markText.f k n) (mT n) := Classical.epsilon_spec (p := fun t => Ev (fun k => laws_markText.f k n) t) (markText_some n h)
def blaB (c : Int) : Bool := decide (c = 32) || decide (c = 9)
/-- A list without the blanks at its beginning, at its end. -/
def dropL (l : List Int) : List Int := l.dropWhile blaB
def dropR (l : List Int) : List Int := (l.reverse.dropWhile blaB).reverse
def trimN (l : List Int) : List Int := dropL (dropR l)
theorem dropR_nil : dropR [] = [] := rfl
theorem dropR_snoc (l : List Int) (c : Int) : dropR (l ++ [c]) = if blaB c = true then dropR l else l ++ [c] := by
  unfold dropR
  rw [List.reverse_append, List.reverse_singleton, List.singleton_append, List.dropWhile_cons]
  split
  · rfl
  · simp
theorem dropL_cons (l : List Int) (c : Int) : dropL (c :: l) = if blaB c = true then dropL l else c :: l := by
  unfold dropL
  rw [List.dropWhile_cons]
theorem drop_comm (l : List Int) : dropR (dropL l) = dropL (dropR l) := by
  induction l with
  | nil => rfl
  | cons c cs ih =>
    rw [dropL_cons]
    by_cases h : blaB c = true
    · rw [if_pos h, ih]
      have key : ∀ l : List Int, dropL (dropR (c :: l)) = dropL (dropR l) := by
        intro l
        have aux : ∀ n : Nat, ∀ l : List Int, l.length = n → dropL (dropR (c :: l)) = dropL (dropR l) := by
          intro n
          induction n with
          | zero =>
            intro l hl
            obtain rfl := List.eq_nil_of_length_eq_zero hl
            have : dropR [c] = [] := by
              have := dropR_snoc [] c
              rw [List.nil_append, if_pos h] at this
              exact this
            rw [this, dropR_nil]
          | succ n ihn =>
            intro l hl
            obtain ⟨l', x, rfl⟩ : ∃ l' x, l = l' ++ [x] := ⟨l.dropLast, l.getLast (by intro e; rw [e] at hl; cases hl), (List.dropLast_concat_getLast _).symm⟩
            rw [← List.cons_append, dropR_snoc, dropR_snoc]
            by_cases hx : blaB x = true
            · rw [if_pos hx, if_pos hx]
              exact ihn l' (by simpa using hl)
            · rw [if_neg hx, if_neg hx, List.cons_append, dropL_cons, if_pos h]
        exact aux _ l rfl
      exact (key cs).symm
    · rw [if_neg h]
      have : ∃ l', dropR (c :: cs) = c :: l' := by
        have aux : ∀ n : Nat, ∀ l : List Int, l.length = n → ∃ l', dropR (c :: l) = c :: l' := by
          intro n
          induction n with
          | zero =>
            intro l hl
            obtain rfl := List.eq_nil_of_length_eq_zero hl
            have := dropR_snoc [] c
            rw [List.nil_append, if_neg h] at this
            exact ⟨[], this⟩
          | succ n ihn =>
            intro l hl
            obtain ⟨l', x, rfl⟩ : ∃ l' x, l = l' ++ [x] := ⟨l.dropLast, l.getLast (by intro e; rw [e] at hl; cases hl), (List.dropLast_concat_getLast _).symm⟩
            rw [← List.cons_append, dropR_snoc]
            by_cases hx : blaB x = true
            · rw [if_pos hx]
              exact ihn l' (by simpa using hl)
            · rw [if_neg hx]
              exact ⟨l' ++ [x], rfl⟩
        exact aux _ cs rfl
      obtain ⟨l', e⟩ := this
      rw [e, dropL_cons, if_neg h]
theorem spec_l1Blank_is (c : Int) : spec_l1Blank.f c = some (blaB c) := by
  unfold spec_l1Blank.f blaB
  by_cases h : c = 32
  · simp [h]
  · by_cases h2 : c = 9 <;> simp [h, h2]
theorem spec_Trimmed_right (n : Nat) : ∀ s : ByteArray, s.size = n → n ≤ 4611686018427387904 → Ev (fun k => spec_Trimmed.l1 k s) (strOfNums (dropR (bytesOf s))) := by
  induction n with
  | zero =>
    intro s hs _
    refine Ev.step (f := fun _ => some s) (fun k => ?_) (ev_eq (Ev.now _) ?_)
    · simp only [spec_Trimmed.l1]
      rw [if_pos ((toList_nil s).2 hs)]
    · rw [bytes_nil s hs, dropR_nil, ← bytes_nil s hs, nums_bytes]
  | succ n ih =>
    intro s hs hn
    have e := bytes_last s (by omega)
    have hi : wrap64 ((s.size : Int) - 1) = ((s.size - 1 : Nat) : Int) := by rw [wrap_in (by omega) (by omega)]; omega
    rw [e, dropR_snoc, ← e]
    by_cases hb : blaB (bt s ((s.size - 1 : Nat) : Int)) = true
    · rw [if_pos hb]
      refine Ev.step (f := fun k => spec_Trimmed.l1 k (s.extract 0 (s.size - 1))) (fun k => ?_) (ih _ (by rw [size_extract s _ _ (by omega)]; omega) (by omega))
      simp only [spec_Trimmed.l1]
      rw [if_neg (by rw [toList_nil]; omega), hi, if_pos (by omega), if_pos (by omega), spec_l1Blank_is]
      simp only [Option.bind_some]
      rw [if_pos hb, if_pos (by omega), Int.toNat_natCast]
    · rw [if_neg hb, nums_bytes]
      refine Ev.step (f := fun _ => some s) (fun k => ?_) (Ev.now _)
      simp only [spec_Trimmed.l1]
      rw [if_neg (by rw [toList_nil]; omega), hi, if_pos (by omega), if_pos (by omega), spec_l1Blank_is]
      simp only [Option.bind_some]
      rw [if_neg hb]
theorem spec_Trimmed_left (n : Nat) : ∀ s : ByteArray, s.size = n → n ≤ 4611686018427387904 → Ev (fun k => spec_Trimmed.l0 k s) (strOfNums (dropR (dropL (bytesOf s)))) := by
  induction n with
  | zero =>
    intro s hs h0
    refine Ev.step (f := fun k => spec_Trimmed.j1 k s) (fun k => ?_) (Ev.step (f := fun k => spec_Trimmed.l1 k s) (fun k => ?_) (ev_eq (spec_Trimmed_right 0 s hs h0) ?_))
    · simp only [spec_Trimmed.l0]
      rw [if_pos ((toList_nil s).2 hs)]
    · simp only [spec_Trimmed.j1]
    · rw [bytes_nil s hs]; rfl
  | succ n ih =>
    intro s hs hn
    have e := bytes_first s (by omega)
    rw [e, dropL_cons, ← e]
    by_cases hb : blaB (bt s 0) = true
    · rw [if_pos hb]
      refine Ev.step (f := fun k => spec_Trimmed.l0 k (s.extract 1 s.size)) (fun k => ?_) (ih _ (by rw [size_extract s _ _ (by omega)]; omega) (by omega))
      simp only [spec_Trimmed.l0]
      rw [if_neg (by rw [toList_nil]; omega), if_pos (by omega), spec_l1Blank_is]
      simp only [Option.bind_some]
      rw [if_pos hb, if_pos (by omega)]
    · rw [if_neg hb]
      refine Ev.step (f := fun k => spec_Trimmed.j1 k s) (fun k => ?_) (Ev.step (f := fun k => spec_Trimmed.l1 k s) (fun k => ?_) (spec_Trimmed_right _ s rfl (by omega)))
      · simp only [spec_Trimmed.l0]
        rw [if_neg (by rw [toList_nil]; omega), if_pos (by omega), spec_l1Blank_is]
        simp only [Option.bind_some]
        rw [if_neg hb]
      · simp only [spec_Trimmed.j1]
/-- A text without the blanks at its ends. -/
def trimT (s : ByteArray) : ByteArray := strOfNums (trimN (bytesOf s))
theorem spec_Trimmed_ev (s : ByteArray) (hs : s.size ≤ 4611686018427387904) : Ev (fun k => spec_Trimmed.f k s) (trimT s) := by
  unfold spec_Trimmed.f trimT trimN
  rw [← drop_comm]
  exact spec_Trimmed_left _ s rfl hs
theorem bla_u8 (b : UInt8) : ([32, 9] : List UInt8).contains b = blaB (b.toNat : Int) := by
  have n32 : (b.toNat : Int) = 32 → b = 32 := fun h => by
    refine UInt8.toNat_inj.1 ?_
    have e : b.toNat = 32 := by omega
    rw [e]; rfl
  have n9 : (b.toNat : Int) = 9 → b = 9 := fun h => by
    refine UInt8.toNat_inj.1 ?_
    have e : b.toNat = 9 := by omega
    rw [e]; rfl
  have h1 : b = 32 ↔ (b.toNat : Int) = 32 := ⟨fun h => by rw [h]; rfl, n32⟩
  have h2 : b = 9 ↔ (b.toNat : Int) = 9 := ⟨fun h => by rw [h]; rfl, n9⟩
  unfold blaB
  rw [show decide ((b.toNat : Int) = 32) = decide (b = 32) from decide_eq_decide.2 h1.symm, show decide ((b.toNat : Int) = 9) = decide (b = 9) from decide_eq_decide.2 h2.symm]
  by_cases a : b = 32
  · simp [a]
  · by_cases c : b = 9 <;> simp [a, c]
theorem dropW_map (l : List UInt8) : (l.dropWhile (([32, 9] : List UInt8).contains ·)).map (fun b => (b.toNat : Int)) = dropL (l.map fun b => (b.toNat : Int)) := by
  induction l with
  | nil => rfl
  | cons b l ih =>
    rw [List.map_cons, dropL_cons, List.dropWhile_cons, bla_u8]
    split
    · exact ih
    · rfl
theorem impl_Trimmed_is (s : ByteArray) (hs : s.size ≤ 9223372036854775807) : impl_Trimmed.f s = some (trimT s) := by
  unfold impl_Trimmed.f strings_Trim.f
  rw [if_pos ⟨hs, by decide, by decide⟩]
  refine congrArg some (bytes_inj ?_)
  have h0 : ∀ c ∈ trimN (bytesOf s), 0 ≤ c ∧ c ≤ 255 := by
    intro c hc
    refine mem_bytes (s := s) ?_
    unfold trimN dropL dropR at hc
    have h1 := (List.dropWhile_sublist _).subset hc
    rw [List.mem_reverse] at h1
    have h2 := (List.dropWhile_sublist _).subset h1
    rwa [List.mem_reverse] at h2
  unfold trimT
  rw [bytes_nums _ h0, bytes_ofList]
  unfold Lib.trimS Lib.trimLeftS Lib.trimRightS trimN dropR
  rw [show ((⟨#[32, 9]⟩ : ByteArray).data.toList) = ([32, 9] : List UInt8) from rfl, dropW_map, List.map_reverse, dropW_map, List.map_reverse]
  rfl
def visOk (s : ByteArray) : Bool := decide (s.size ≤ 400) && (bytesOf s).all visB
theorem spec_VisibleOk_ev (s : ByteArray) (hs : s.size ≤ 4611686018427387904) : Ev (fun k => spec_VisibleOk.f k s) (visOk s) := by
  unfold spec_VisibleOk.f visOk
  by_cases h : (s.size : Int) > 400
  · simp only [if_pos h]
    exact ev_const (by rw [decide_eq_false (by omega), Bool.false_and])
  · simp only [if_neg h]
    rw [decide_eq_true (by omega), Bool.true_and]
    refine ev_all s visB (fun k i => spec_VisibleOk.l0 k s i) 0 (fun k i _ hi hp => ?_) (fun k i _ hi hp => ?_) (fun k _ => ?_)
    · simp only [spec_VisibleOk.l0]
      rw [if_pos (by omega), if_pos (by omega), wrap_next hi hs]
      unfold visB at hp
      by_cases h1 : bt s i < 32
      · have h9 : bt s i = 9 := by simp at hp; omega
        rw [if_pos h1, if_pos h9]
      · rw [if_neg h1]
        by_cases h2 : bt s i > 126
        · have h9 : bt s i = 9 := by simp at hp; omega
          rw [if_pos h2, if_pos h9]
        · rw [if_neg h2]
    · simp only [spec_VisibleOk.l0]
      rw [if_pos (by omega), if_pos (by omega)]
      unfold visB at hp
      simp at hp
      by_cases h1 : bt s i < 32
      · rw [if_pos h1, if_neg hp.2]
      · rw [if_neg h1, if_pos (by omega), if_neg hp.2]
    · simp only [spec_VisibleOk.l0]
      rw [if_neg (by omega)]
theorem impl_VisibleOk_is (s : ByteArray) (hs : s.size ≤ 4611686018427387904) : impl_VisibleOk.f s = some (visOk s) := by
  unfold impl_VisibleOk.f visOk
  by_cases h : (s.size : Int) ≤ 400
  · rw [if_pos h, all_vis s (by omega), decide_eq_true (by omega), Bool.true_and]; rfl
  · rw [if_neg h, decide_eq_false (by omega), Bool.false_and]
theorem rd_i (l : List ByteArray) (i : Nat) (h : i < l.length) : rdOf ByteArray.empty l (i : Int) = l[i] := by
  simp [rdOf, List.getD_eq_getElem?_getD, h]
theorem eqTexts_self (l : List ByteArray) (hl : l.length ≤ 1048576) : Ev (fun k => laws_eqStringS.f k l l) true := by
  unfold laws_eqStringS.f
  simp only [if_true]
  have key : ∀ (n i : Nat), i + n = l.length → Ev (fun k => laws_eqStringS.l0 k l l (i : Int)) true := by
    intro n
    induction n with
    | zero =>
      intro i hd
      refine Ev.step (f := fun _ => some true) (fun k => ?_) (Ev.now _)
      simp only [laws_eqStringS.l0]
      rw [if_neg (by omega)]
    | succ n ih =>
      intro i hd
      refine Ev.step (fun k => ?_) (ih (i + 1) (by omega))
      simp only [laws_eqStringS.l0]
      have hw2 : wrap64 ((i : Int) + 1) = ((i + 1 : Nat) : Int) := by rw [wrap_in (by omega) (by omega)]; omega
      rw [if_pos (by omega), if_pos (by omega), if_pos (by omega), if_pos trivial, hw2]
  exact key l.length 0 (by omega)
/-- A list's marks. -/
noncomputable def mkS (m : Int) : List ByteArray → List ByteArray
  | [] => []
  | _ :: xs => mT m :: mkS (m + 1) xs
theorem markStringS_loop (B : List ByteArray) : ∀ (A : List ByteArray) (m : Int), 0 ≤ m → m + B.length ≤ 9000000 → A.length + B.length ≤ 9000000 →
    Ev (fun k => laws_markStringS.l0 k (A ++ B) m (A.length : Int)) (m + B.length, A ++ mkS m B) := by
  induction B with
  | nil =>
    intro A m h0 h1 h2
    refine Ev.step (f := fun _ => some (m, A)) (fun k => ?_) (ev_eq (Ev.now _) (by simp [mkS]))
    simp only [laws_markStringS.l0]
    rw [List.append_nil, if_neg (by omega)]
  | cons b B ih =>
    intro A m h0 h1 h2
    rw [List.length_cons] at h1 h2
    have hn := ih (A ++ [mT m]) (m + 1) (by omega) (by omega) (by rw [List.length_append, List.length_singleton]; omega)
    rw [List.length_append, List.length_singleton, List.append_assoc] at hn
    refine Ev.step (f := fun k => (laws_markText.f k m).bind fun t101 => laws_markStringS.l0 k (A ++ ([t101] ++ B)) (m + 1) ((A.length + 1 : Nat) : Int)) (fun k => ?_) (Ev.bind (mT_ev m (by omega)) (ev_eq hn ?_))
    · simp only [laws_markStringS.l0]
      have h0 : (0 : Int) ≤ (A.length : Int) := by omega
      rw [if_pos (by rw [List.length_append, List.length_cons]; omega), wrap_in (i := m + 1) (by omega) (by omega), wrap_in (i := (A.length : Int) + 1) (by omega) (by omega)]
      simp only [if_pos h0, Int.toNat_natCast]
      congr 1
      funext t
      simp
    · rw [List.append_assoc]
      simp only [mkS, List.length_cons, List.singleton_append]
      congr 1
      omega
theorem markStringS_ev (l : List ByteArray) (hl : l.length ≤ 1048576) : Ev (fun k => laws_markStringS.f k l 1) (1 + (l.length : Int), mkS 1 l) := by
  unfold laws_markStringS.f
  exact markStringS_loop l [] 1 (by decide) (by omega) (by simp; omega)
theorem mkS_length (l : List ByteArray) : ∀ m, (mkS m l).length = l.length := by
  induction l with
  | nil => intro m; rfl
  | cons a l ih => intro m; simp [mkS, ih]
theorem heldStringS_loop (B : List ByteArray) : ∀ (A : List ByteArray) (m : Int), 0 ≤ m → m + B.length ≤ 9000000 → A.length + B.length ≤ 9000000 →
    Ev (fun k => laws_heldStringS.l0 k (A ++ mkS m B) m (A.length : Int)) (m + B.length) := by
  induction B with
  | nil =>
    intro A m h0 h1 h2
    refine Ev.step (f := fun _ => some m) (fun k => ?_) (ev_eq (Ev.now _) (by simp))
    have e : A ++ mkS m [] = A := by simp [mkS]
    rw [e]
    simp only [laws_heldStringS.l0]
    rw [if_neg (by omega)]
  | cons b B ih =>
    intro A m h0 h1 h2
    rw [List.length_cons] at h1 h2
    have hn := ih (A ++ [mT m]) (m + 1) (by omega) (by omega) (by rw [List.length_append, List.length_singleton]; omega)
    rw [List.length_append, List.length_singleton, List.append_assoc] at hn
    have hlen : (A ++ mkS m (b :: B)).length = A.length + (B.length + 1) := by rw [List.length_append, mkS_length, List.length_cons]
    have hrd : rdOf ByteArray.empty (A ++ mkS m (b :: B)) (A.length : Int) = mT m := by
      rw [rd_i _ _ (by rw [hlen]; omega)]
      simp [mkS]
    refine Ev.step (f := fun k => (laws_markText.f k m).bind fun t102 => if (mT m).toList = t102.toList then laws_heldStringS.l0 k (A ++ mkS m (b :: B)) (m + 1) ((A.length + 1 : Nat) : Int) else some (-1)) (fun k => ?_) (Ev.bind (mT_ev m (by omega)) ?_)
    · simp only [laws_heldStringS.l0]
      rw [if_pos (by rw [hlen]; omega), if_pos (by omega), hrd, wrap_in (i := m + 1) (by omega) (by omega), wrap_in (i := (A.length : Int) + 1) (by omega) (by omega)]
      rfl
    · simp only [if_true]
      refine ev_eq hn ?_
      rw [List.length_cons]
      omega
theorem heldStringS_ev (l : List ByteArray) (hl : l.length ≤ 1048576) : Ev (fun k => laws_heldStringS.f k (mkS 1 l) 1) (1 + (l.length : Int)) := by
  unfold laws_heldStringS.f
  exact heldStringS_loop l [] 1 (by decide) (by omega) (by simp; omega)
theorem trim_same (p : ByteArray) (h : p.size ≤ 9223372036854775807) : trimS p = trimT p := by
  have h1 := trimmed_is p h
  rw [impl_Trimmed_is p h] at h1
  exact (Option.some.inj h1).symm
theorem items_put_ev (s : ByteArray) (hs : s.size ≤ 400) (out : List ByteArray) (ho : out.length ≤ 1000) (fr i : Nat) (hf : fr ≤ i) (hi : i ≤ s.size) (op : Bool) (r : List ByteArray)
    (h : Ev (fun k => spec_Items.l0 k s (out ++ itemL (s.extract fr i)) ((i + 1 : Nat) : Int) op ((i + 1 : Nat) : Int)) r) : Ev (fun k => spec_Items.j1 k s out (fr : Int) op (i : Int) true) r := by
  have hz : (s.extract fr i).size ≤ 400 := by rw [ByteArray.size_extract]; omega
  have hw : wrap64 ((i : Int) + 1) = ((i + 1 : Nat) : Int) := by rw [wrap_in (by omega) (by omega)]; omega
  refine Ev.step (f := fun k => (spec_Trimmed.f k (s.extract fr i)).bind fun t105 => (if t105.toList = ([] : List UInt8) then (spec_Items.l0 k s out ((i + 1 : Nat) : Int) op ((i + 1 : Nat) : Int)) else (if out.length < 8796093022208 then (spec_Items.l0 k s (out ++ [t105]) ((i + 1 : Nat) : Int) op ((i + 1 : Nat) : Int)) else (none)))) (fun k => ?_) (Ev.bind (spec_Trimmed_ev _ (by omega)) ?_)
  · simp only [spec_Items.j1]
    rw [if_pos trivial, if_pos (by omega), if_pos (by omega), if_pos (by omega), Int.toNat_natCast, Int.toNat_natCast, hw]
  · have ht := trim_same (s.extract fr i) (by omega)
    unfold itemL at h
    rw [ht] at h
    by_cases c : (trimT (s.extract fr i)).toList = []
    · simp only [if_pos c] at h ⊢
      rw [List.append_nil] at h
      exact h
    · have h8 : out.length < 8796093022208 := by omega
      simp only [if_neg c, if_pos h8] at h ⊢
      exact h
theorem items_end (s : ByteArray) (hs : s.size ≤ 400) (out : List ByteArray) (ho : out.length ≤ 1000) (fr : Nat) (hf : fr ≤ s.size) (op : Bool) : Ev (fun k => spec_Items.l0 k s out (fr : Int) op (s.size : Int)) (out ++ itemL (s.extract fr s.size)) := by
  have h := items_put_ev s hs out ho fr s.size hf (Nat.le_refl _) op (out ++ itemL (s.extract fr s.size)) (Ev.step (f := fun _ => some (out ++ itemL (s.extract fr s.size))) (fun k => by
    simp only [spec_Items.l0]
    rw [if_neg (by omega)]) (Ev.now _))
  refine Ev.step (fun k => ?_) h
  simp only [spec_Items.l0]
  rw [if_pos (by omega), if_pos trivial]
theorem spec_Items_loop (s : ByteArray) (hs : s.size ≤ 400) (n : Nat) : ∀ (i fr : Nat) (op : Bool) (out : List ByteArray), i ≤ s.size → fr ≤ i → s.size ≤ i + n → out.length ≤ fr → Ev (fun k => spec_Items.l0 k s out (fr : Int) op (i : Int)) (itemsG s n out fr op i) := by
  induction n with
  | zero =>
    intro i fr op out hi hf hn ho
    have e : i = s.size := by omega
    subst e
    exact items_end s hs out (by omega) fr hf op
  | succ n ih =>
    intro i fr op out hi hf hn ho
    rw [itemsG]
    by_cases hlt : i < s.size
    · rw [if_pos hlt]
      have hw : wrap64 ((i : Int) + 1) = ((i + 1 : Nat) : Int) := by rw [wrap_in (by omega) (by omega)]; omega
      have hne : ¬ (i : Int) = (s.size : Int) := by omega
      have l0 : ∀ k, spec_Items.l0 (k + 1) s out (fr : Int) op (i : Int) = (if (bt s (i : Int)) = 44 then (spec_Items.j1 k s out (fr : Int) op (i : Int) (!op)) else (spec_Items.j1 k s out (fr : Int) op (i : Int) false)) := by
        intro k
        simp only [spec_Items.l0]
        rw [if_pos (by omega), if_neg hne, if_pos (by omega), if_pos (by omega)]
      have j1 : ∀ k, spec_Items.j1 (k + 1) s out (fr : Int) op (i : Int) false = (if (bt s (i : Int)) = 34 then (spec_Items.l0 k s out (fr : Int) (!op) ((i + 1 : Nat) : Int)) else (if (bt s (i : Int)) = 92 then (spec_Items.j2 k s out (fr : Int) op (i : Int) op) else (spec_Items.j2 k s out (fr : Int) op (i : Int) false))) := by
        intro k
        simp only [spec_Items.j1]
        rw [if_neg (by simp), if_pos (by omega), if_pos (by omega), hw]
      have j2 : ∀ k, spec_Items.j2 (k + 1) s out (fr : Int) op (i : Int) false = spec_Items.l0 k s out (fr : Int) op ((i + 1 : Nat) : Int) := by
        intro k
        simp only [spec_Items.j2]
        rw [if_neg (by simp), hw]
      have stay : ∀ r, Ev (fun k => spec_Items.l0 k s out (fr : Int) op ((i + 1 : Nat) : Int)) r → Ev (fun k => spec_Items.j2 k s out (fr : Int) op (i : Int) false) r := fun r h => Ev.step j2 h
      have hnext := ih (i + 1) fr op out (by omega) (by omega) (by omega) ho
      by_cases c34 : bt s (i : Int) = 34
      · rw [if_pos c34]
        refine Ev.step (f := fun k => spec_Items.j1 k s out (fr : Int) op (i : Int) false) (fun k => by rw [l0, if_neg (by omega)]) (Ev.step (fun k => ?_) (ih (i + 1) fr (!op) out (by omega) (by omega) (by omega) ho))
        rw [j1, if_pos c34]
      · rw [if_neg c34]
        by_cases c92 : bt s (i : Int) = 92
        · have to2 : ∀ r, Ev (fun k => spec_Items.j2 k s out (fr : Int) op (i : Int) op) r → Ev (fun k => spec_Items.l0 k s out (fr : Int) op (i : Int)) r := fun r h =>
            Ev.step (f := fun k => spec_Items.j1 k s out (fr : Int) op (i : Int) false) (fun k => by rw [l0, if_neg (by omega)]) (Ev.step (fun k => by rw [j1, if_neg c34, if_pos c92]) h)
          cases op with
          | false =>
            rw [if_neg (by simp), if_neg (fun x => by have := x.1; omega)]
            exact to2 _ (stay _ hnext)
          | true =>
            rw [if_pos ⟨c92, rfl⟩]
            refine to2 _ ?_
            by_cases he : i + 1 = s.size
            · refine Ev.step (f := fun k => spec_Items.l0 k s out (fr : Int) true (s.size : Int)) (fun k => ?_) (ev_eq (items_end s hs out (by omega) fr (by omega) true) ?_)
              · simp only [spec_Items.j2]
                rw [if_pos trivial, hw, if_pos (by omega), wrap_in (i := ((i + 1 : Nat) : Int) - 1) (by omega) (by omega), wrap_in (by omega) (by omega)]
                congr 1
                omega
              · cases n with
                | zero => rfl
                | succ n => rw [itemsG, if_neg (by omega)]
            · refine Ev.step (f := fun k => spec_Items.l0 k s out (fr : Int) true ((i + 2 : Nat) : Int)) (fun k => ?_) (ih (i + 2) fr true out (by omega) (by omega) (by omega) ho)
              simp only [spec_Items.j2]
              rw [if_pos trivial, hw, if_neg (by omega), wrap_in (by omega) (by omega)]
              congr 1
        · rw [if_neg (fun x => c92 x.1)]
          by_cases c44 : bt s (i : Int) = 44
          · cases op with
            | false =>
              rw [if_pos ⟨c44, rfl⟩]
              have hil := itemL_le (s.extract fr i)
              refine Ev.step (f := fun k => spec_Items.j1 k s out (fr : Int) false (i : Int) true) (fun k => by rw [l0, if_pos c44]; rfl) (items_put_ev s hs out (by omega) fr i hf (by omega) false _ ?_)
              exact ih (i + 1) (i + 1) false _ (by omega) (Nat.le_refl _) (by omega) (by rw [List.length_append]; omega)
            | true =>
              rw [if_neg (by simp)]
              refine Ev.step (f := fun k => spec_Items.j1 k s out (fr : Int) true (i : Int) false) (fun k => by rw [l0, if_pos c44]; rfl) (Ev.step (fun k => by rw [j1, if_neg c34, if_neg c92]) (stay _ hnext))
          · rw [if_neg (fun x => c44 x.1)]
            exact Ev.step (f := fun k => spec_Items.j1 k s out (fr : Int) op (i : Int) false) (fun k => by rw [l0, if_neg c44]) (Ev.step (fun k => by rw [j1, if_neg c34, if_neg c92]) (stay _ hnext))
    · rw [if_neg hlt]
      have e : i = s.size := by omega
      subst e
      exact items_end s hs out (by omega) fr hf op
theorem visOk_size {s : ByteArray} (h : visOk s = true) : s.size ≤ 400 := by
  unfold visOk at h
  rw [Bool.and_eq_true, decide_eq_true_eq] at h
  exact h.1
def itemsR (s : ByteArray) : List ByteArray := if visOk s = true then itemsG s (s.size + 1) [] 0 false 0 else []
theorem impl_Items_is (s : ByteArray) (hs : s.size ≤ 4611686018427387904) : impl_Items.f s = some (itemsR s) := by
  unfold impl_Items.f itemsR
  rw [impl_VisibleOk_is s hs]
  rfl
theorem spec_Items_ev (s : ByteArray) (hs : s.size ≤ 4611686018427387904) : Ev (fun k => spec_Items.f k s) (itemsR s) := by
  unfold spec_Items.f itemsR
  simp only [Option.bind_some]
  refine Ev.bind (spec_VisibleOk_ev s hs) ?_
  by_cases c : visOk s = true
  · simp only [if_pos c]
    have hz : s.size ≤ 400 := visOk_size c
    exact spec_Items_loop s hz (s.size + 1) 0 0 false [] (by omega) (by omega) (by omega) (Nat.le_refl _)
  · simp only [if_neg c]
    exact Ev.now _
theorem itemsG_len (s : ByteArray) (n : Nat) : ∀ (out : List ByteArray) (fr : Nat) (op : Bool) (i : Nat), (itemsG s n out fr op i).length ≤ out.length + n + 1 := by
  induction n with
  | zero => intro out fr op i; rw [itemsG, List.length_append]; have := itemL_le (s.extract fr s.size); omega
  | succ n ih =>
    intro out fr op i
    rw [itemsG]
    have h1 := itemL_le (s.extract fr s.size)
    have h2 := itemL_le (s.extract fr i)
    split
    · split
      · have := ih out fr (!op) (i + 1); omega
      · split
        · have := ih out fr op (i + 2); omega
        · split
          · have := ih (out ++ itemL (s.extract fr i)) (i + 1) op (i + 1); rw [List.length_append] at this; omega
          · have := ih out fr op (i + 1); omega
    · rw [List.length_append]; omega
theorem itemsR_len (s : ByteArray) : (itemsR s).length ≤ 402 := by
  unfold itemsR
  split
  · rename_i c
    have := itemsG_len s (s.size + 1) [] 0 false 0
    have hz : s.size ≤ 400 := visOk_size c
    simp only [List.length_nil] at this
    omega
  · exact Nat.zero_le _
/-- 0: outside; 1: inside a quotation; 2: behind a backslash inside. -/
def stepQ (q : Nat) (c : Int) : Nat := if q = 0 then (if c = 34 then 1 else 0) else if q = 1 then (if c = 34 then 0 else if c = 92 then 2 else 1) else 1
def itm (cur : List Int) : List (List Int) := if trimN cur = [] then [] else [trimN cur]
def itemsA : Nat → List Int → List Int → List (List Int)
  | _, cur, [] => itm cur
  | q, cur, c :: cs => if q = 0 ∧ c = 44 then itm cur ++ itemsA 0 [] cs else itemsA (stepQ q c) (cur ++ [c]) cs
def runQ : Nat → List Int → Option Nat
  | q, [] => some q
  | q, c :: cs => if q = 0 ∧ c = 44 then none else runQ (stepQ q c) cs
theorem runQ_app (a b : List Int) : ∀ q, runQ q (a ++ b) = (runQ q a).bind fun p => runQ p b := by
  induction a with
  | nil => intro q; rfl
  | cons c a ih =>
    intro q
    rw [List.cons_append]
    simp only [runQ]
    by_cases h : q = 0 ∧ c = 44
    · rw [if_pos h, if_pos h]; rfl
    · rw [if_neg h, if_neg h, ih]
theorem runQ_one (q : Nat) (c : Int) : runQ q [c] = if q = 0 ∧ c = 44 then none else some (stepQ q c) := rfl
theorem blank_is {c : Int} (h : blaB c = true) : c = 32 ∨ c = 9 := by
  unfold blaB at h
  simpa using h
theorem step_blank {q : Nat} {c : Int} (h : blaB c = true) : (stepQ q c = 0 → q = 0) ∧ (q = 0 → stepQ q c = 0) := by
  have hc : c ≠ 34 ∧ c ≠ 92 := by rcases blank_is h with rfl | rfl <;> decide
  unfold stepQ
  by_cases h0 : q = 0
  · rw [if_pos h0, if_neg hc.1]; exact ⟨fun _ => h0, fun _ => rfl⟩
  · rw [if_neg h0]
    by_cases h1 : q = 1
    · rw [if_pos h1, if_neg hc.1, if_neg hc.2]; exact ⟨fun e => absurd e (by decide), fun e => absurd e h0⟩
    · rw [if_neg h1]; exact ⟨fun e => absurd e (by decide), fun e => absurd e h0⟩
theorem run_dropL (l : List Int) : ∀ q, runQ 0 l = some q → runQ 0 (dropL l) = some q := by
  induction l with
  | nil => intro q h; exact h
  | cons c l ih =>
    intro q h
    rw [dropL_cons]
    by_cases hb : blaB c = true
    · rw [if_pos hb]
      simp only [runQ] at h
      rw [if_neg (by rcases blank_is hb with rfl | rfl <;> simp), (step_blank hb).2 rfl] at h
      exact ih q h
    · rw [if_neg hb]; exact h
theorem run_dropR (n : Nat) : ∀ (l : List Int) (q : Nat), l.length = n → runQ 0 l = some q → ∃ p, runQ 0 (dropR l) = some p ∧ (q = 0 → p = 0) := by
  induction n with
  | zero =>
    intro l q hl h
    obtain rfl := List.eq_nil_of_length_eq_zero hl
    exact ⟨q, h, id⟩
  | succ n ih =>
    intro l q hl h
    obtain ⟨L, b, rfl⟩ : ∃ L b, l = L ++ [b] := ⟨l.dropLast, l.getLast (by intro e; rw [e] at hl; cases hl), (List.dropLast_concat_getLast _).symm⟩
    rw [dropR_snoc]
    by_cases hb : blaB b = true
    · rw [if_pos hb]
      rw [runQ_app] at h
      obtain ⟨p, h1, h2⟩ := Option.bind_eq_some_iff.1 h
      rw [runQ_one] at h2
      rw [if_neg (by rcases blank_is hb with rfl | rfl <;> simp)] at h2
      obtain ⟨p2, h3, h4⟩ := ih L p (by rw [List.length_append, List.length_singleton] at hl; omega) h1
      exact ⟨p2, h3, fun e => h4 ((step_blank hb).1 (by rw [Option.some.inj h2]; exact e))⟩
    · rw [if_neg hb]; exact ⟨q, h, id⟩
theorem run_trim (l : List Int) (q : Nat) (h : runQ 0 l = some q) : ∃ p, runQ 0 (trimN l) = some p ∧ (q = 0 → p = 0) := by
  obtain ⟨p, h1, h2⟩ := run_dropR l.length l q rfl h
  exact ⟨p, run_dropL _ p h1, h2⟩
theorem dropL_twice (l : List Int) : dropL (dropL l) = dropL l := by
  induction l with
  | nil => rfl
  | cons c l ih =>
    rw [dropL_cons]
    split
    · exact ih
    · rename_i h; rw [dropL_cons, if_neg h]
theorem dropR_twice (l : List Int) : dropR (dropR l) = dropR l := by
  show ((((dropL l.reverse).reverse).reverse).dropWhile blaB).reverse = (dropL l.reverse).reverse
  rw [List.reverse_reverse]
  show (dropL (dropL l.reverse)).reverse = _
  rw [dropL_twice]
theorem trimN_twice (l : List Int) : trimN (trimN l) = trimN l := by
  show dropL (dropR (dropL (dropR l))) = dropL (dropR l)
  rw [drop_comm, dropR_twice, dropL_twice]
theorem dropL_sub (l : List Int) : (dropL l).Sublist l := List.dropWhile_sublist _
theorem trimN_sub (l : List Int) : (trimN l).Sublist l := by
  refine (dropL_sub _).trans ?_
  have := (dropL_sub l.reverse).reverse
  rwa [List.reverse_reverse] at this
def GoodL : List (List Int) → Prop
  | [] => True
  | [p] => ∃ q, runQ 0 p = some q
  | p :: r :: rs => runQ 0 p = some 0 ∧ GoodL (r :: rs)
theorem GoodL_cons {p : List Int} {r : List (List Int)} (h : runQ 0 p = some 0) (hr : GoodL r) : GoodL (p :: r) := by
  cases r with
  | nil => exact ⟨0, h⟩
  | cons a r => exact ⟨h, hr⟩
theorem itemsA_good (L : List Int) : ∀ (q : Nat) (cur : List Int), runQ 0 cur = some q → GoodL (itemsA q cur L) ∧ ∀ p ∈ itemsA q cur L, p ≠ [] ∧ trimN p = p ∧ p.length ≤ cur.length + L.length ∧ ∀ c ∈ p, c ∈ cur ∨ c ∈ L := by
  have one : ∀ (q : Nat) (cur L : List Int), runQ 0 cur = some q → ∀ p ∈ itm cur, (p ≠ [] ∧ trimN p = p ∧ p.length ≤ cur.length + L.length ∧ ∀ c ∈ p, c ∈ cur ∨ c ∈ L) ∧ ∃ p', runQ 0 p = some p' ∧ (q = 0 → p' = 0) := by
    intro q cur L h p hp
    unfold itm at hp
    by_cases e : trimN cur = []
    · rw [if_pos e] at hp; cases hp
    · rw [if_neg e] at hp
      obtain rfl := List.mem_singleton.1 hp
      refine ⟨⟨e, trimN_twice cur, ?_, fun c hc => .inl ((trimN_sub cur).subset hc)⟩, run_trim cur q h⟩
      have := (trimN_sub cur).length_le
      omega
  induction L with
  | nil =>
    intro q cur h
    have o := one q cur [] h
    refine ⟨?_, fun p hp => (o p hp).1⟩
    show GoodL (itm cur)
    unfold itm at o ⊢
    by_cases e : trimN cur = []
    · rw [if_pos e]; trivial
    · rw [if_neg e] at o ⊢
      obtain ⟨p', h1, _⟩ := (o _ (List.mem_singleton.2 rfl)).2
      exact ⟨p', h1⟩
  | cons c L ih =>
    intro q cur h
    rw [itemsA]
    by_cases hs : q = 0 ∧ c = 44
    · rw [if_pos hs]
      obtain ⟨g, m⟩ := ih 0 [] rfl
      have o := one q cur (c :: L) h
      refine ⟨?_, fun p hp => ?_⟩
      · unfold itm at o ⊢
        by_cases e : trimN cur = []
        · rw [if_pos e]; exact g
        · rw [if_neg e] at o ⊢
          obtain ⟨p', h1, h2⟩ := (o _ (List.mem_singleton.2 rfl)).2
          rw [h2 hs.1] at h1
          exact GoodL_cons h1 g
      · rcases List.mem_append.1 hp with hp | hp
        · exact (o p hp).1
        · obtain ⟨a, b, d, f⟩ := m p hp
          refine ⟨a, b, by simp only [List.length_nil, List.length_cons] at d ⊢; omega, fun x hx => ?_⟩
          rcases f x hx with f | f
          · cases f
          · exact .inr (List.mem_cons_of_mem _ f)
    · rw [if_neg hs]
      obtain ⟨g, m⟩ := ih (stepQ q c) (cur ++ [c]) (by rw [runQ_app, h]; show runQ q [c] = _; rw [runQ_one, if_neg hs])
      refine ⟨g, fun p hp => ?_⟩
      obtain ⟨a, b, d, f⟩ := m p hp
      refine ⟨a, b, by rw [List.length_append] at d; simp only [List.length_cons, List.length_nil] at d ⊢; omega, fun x hx => ?_⟩
      rcases f x hx with f | f
      · rcases List.mem_append.1 f with f | f
        · exact .inl f
        · rw [List.mem_singleton.1 f]; exact .inr List.mem_cons_self
      · exact .inr (List.mem_cons_of_mem _ f)
def joinC : List (List Int) → List Int
  | [] => []
  | [p] => p
  | p :: r :: rs => p ++ 44 :: joinC (r :: rs)
theorem joinC_snoc (R : List (List Int)) (p : List Int) (h : R ≠ []) : joinC (R ++ [p]) = joinC R ++ 44 :: p := by
  induction R with
  | nil => exact absurd rfl h
  | cons a R ih =>
    cases R with
    | nil => rfl
    | cons b R =>
      have := ih (by simp)
      rw [List.cons_append, List.cons_append, joinC, ← List.cons_append, this, joinC, List.append_assoc]
      rfl
theorem itemsA_run (p : List Int) : ∀ (q q' : Nat) (cur r : List Int), runQ q p = some q' → itemsA q cur (p ++ r) = itemsA q' (cur ++ p) r := by
  induction p with
  | nil => intro q q' cur r h; obtain rfl := Option.some.inj h; rw [List.nil_append, List.append_nil]
  | cons c p ih =>
    intro q q' cur r h
    rw [runQ] at h
    by_cases hs : q = 0 ∧ c = 44
    · rw [if_pos hs] at h; cases h
    · rw [if_neg hs] at h
      rw [List.cons_append, itemsA, if_neg hs, ih _ _ _ _ h, List.append_assoc]
      rfl
theorem itemsA_join (R : List (List Int)) (g : GoodL R) (m : ∀ p ∈ R, p ≠ [] ∧ trimN p = p) : itemsA 0 [] (joinC R) = R := by
  have one : ∀ p : List Int, p ≠ [] ∧ trimN p = p → itm p = [p] := fun p h => by unfold itm; rw [h.2, if_neg h.1]
  induction R with
  | nil => rfl
  | cons p R ih =>
    cases R with
    | nil =>
      obtain ⟨q, h⟩ := g
      have := itemsA_run p 0 q [] [] h
      rw [List.append_nil, List.nil_append] at this
      rw [joinC, this]
      exact one p (m p List.mem_cons_self)
    | cons r rs =>
      rw [joinC, itemsA_run p 0 0 [] _ g.1, List.nil_append, itemsA, if_pos ⟨rfl, rfl⟩, one p (m p List.mem_cons_self), ih g.2 (fun x hx => m x (List.mem_cons_of_mem _ hx))]
      rfl
theorem itemL_itm (p : ByteArray) (hp : p.size ≤ 400) : itemL p = (itm (bytesOf p)).map strOfNums := by
  unfold itemL itm
  rw [trim_same p (by omega)]
  unfold trimT
  have e : (strOfNums (trimN (bytesOf p))).toList = [] ↔ trimN (bytesOf p) = [] := by
    rw [toList_nil]
    have : (strOfNums (trimN (bytesOf p))).size = (trimN (bytesOf p)).length := by
      show (strOfNums _).data.size = _
      rw [← Array.length_toList, strOfNums_data, List.length_map]
    rw [this]
    exact ⟨List.eq_nil_of_length_eq_zero, fun h => by rw [h]; rfl⟩
  by_cases h : trimN (bytesOf p) = []
  · rw [if_pos (e.2 h), if_pos h]; rfl
  · rw [if_neg (fun x => h (e.1 x)), if_neg h]; rfl
theorem part_next (s : ByteArray) (fr i : Nat) (hf : fr ≤ i) (hi : i < s.size) : bytesOf (s.extract fr (i + 1)) = bytesOf (s.extract fr i) ++ [bt s (i : Int)] := by
  rw [bytes_extract, bytes_extract, show i + 1 - fr = (i - fr) + 1 by omega, List.take_add_one, List.getElem?_drop, show fr + (i - fr) = i by omega, bt_get s i hi]
  rfl
theorem itemsG_is (s : ByteArray) (hs : s.size ≤ 400) (n : Nat) : ∀ (i fr : Nat) (op : Bool) (out : List ByteArray), i ≤ s.size → fr ≤ i → s.size ≤ i + n →
    itemsG s n out fr op i = out ++ (itemsA (if op = true then 1 else 0) (bytesOf (s.extract fr i)) ((bytesOf s).drop i)).map strOfNums := by
  have fin : ∀ (fr : Nat) (q : Nat) (out : List ByteArray), out ++ itemL (s.extract fr s.size) = out ++ (itemsA q (bytesOf (s.extract fr s.size)) []).map strOfNums := by
    intro fr q out
    rw [itemL_itm _ (by rw [ByteArray.size_extract]; omega)]
    rfl
  have nil : ∀ i, s.size ≤ i → (bytesOf s).drop i = [] := fun i h => List.drop_of_length_le (by rw [bytesOf_length]; exact h)
  induction n with
  | zero =>
    intro i fr op out hi hf hn
    have e : i = s.size := by omega
    subst e
    rw [itemsG, nil _ (Nat.le_refl _), fin fr]
  | succ n ih =>
    intro i fr op out hi hf hn
    rw [itemsG]
    by_cases hlt : i < s.size
    · have hp := part_next s fr i hf hlt
      rw [if_pos hlt, drop_bt s i hlt, itemsA]
      by_cases c34 : bt s (i : Int) = 34
      · rw [if_pos c34, ih (i + 1) fr (!op) out (by omega) (by omega) (by omega), hp, c34, if_neg (show ¬ ((if op = true then 1 else 0) = 0 ∧ (34 : Int) = 44) from fun x => absurd x.2 (by decide))]
        cases op <;> rfl
      · rw [if_neg c34]
        by_cases c92 : bt s (i : Int) = 92 ∧ op = true
        · obtain ⟨c92, rfl⟩ := c92
          rw [if_pos ⟨c92, rfl⟩, if_neg (by simp)]
          have e1 : stepQ (if true = true then 1 else 0) (bt s (i : Int)) = 2 := by rw [c92]; rfl
          rw [e1, ← hp]
          by_cases he : i + 1 < s.size
          · rw [drop_bt s (i + 1) he, itemsA, if_neg (by simp), ← part_next s fr (i + 1) (by omega) he, ih (i + 2) fr true out (by omega) (by omega) (by omega)]
            rfl
          · have e2 : i + 1 = s.size := by omega
            have e3 : itemsG s n out fr true (i + 2) = out ++ itemL (s.extract fr s.size) := by
              cases n with
              | zero => rfl
              | succ n => rw [itemsG, if_neg (by omega)]
            rw [e3, nil _ (by omega), e2, fin fr]
        · rw [if_neg c92]
          by_cases c44 : bt s (i : Int) = 44 ∧ op = false
          · obtain ⟨c44, rfl⟩ := c44
            rw [if_pos ⟨c44, rfl⟩, if_pos ⟨rfl, c44⟩, ih (i + 1) (i + 1) false _ (by omega) (Nat.le_refl _) (by omega), itemL_itm _ (by rw [ByteArray.size_extract]; omega), List.map_append, List.append_assoc]
            have e : bytesOf (s.extract (i + 1) (i + 1)) = [] := by rw [bytes_extract]; simp
            rw [e]
            rfl
          · have hn44 : ¬ ((if op = true then 1 else 0) = 0 ∧ bt s (i : Int) = 44) := by
              rintro ⟨h1, h2⟩
              cases op with
              | true => simp at h1
              | false => exact c44 ⟨h2, rfl⟩
            rw [if_neg c44, if_neg hn44, ih (i + 1) fr op out (by omega) (by omega) (by omega), hp]
            congr 2
            cases op with
            | false =>
              have : stepQ (if false = true then 1 else 0) (bt s (i : Int)) = 0 := by
                show stepQ 0 _ = 0
                unfold stepQ
                rw [if_pos rfl, if_neg c34]
              rw [this]
              rfl
            | true =>
              have : stepQ (if true = true then 1 else 0) (bt s (i : Int)) = 1 := by
                show stepQ 1 _ = 1
                unfold stepQ
                rw [if_neg (by decide), if_pos rfl, if_neg c34, if_neg (fun e => c92 ⟨e, rfl⟩)]
              rw [this]
              rfl
    · rw [if_neg hlt]
      have e : i = s.size := by omega
      subst e
      rw [nil _ (Nat.le_refl _), fin fr]
theorem itemsR_is (s : ByteArray) (h : visOk s = true) : itemsR s = (itemsA 0 [] (bytesOf s)).map strOfNums := by
  unfold itemsR
  rw [if_pos h, itemsG_is s (visOk_size h) (s.size + 1) 0 0 false [] (Nat.zero_le _) (Nat.le_refl _) (by omega)]
  have e : bytesOf (s.extract 0 0) = [] := by rw [bytes_extract]; simp
  rw [e, List.drop_zero]
  rfl
end Go.Proofs.YtalbfkhkfhnmjaaDoor.Q
namespace Go.Proofs.YtalbfkhkfhnmjaaDoor.Pure
set_option linter.unusedVariables false
set_option linter.unusedSimpArgs false
open Go.RowKit Go.Proofs.YtalbfkhkfhnmjaaDoor.P Go.Proofs.YtalbfkhkfhnmjaaDoor.Q Go.Proofs.YtalbfkhkfhnmjaaDoorW.PrintWords
theorem likeTexts_self (l : List ByteArray) (hl : l.length ≤ 1048576) : Ev (fun k => laws_likeTexts.f k l l) true := by
 unfold laws_likeTexts.f
 simp only [if_true]
 have key : ∀ (n i : Nat), i + n = l.length → Ev (fun k => laws_likeTexts.l0 k l l (i : Int)) true := by
  intro n
  induction n with
  | zero =>
   intro i hd
   refine Ev.step (f := fun _ => some true) (fun k => ?_) (Ev.now _)
   simp only [laws_likeTexts.l0]
   rw [if_neg (by omega)]
  | succ n ih =>
   intro i hd
   refine Ev.step (fun k => ?_) (ih (i + 1) (by omega))
   simp only [laws_likeTexts.l0]
   have hw2 : wrap64 ((i : Int) + 1) = ((i + 1 : Nat) : Int) := by rw [wrap_in (by omega) (by omega)]; omega
   rw [if_pos (by omega), if_pos (by omega), if_pos (by omega), if_pos trivial, hw2]
 exact key l.length 0 (by omega)
theorem quoted_ev (s : ByteArray) (hs : s.size ≤ 1000) : ∃ r : ByteArray, Ev (fun k => spec_Quoted.f k s) r ∧ r.size ≤ 2 * s.size + 2 := by
 have loop : ∀ (n i : Nat) (x : List Int), i + n = s.size → x.length ≤ 2 * i + 1 → ∃ r : ByteArray, Ev (fun k => spec_l1Quoted.l0 k s x (i : Int)) r ∧ r.size ≤ 2 * s.size + 2 := by
  intro n
  induction n with
  | zero =>
   intro i x hd hx
   refine ⟨strOfNums (x ++ [34]), Ev.step (f := fun _ => some (strOfNums (x ++ [34]))) (fun k => ?_) (Ev.now _), by rw [strOfNums_size, List.length_append, List.length_singleton]; omega⟩
   simp only [spec_l1Quoted.l0]
   rw [if_neg (by omega), if_pos (by omega)]
  | succ n ih =>
   intro i x hd hx
   have hw : wrap64 ((i : Int) + 1) = ((i + 1 : Nat) : Int) := by rw [wrap_in (by omega) (by omega)]; omega
   by_cases c : bt s (i : Int) = 34 ∨ bt s (i : Int) = 92
   ·
    obtain ⟨r, h, hr⟩ := ih (i + 1) (x ++ [92] ++ [bt s (i : Int)]) (by omega) (by rw [List.length_append, List.length_append, List.length_singleton, List.length_singleton]; omega)
    refine ⟨r, Ev.step (fun k => ?_) h, hr⟩
    have z1 : x.length < 140737488355328 := by omega
    have z2 : (x ++ [92]).length < 140737488355328 := by rw [List.length_append, List.length_singleton]; omega
    simp only [spec_l1Quoted.l0]
    rw [if_pos (by omega), if_pos (by omega)]
    by_cases c34 : bt s (i : Int) = 34
    ·
     rw [if_pos c34, if_pos z1]
     simp only [Option.bind_some]
     rw [if_pos z2, hw]
    ·
     rw [if_neg c34, if_pos (c.resolve_left c34), if_pos z1]
     simp only [Option.bind_some]
     rw [if_pos z2, hw]
   ·
    obtain ⟨r, h, hr⟩ := ih (i + 1) (x ++ [bt s (i : Int)]) (by omega) (by rw [List.length_append, List.length_singleton]; omega)
    refine ⟨r, Ev.step (fun k => ?_) h, hr⟩
    have z1 : x.length < 140737488355328 := by omega
    simp only [spec_l1Quoted.l0]
    rw [if_pos (by omega), if_pos (by omega), if_neg (fun x => c (.inl x)), if_neg (fun x => c (.inr x)), if_pos z1, hw]
 unfold spec_Quoted.f
 by_cases v : visOk s = true
 ·
  obtain ⟨r, h, hr⟩ := loop s.size 0 [34] (by omega) (by simp)
  refine ⟨r, Ev.bind (spec_VisibleOk_ev s (by omega)) ?_, hr⟩
  simp only [if_pos v]
  exact Ev.bind (f := fun _ t => some t) h (Ev.now _)
 ·
  refine ⟨⟨#[]⟩, Ev.bind (spec_VisibleOk_ev s (by omega)) ?_, Nat.zero_le _⟩
  simp only [if_neg v]
  exact Ev.now _
theorem drawItems_loop (b : List Int) (hb : b.length ≤ 140737488351232) (d : Nat) : ∀ (s : ByteArray) (i h : Int), 0 ≤ i → s.size + 20 * d ≤ 100000 → TotP (fun k => spec_DrawItems.l0 k s (d : Int) b i h) (fun r => r.size ≤ s.size + 20 * d) := by
 induction d with
 | zero =>
  intro s i h h0 hs
  refine TotP.step (f := fun _ => some s) (fun k => ?_) (TotP.now (by omega))
  simp only [spec_DrawItems.l0]
  rw [if_neg (by omega)]
 | succ d ih =>
  intro s i h h0 hs
  have h44 : (⟨#[44]⟩ : ByteArray).size = 1 := rfl
  have hw : wrap64 (((d + 1 : Nat) : Int) - 1) = (d : Int) := by rw [wrap_in (by omega) (by omega)]; omega
  have tail : ∀ (t : ByteArray) (i2 h2 : Int), 0 ≤ i2 → t.size ≤ 10 → TotP (fun k => if s.size + t.size ≤ 9223372036854775807 then ((spec_l1Once.f b i2 h2 6).bind fun bt115 => (if bt115.1 = true then (spec_DrawItems.l0 k (s ++ t) (d : Int) b bt115.2.1 bt115.2.2) else (if (s ++ t).size + 1 ≤ 9223372036854775807 then (spec_DrawItems.l0 k ((s ++ t) ++ (⟨#[44]⟩ : ByteArray)) (d : Int) b bt115.2.1 bt115.2.2) else (none)))) else (none)) (fun r => r.size ≤ s.size + 20 * (d + 1)) := by
   intro t i2 h2 hi2 ht
   have hst : (s ++ t).size = s.size + t.size := ByteArray.size_append ..
   refine TotP.ite (fun _ => ?_) (fun c => absurd (by omega) c)
   refine TotP.bind (TotP.of (once_ok b i2 h2 6 hi2 hb)) fun r1 p1 => TotP.ite (fun _ => ?_) (fun _ => TotP.ite (fun _ => ?_) (fun c => absurd (by omega) c))
   ·
    exact (ih (s ++ t) _ _ p1 (by omega)).imp fun r hr => by omega
   ·
    have hst2 : ((s ++ t) ++ (⟨#[44]⟩ : ByteArray)).size = s.size + t.size + 1 := by rw [ByteArray.size_append, hst, h44]
    exact (ih ((s ++ t) ++ (⟨#[44]⟩ : ByteArray)) _ _ p1 (by omega)).imp fun r hr => by omega
  refine TotP.step (f := fun k => (spec_l1Once.f b i h 3).bind fun bt108 => (if bt108.1 = true then ((spec_l1DrawText.f k b bt108.2.1 bt108.2.2 (⟨#[97, 44, 34, 92]⟩ : ByteArray) 4).bind fun bt111 => ((spec_Quoted.f k bt111.1).bind fun t114 => (if s.size + t114.size ≤ 9223372036854775807 then ((spec_l1Once.f b bt111.2.1 bt111.2.2 6).bind fun bt115 => (if bt115.1 = true then (spec_DrawItems.l0 k (s ++ t114) (d : Int) b bt115.2.1 bt115.2.2) else (if (s ++ t114).size + 1 ≤ 9223372036854775807 then (spec_DrawItems.l0 k ((s ++ t114) ++ (⟨#[44]⟩ : ByteArray)) (d : Int) b bt115.2.1 bt115.2.2) else (none)))) else (none)))) else ((spec_l1DrawText.f k b bt108.2.1 bt108.2.2 (⟨#[97, 98, 32, 61]⟩ : ByteArray) 4).bind fun bt118 => (if s.size + bt118.1.size ≤ 9223372036854775807 then ((spec_l1Once.f b bt118.2.1 bt118.2.2 6).bind fun bt121 => (if bt121.1 = true then (spec_DrawItems.l0 k (s ++ bt118.1) (d : Int) b bt121.2.1 bt121.2.2) else (if (s ++ bt118.1).size + 1 ≤ 9223372036854775807 then (spec_DrawItems.l0 k ((s ++ bt118.1) ++ (⟨#[44]⟩ : ByteArray)) (d : Int) b bt121.2.1 bt121.2.2) else (none)))) else (none))))) (fun k => ?_) ?_
  ·
   simp only [spec_DrawItems.l0]
   rw [if_pos (by omega), hw]
  ·
   refine TotP.bind (TotP.of (once_ok b i h 3 h0 hb)) fun r0 p0 => TotP.ite (fun _ => ?_) (fun _ => ?_)
   ·
    refine TotP.bind (drawText_ok b hb _ _ p0 _ (by decide) 4 (by decide) (by decide)) fun r1 p1 => ?_
    have h4 : r1.1.size ≤ 4 := p1.2
    obtain ⟨q, hq, hqs⟩ := quoted_ev r1.1 (by omega)
    refine TotP.bind (P := fun r => r = q) ⟨q, hq, rfl⟩ fun t ht => ?_
    subst ht
    exact tail t _ _ p1.1 (by omega)
   ·
    refine TotP.bind (drawText_ok b hb _ _ p0 _ (by decide) 4 (by decide) (by decide)) fun r1 p1 => ?_
    have h4 : r1.1.size ≤ 4 := p1.2
    exact tail r1.1 _ _ p1.1 (by omega)
theorem drawItems_ok (b : List Int) (hb : b.length ≤ 140737488351232) : TotP (fun k => spec_DrawItems.f k b) (fun r => r.size ≤ 100) := by
 unfold spec_DrawItems.f
 refine TotP.bind (new_ok b hb) fun c pc => ?_
 obtain ⟨c0, c1, c2⟩ := c
 obtain ⟨e, p⟩ := pc
 simp only at e p
 subst e
 refine TotP.bind (TotP.of (below_ok _ _ _ 5 p hb)) fun r1 p1 => ?_
 have h5 := p1.2.1 (by decide)
 have h0 := p1.1
 have hz : (⟨#[]⟩ : ByteArray).size = 0 := rfl
 have := drawItems_loop c0 hb r1.1.toNat ⟨#[]⟩ r1.2.1 r1.2.2 p1.2.2.2 (by omega)
 rw [Int.toNat_of_nonneg h0] at this
 exact this.imp fun r hr => by omega
theorem nums_app (a b : List Int) : strOfNums a ++ strOfNums b = strOfNums (a ++ b) := by
 apply ByteArray.ext
 apply Array.toList_inj.1
 rw [ByteArray.data_append, Array.toList_append, strOfNums_data, strOfNums_data, strOfNums_data, List.map_append]
theorem joinC_len (R : List (List Int)) (h : ∀ p ∈ R, p.length ≤ 100) : (joinC R).length ≤ 101 * R.length := by
 induction R with
 | nil => exact Nat.zero_le _
 | cons p R ih =>
  have h1 := h p List.mem_cons_self
  have h2 := ih (fun x hx => h x (List.mem_cons_of_mem _ hx))
  cases R with
  | nil => simp only [joinC, List.length_cons, List.length_nil]; omega
  | cons r rs => rw [joinC, List.length_append]; simp only [List.length_cons] at h2 ⊢; omega
theorem items_next (L : List ByteArray) (J J2 t : ByteArray) (op : Bool) (i : Nat) (hi : i < L.length) (hl : L.length ≤ 402) (hrd : rdOf ByteArray.empty L (i : Int) = t) (ht : t.size ≤ 100) (hJ : J.size ≤ 50000) (h2 : (if i = 0 then J ++ t else (J ++ (⟨#[44]⟩ : ByteArray)) ++ t) = J2) (next : ∀ op2, Ev (fun k => laws_FnItems.l0 k L J2 op2 ((i + 1 : Nat) : Int)) true) : Ev (fun k => laws_FnItems.j1 k L J op (i : Int) false) true := by
 have h44 : (⟨#[44]⟩ : ByteArray).size = 1 := rfl
 have h120 : (⟨#[44, 120]⟩ : ByteArray).size = 2 := rfl
 have hit := impl_Items_is (t ++ (⟨#[44, 120]⟩ : ByteArray)) (by rw [ByteArray.size_append, h120]; omega)
 have z0 : J.size + 1 ≤ 9223372036854775807 := by omega
 have z1 : (J ++ (⟨#[44]⟩ : ByteArray)).size + t.size ≤ 9223372036854775807 := by rw [ByteArray.size_append, h44]; omega
 have z2 : t.size + 2 ≤ 9223372036854775807 := by omega
 have z3 : J.size + t.size ≤ 9223372036854775807 := by omega
 have c0 : (0 : Int) ≤ (i : Int) := by omega
 have c1 : (i : Int) < (L.length : Int) := by omega
 have hw : wrap64 ((i : Int) + 1) = ((i + 1 : Nat) : Int) := by rw [wrap_in (by omega) (by omega)]; omega
 have hw2 : wrap64 ((L.length : Int) - 1) = (L.length : Int) - 1 := wrap_in (by omega) (by omega)
 by_cases h0 : i = 0
 ·
  have g0 : ¬ (i : Int) > 0 := by omega
  rw [if_pos h0] at h2
  clear h0
  cases op with
  | true =>
   refine Ev.step (fun k => ?_) (next true)
   simp only [laws_FnItems.j1]
   rw [if_neg Bool.false_ne_true, if_neg g0, if_pos c0, if_pos c1, hrd, if_pos z3, if_pos trivial, hw, h2]
  | false =>
   by_cases hlast : (i : Int) = (L.length : Int) - 1
   ·
    refine Ev.step (fun k => ?_) (next (((itemsR (t ++ (⟨#[44, 120]⟩ : ByteArray))).length : Int) == 1))
    simp only [laws_FnItems.j1]
    rw [if_neg Bool.false_ne_true, if_neg g0, if_pos c0, if_pos c1, hrd, if_pos z3, if_neg Bool.false_ne_true, hw2, if_pos hlast, if_pos z2, hit, hw, h2]
    rfl
   ·
    refine Ev.step (fun k => ?_) (next false)
    simp only [laws_FnItems.j1]
    rw [if_neg Bool.false_ne_true, if_neg g0, if_pos c0, if_pos c1, hrd, if_pos z3, if_neg Bool.false_ne_true, hw2, if_neg hlast, hw, h2]
 ·
  have g0 : (i : Int) > 0 := by omega
  rw [if_neg h0] at h2
  clear h0
  cases op with
  | true =>
   refine Ev.step (fun k => ?_) (next true)
   simp only [laws_FnItems.j1]
   rw [if_neg Bool.false_ne_true, if_pos g0, if_pos z0, if_pos c0, if_pos c1, hrd, if_pos z1, if_pos trivial, hw, h2]
  | false =>
   by_cases hlast : (i : Int) = (L.length : Int) - 1
   ·
    refine Ev.step (fun k => ?_) (next (((itemsR (t ++ (⟨#[44, 120]⟩ : ByteArray))).length : Int) == 1))
    simp only [laws_FnItems.j1]
    rw [if_neg Bool.false_ne_true, if_pos g0, if_pos z0, if_pos c0, if_pos c1, hrd, if_pos z1, if_neg Bool.false_ne_true, hw2, if_pos hlast, if_pos z2, hit, hw, h2]
    rfl
   ·
    refine Ev.step (fun k => ?_) (next false)
    simp only [laws_FnItems.j1]
    rw [if_neg Bool.false_ne_true, if_pos g0, if_pos z0, if_pos c0, if_pos c1, hrd, if_pos z1, if_neg Bool.false_ne_true, hw2, if_neg hlast, hw, h2]
theorem items_round (L : List ByteArray) (J J2 t : ByteArray) (op : Bool) (i : Nat) (hi : i < L.length) (hl : L.length ≤ 402) (hrd : rdOf ByteArray.empty L (i : Int) = t) (hne : t.toList ≠ []) (htr : impl_Trimmed.f t = some t) (ht : t.size ≤ 100) (hJ : J.size ≤ 50000) (h2 : (if i = 0 then J ++ t else (J ++ (⟨#[44]⟩ : ByteArray)) ++ t) = J2) (next : ∀ op2, Ev (fun k => laws_FnItems.l0 k L J2 op2 ((i + 1 : Nat) : Int)) true) : Ev (fun k => laws_FnItems.l0 k L J op (i : Int)) true := by
 refine Ev.step (f := fun k => laws_FnItems.j1 k L J op (i : Int) false) (fun k => ?_) (items_next L J J2 t op i hi hl hrd ht hJ h2 next)
 have c0 : (0 : Int) ≤ (i : Int) := by omega
 have c1 : (i : Int) < (L.length : Int) := by omega
 simp only [laws_FnItems.l0]
 rw [if_pos c1, if_pos c0, hrd, if_neg hne, htr]
 simp only [Option.bind_some, bne_self_eq_false]
theorem items_end (L : List ByteArray) (J : ByteArray) (op : Bool) (i : Nat) (hi : i = L.length) (hl : L.length ≤ 402) (hJ : J.size ≤ 50000) (hlast : J.size ≤ 400 → itemsR J = L) : Ev (fun k => laws_FnItems.l0 k L J op (i : Int)) true := by
 have c1 : ¬ (i : Int) < (L.length : Int) := by omega
 cases op with
 | true =>
  refine Ev.step (f := fun _ => some true) (fun k => ?_) (Ev.now _)
  simp only [laws_FnItems.l0]
  rw [if_neg c1, if_pos trivial]
 | false =>
  by_cases h4 : (J.size : Int) > 400
  ·
   refine Ev.step (f := fun _ => some true) (fun k => ?_) (Ev.now _)
   simp only [laws_FnItems.l0]
   rw [if_neg c1, if_neg Bool.false_ne_true, if_pos h4]
  ·
   have h5 : J.size ≤ 400 := by omega
   have hit := impl_Items_is J (by omega)
   refine Ev.step (f := fun k => (laws_likeTexts.f k L L).bind fun t => some t) (fun k => ?_) (Ev.bind (f := fun _ t => some t) (likeTexts_self _ (by omega)) (Ev.now _))
   simp only [laws_FnItems.l0]
   rw [if_neg c1, if_neg Bool.false_ne_true, if_neg h4, hit, hlast h5]
   rfl
theorem items_loop (R : List (List Int)) (hl : R.length ≤ 402) (hm : ∀ p ∈ R, p ≠ [] ∧ trimN p = p ∧ p.length ≤ 100 ∧ ∀ c ∈ p, visB c = true ∧ 0 ≤ c ∧ c ≤ 255) (last : (joinC R).length ≤ 400 → itemsR (strOfNums (joinC R)) = R.map strOfNums) : ∀ (n i : Nat) (op : Bool), i + n = R.length → Ev (fun k => laws_FnItems.l0 k (R.map strOfNums) (strOfNums (joinC (R.take i))) op (i : Int)) true := by
 have hml : (R.map strOfNums).length = R.length := List.length_map _
 have hJ : ∀ i : Nat, (strOfNums (joinC (R.take i))).size ≤ 50000 := by
  intro i
  have h1 := joinC_len (R.take i) fun p hp => (hm p (List.mem_of_mem_take hp)).2.2.1
  have h3 := List.length_take_le' i R
  rw [strOfNums_size]
  omega
 intro n
 induction n with
 | zero =>
  intro i op hd
  have e : i = R.length := by omega
  have hJ2 := hJ i
  subst e
  rw [List.take_length] at hJ2 ⊢
  exact items_end _ _ op _ hml.symm (by rw [hml]; exact hl) hJ2 (fun h => last (by rw [← strOfNums_size]; exact h))
 | succ n ih =>
  intro i op hd
  have hi : i < R.length := by omega
  have hi2 : i < (R.map strOfNums).length := by rw [hml]; exact hi
  have hp := hm R[i] (List.getElem_mem hi)
  have hsz : (strOfNums R[i]).size = R[i].length := strOfNums_size _
  have hpl := hp.2.2.1
  have ht : R.take (i + 1) = R.take i ++ [R[i]] := by rw [List.take_add_one, List.getElem?_eq_getElem hi]; rfl
  refine items_round _ _ (strOfNums (joinC (R.take (i + 1)))) (strOfNums R[i]) op i hi2 (by rw [hml]; exact hl) (by rw [rd_i _ _ hi2]; simp) ?_ ?_ (by rw [hsz]; exact hpl) (hJ i) ?_ (fun op2 => ih (i + 1) op2 (by omega))
  ·
   rw [Ne, toList_nil, hsz]
   exact fun h => hp.1 (List.eq_nil_of_length_eq_zero h)
  ·
   rw [impl_Trimmed_is _ (by rw [hsz]; exact Nat.le_trans hpl (by decide))]
   unfold trimT
   rw [bytes_nums _ fun c hc => (hp.2.2.2 c hc).2, hp.2.1]
  ·
   by_cases h0 : i = 0
   ·
    subst h0
    rw [if_pos rfl, ht, List.take_zero, nums_app]
    rfl
   ·
    have e44 : (⟨#[44]⟩ : ByteArray) = strOfNums [44] := rfl
    rw [if_neg h0, ht, joinC_snoc _ _ (fun e => by
     have := congrArg List.length e
     rw [List.length_take] at this
     simp only [List.length_nil] at this
     omega), e44, nums_app, nums_app, List.append_assoc]
    rfl
theorem FnItems : laws_FnItems.Pure := by
 intro l hl hs hx
 have hb : l.length ≤ 140737488351232 := by omega
 obtain ⟨s, hs1, s100⟩ := drawItems_ok l hb
 unfold laws_FnItems.f laws_big.f
 simp only [Option.bind_some]
 by_cases hb2 : decide ((l.length : Int) > 4096) = true
 ·
  exact ⟨0, by rw [if_pos hb2]⟩
 ·
  simp only [if_neg hb2]
  have hlen := itemsR_len s
  refine Ev.rounds (r := true) (Ev.bind hs1 (Ev.bind (ev_const (impl_Items_is s (by omega))) (Ev.bind (spec_Items_ev s (by omega)) (Ev.bind (likeTexts_self _ (by omega)) ?_))))
  simp only [if_true]
  obtain ⟨R, hR, hg, hm, hj⟩ : ∃ R : List (List Int), itemsR s = R.map strOfNums ∧ GoodL R ∧ (∀ p ∈ R, p ≠ [] ∧ trimN p = p ∧ p.length ≤ 100 ∧ ∀ c ∈ p, visB c = true ∧ 0 ≤ c ∧ c ≤ 255) ∧ R.length ≤ 402 := by
   by_cases v : visOk s = true
   ·
    obtain ⟨g, m⟩ := itemsA_good (bytesOf s) 0 [] rfl
    have hv : (bytesOf s).all visB = true := by
     unfold visOk at v
     rw [Bool.and_eq_true] at v
     exact v.2
    refine ⟨itemsA 0 [] (bytesOf s), itemsR_is s v, g, fun p hp => ?_, by have := itemsR_is s v; rw [this, List.length_map] at hlen; exact hlen⟩
    obtain ⟨a, b, c, d⟩ := m p hp
    refine ⟨a, b, by rw [bytesOf_length] at c; simp only [List.length_nil] at c; omega, fun x hx => ?_⟩
    have hmem : x ∈ bytesOf s := (d x hx).resolve_left (by simp)
    exact ⟨List.all_eq_true.1 hv x hmem, mem_bytes hmem⟩
   ·
    have hn : itemsR s = [] := by
     unfold itemsR
     rw [if_neg v]
    exact ⟨[], hn, trivial, fun p (hp : p ∈ ([] : List (List Int))) => absurd hp List.not_mem_nil, Nat.zero_le _⟩
  rw [hR]
  have back : ∀ p ∈ R, bytesOf (strOfNums p) = p := fun p hp => bytes_nums p fun c hc => ((hm p hp).2.2.2 c hc).2
  have last : (joinC R).length ≤ 400 → itemsR (strOfNums (joinC R)) = R.map strOfNums := by
   intro h4
   have memJ : ∀ (R : List (List Int)), (∀ p ∈ R, ∀ c ∈ p, visB c = true ∧ 0 ≤ c ∧ c ≤ 255) → ∀ c ∈ joinC R, visB c = true ∧ 0 ≤ c ∧ c ≤ 255 := by
    intro R
    induction R with
    | nil => intro h c hc; cases hc
    | cons p R ih =>
     intro h c hc
     cases R with
     | nil => exact h p List.mem_cons_self c hc
     | cons r rs =>
      rw [joinC] at hc
      rcases List.mem_append.1 hc with hc | hc
      ·
       exact h p List.mem_cons_self c hc
      ·
       rcases List.mem_cons.1 hc with rfl | hc
       ·
        decide
       ·
        exact ih (fun x hx => h x (List.mem_cons_of_mem _ hx)) c hc
   have hmj := memJ R fun p hp => (hm p hp).2.2.2
   have hby : bytesOf (strOfNums (joinC R)) = joinC R := bytes_nums _ fun c hc => (hmj c hc).2
   have hv : visOk (strOfNums (joinC R)) = true := by
    unfold visOk
    rw [Bool.and_eq_true, hby]
    exact ⟨decide_eq_true (by rw [strOfNums_size]; exact h4), List.all_eq_true.2 fun c hc => (hmj c hc).1⟩
   rw [itemsR_is _ hv, hby, itemsA_join R hg fun p hp => ⟨(hm p hp).1, (hm p hp).2.1⟩]
  exact items_loop R hj hm last R.length 0 false (by omega)
end Go.Proofs.YtalbfkhkfhnmjaaDoor.Pure
namespace Go.Proofs.YtalbfkhkfhnmjaaDoor.fnItems
open Go.ChangeShapes Go.WideShapes Go.ChangeAt Go.RowKit
open Go.ChangeMaps (open_string shut_string)
set_option linter.unusedVariables false
theorem own : ownKnob Tryd.prog.godebug = none := by kernel_rfl
theorem laidOut : laidOutB Tryd.prog = true := by kernel_rfl
def IsRow (k : IntKind) (w : World) (a : Option Addr) (len cap : Nat) (zs : List Int) : Prop :=
  (a = none ∧ len = 0 ∧ cap = 0 ∧ zs = []) ∨
  ∃ x, a = some x ∧ len ≤ cap ∧ cap ≤ maxLen ∧ zs.length = cap ∧ (∀ i, i < zs.length → w.cell? (x.add i) = some (.int k (zs.getD i 0))) ∧ ∀ n ∈ zs, (Lit.int k n).wf = true
set_option maxRecDepth 100000 in
theorem lifted (os : Os) (started : os.Started) (H : Type) (enc : TypeId × Value → H) :
    ReturnsInHanded {} Tryd.checked os 4 .any (fun w args => (Rows.fnItemsSpec.pre enc Tryd.prog Tryd.f4 [] false w args ∧ laidMetH Tryd.prog Rows.fnItemsRow.laid w) ∧ sizedMet enc Tryd.prog Tryd.f4 (OpenSpec.ofChange Rows.fnItemsSpec) false w args) (Rows.fnItemsSpec.post enc Tryd.prog Tryd.f4 false true false false) := by
  refine RowAid.handed_both (C := Tryd.checked) (X := fun w _ => laidMetH Tryd.prog Rows.fnItemsRow.laid w) (fun _ _ _ hh h => h.of_heap hh) own started (by kernel_rfl) Tryd.func4
    (ChangeSpec.witness_shaped (enc := enc) (C := Tryd.checked) (os := os) (X := fun w _ => laidMetH Tryd.prog Rows.fnItemsRow.laid w) false (World.laidAll Tryd.prog os Rows.fnItemsRow.laid) #[.slice none 0 0] 8 (World.laidAll_os _ _ _)
      (World.shaped_of_ZipB (by kernel_rfl) (by kernel_rfl)) (by kernel_rfl) (by kernel_rfl) (by kernel_rfl)
      (by rw [MakeChecks.laidMetH_plain _ _ _ (by kernel_rfl)]; exact laidMet_laidAll _ (by kernel_rfl) (by kernel_rfl))) ?_
  intro W base args ds gs before hval0 hW hcnd hsz0 hL hSh _
  have hsz : (DataW.weightsEach Tryd.prog (Tryd.f4.params.toList ++ Rows.fnItemsSpec.plain.varTypes Tryd.prog) (ds ++ gs)).all (· ≤ reachBytes) = true := hsz0
  have hval : ∀ (j : Nat) t v, Tryd.f4.params[j]? = some t → args[j]? = some v → Value.okWide Tryd.prog W .any base t v := hval0
  have hW' := hW
  obtain ⟨p, q, hA0, hV, rfl, hfz, hnd⟩ := hW
  have hA : DataW.TrodAll enc Tryd.prog W 0 (fun _ => true) true Tryd.f4.params.toList args.toList ds p := hA0
  rw [Tryd.params4] at hA hval hsz
  obtain ⟨v0, vs0, d0, ds0, p0, q0, hargs, rfl, rfl, h0, r0⟩ := trodAll_cons hA
  obtain ⟨rfl, rfl, rfl⟩ := trodAll_nil r0
  obtain rfl : args = #[v0] := by cases args; simp_all
  obtain ⟨rfl, rfl⟩ := trodVars_none hV
  obtain ⟨a0, len0, cap0, rfl⟩ := okWide_slice Tryd.underlying27 (hval 0 27 v0 rfl rfl)
  have k0 := h0
  have lt0 : ∀ x ∈ p0, x.block < W.heap.size := by obtain ⟨m, hm⟩ := k0; exact DataW.trod_lt m _ _ _ hm
  obtain ⟨z0, w0⟩ : ∃ zs, IsRow .u8 W a0 len0 cap0 zs := by
    obtain ⟨fuel, hf⟩ := h0
    rcases open_ints Tryd.underlying27 Tryd.underlying5 (by kernel_rfl) hf with ⟨hcs, _⟩ | ⟨x, l, c, zs, hcs, _, hl, hm, hz, _, hcell, hwz⟩
    · simp [Value.cells] at hcs
      obtain ⟨rfl, rfl, rfl⟩ := hcs
      exact ⟨[], .inl ⟨rfl, rfl, rfl, rfl⟩⟩
    · simp [Value.cells] at hcs
      obtain ⟨rfl, rfl, rfl⟩ := hcs
      exact ⟨zs, .inr ⟨_, rfl, hl, hm, by simpa using hz, hcell, hwz⟩⟩
  have y0 : len0 * 1 ≤ 140737488351232 := Go.Proofs.YtalbfkhkfhnmjaaDoorW.PrintWords.sized_ints hsz (j := 0) (t := 27) rfl rfl Tryd.underlying27 Tryd.underlying5 (by kernel_rfl) (by kernel_rfl) h0
  clear hA0 hval0 hsz0 hsz
  refine (P.laws_FnItems.walk Pure.FnItems a0 len0 cap0 z0 W w0 y0).mono fun e W' ⟨he, bel⟩ => ?_
  subst he
  exact ⟨_, rfl, _, _, _, [], _, [], hW', trodAll_mk1 (shut_bool Tryd.underlying4 _), (trodAll_cons_mk (Below.trod laidOut (by kernel_rfl) (of_decide_eq_true (by kernel_rfl)) k0 bel lt0) trodAll_mk0), rfl, bel.frame _, fun h => by cases h⟩
theorem over : Rows.fnItemsRow.holds Tryd.pinned (OpenSpec.ofChange Rows.fnItemsSpec) :=
  OpenClaim.holds_of_wide 4 Tryd.f4 rfl rfl rfl rfl rfl rfl rfl ⟨rfl, rfl, rfl, rfl, rfl⟩ rfl rfl rfl rfl rfl (by kernel_rfl) Tryd.func4 (by kernel_rfl)
    (of_decide_eq_true (by kernel_rfl)) (by unfold Func.isWrapper; first | (rw [if_pos (by decide +kernel)]; kernel_rfl) | (rw [if_neg (by decide +kernel)]; exact ⟨rfl, rfl⟩))
    (fun os started H enc _ => lifted os started H enc)
theorem proved : Rows.FnItemsSaid := over
#print axioms proved
end Go.Proofs.YtalbfkhkfhnmjaaDoor.fnItems
namespace Go.Proofs.YtalbfkhkfhnmjaaDoor
/-- The tied card, under a short name, for the claim. -/
theorem fnItems_card : Rows.FnItemsCardSaid :=
  Claim7.holds_tied_plain_at .later [] [.data, .pinned] true (true, "7e7a3fefffea0b553aa830ed627cf692d5253a5efc4814182ed69e94805bf61a") true
    fnItems.proved (fun _ h => by cases h) (by kernel_rfl) (fun _ h => by cases h) fnItems_row_tie rfl ⟨rfl, rfl⟩ (by kernel_rfl) rfl
    (fun f fn hf hfn => by
      obtain rfl : f = 4 := Option.some.inj ((show Tryd.prog.funcNamed "loop.example/g00207/laws.FnItems" = some 4 by kernel_rfl).symm.trans hf) |>.symm
      obtain rfl : fn = Tryd.f4 := (Option.some.inj (Tryd.func4.symm.trans hfn)).symm
      exact ⟨by kernel_rfl, fun j t ht => by
        rw [Tryd.params4] at ht
        have hm : t ∈ [27] := by simpa using Array.mem_of_getElem? ht
        have hall : ([27].all fun u => !Tryd.prog.wantsStandIn u) = true := by kernel_rfl
        exact (show Tryd.prog.wantsStandIn t = false by simpa using List.all_eq_true.1 hall t hm)⟩)
    (by kernel_rfl)
#print axioms fnItems_card
end Go.Proofs.YtalbfkhkfhnmjaaDoor
