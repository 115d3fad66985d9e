/- Functions of the Go program as Lean functions, and proofs about them, merged out of this session's texts by its program bundle.py; conditions: those that each theorem states. -/
import Derived.Below
import Derived.ChangeOld
import Derived.Handed
import Derived.HandedShaped
import Derived.LaidMore
import Derived.Lay
import Derived.Lib.LaidTab
import Derived.Lib.Strings
import Derived.MakeChecks
import Derived.OpenShut
import Derived.ProofKit
import Derived.SevenTiedAt
import Derived.Shelf.Vars
import Derived.ShutString
import Derived.SizedLaws
import Derived.Stop.Joined
import Derived.Test.YtpolkndhjcdheaaDoorCards
import Derived.Test.YtpolkndhjcdheaaDoorGFormatBits
import Derived.Test.YtpolkndhjcdheaaDoorGFormatInt
import Derived.Test.YtpolkndhjcdheaaDoorP0
import Derived.Test.YtpolkndhjcdheaaDoorPimplHex
import Derived.Test.YtpolkndhjcdheaaDoorPimplwithin
import Derived.Test.YtpolkndhjcdheaaDoorPlawsFnExactHex
import Derived.Test.YtpolkndhjcdheaaDoorPspecHex
import Derived.Test.YtpolkndhjcdheaaDoorPspecl1In
import Derived.Test.YtpolkndhjcdheaaDoorRows
import Derived.Test.YtpolkndhjcdheaaDoorTie
import Derived.Test.YtpolkndhjcdheaaDoorXW
import Derived.WalkKit
namespace Go.Proofs.YtpolkndhjcdheaaDoor.RowAid
open Go
variable {H : Type} {enc : TypeId × Value → H}
theorem handed_both {a : Assume} {C : Checked} {os : Os} {f : FuncId} {fn : Func} {s : ChangeSpec} {conds : List PathCond} {apart fresh handsOn again : Bool} {X : World → Array Value → Prop}
    (hX : ∀ (w w' : World) (args : Array Value), w.heap = w'.heap → X w args → X w' args)
    (own : ownKnob C.prog.godebug = none) (started : os.Started) (noInit : C.prog.inits.idxOf? f = none) (hfn : C.prog.funcs[f]? = some fn)
    (witness : ∃ (w : World) (tape : Tape) (i : Input), w.os = os ∧ (w.forCall tape i).Shaped C.prog ∧ i.vars = [] ∧ Input.okWide C.prog (w.forCall tape i) .any w.heap.size f i ∧
      ((s.pre enc C.prog fn conds apart (w.forCall tape i).memory i.args ∧ X (w.forCall tape i).memory i.args) ∧ sizedMet enc C.prog fn (OpenSpec.ofChange s) apart (w.forCall tape i).memory i.args) ∧ a.holds C.prog (lone (Frame.enter C.prog f i.args .normal) [] (w.forCall tape i)))
    (contract : ∀ (W : World) (base : Nat) (args : Array Value) (ds gs : List (DataW H)) (before : List MemPlace),
      (∀ (j : Nat) t v, fn.params[j]? = some t → args[j]? = some v → Value.okWide C.prog W .any base t v) →
      DataW.Whole enc C.prog fn.params.toList s.vars apart W args.toList ds gs before →
      conds.all (PathCond.test C.prog ⟨fn.params.toList, ds, s.plain.varTypes C.prog, gs⟩) = true →
      (DataW.weightsEach C.prog (fn.params.toList ++ s.plain.varTypes C.prog) (ds ++ gs)).all (· ≤ reachBytes) = true → X W args → W.ShapedOpen C.prog →
      a.holds C.prog (lone (Frame.enter C.prog f args .normal) [] W) →
      Calls C.prog f args W fun e W' => ∃ v, e = .returned v ∧ s.post enc C.prog fn apart fresh handsOn again W args v W') :
    ReturnsInHanded a C os f .any (fun w args => (s.pre enc C.prog fn conds apart w args ∧ X w args) ∧ sizedMet enc C.prog fn (OpenSpec.ofChange s) apart w args) (s.post enc C.prog fn apart fresh handsOn again) := by
  refine returnsInHanded_of_calls own started noInit witness ?_
  intro w tape i _ hsh _ hok hpre hholds
  obtain ⟨_, _, _, fn', hfn', _, _, _, _, hval⟩ := hok
  have e : fn' = fn := Option.some.inj (hfn'.symm.trans hfn)
  subst e
  obtain ⟨⟨⟨ds, gs, before, hw, hc⟩, hx⟩, hz⟩ := hpre
  have hw' := DataW.Whole.of_heap (w' := w.forCall tape i) (by rfl) hw
  refine (contract (w.forCall tape i) w.heap.size i.args ds gs before hval hw' hc (hz.weights hw) (hX _ _ _ (by rfl) hx) hsh hholds).mono fun e W' ⟨v, he, hp⟩ => ?_
  subst he
  exact ChangeSpec.post_blind hp
end Go.Proofs.YtpolkndhjcdheaaDoor.RowAid
namespace Go.Proofs.YtpolkndhjcdheaaDoor.RowAid
open Go

/-- What a list lays a variable with. -/
def laysAs (laid : List (String × DataW Unit)) (name : String) : Option (DataW Unit) :=
  match laid with
  | [] => none
  | x :: r => if x.1 = name then some x.2 else laysAs r name
theorem tabIs_mem {P : Program} {W : World} {name : String} {k : IntKind} {zs : List Int} {g : Nat} {t e : TypeId} {n : Nat}
    (hg : P.globalNamed name = some g) (hty : (P.globals[g]?).map (·.type) = some t) (ht : P.underlying t = some (.array n e)) (he : P.underlying e = some (.int k)) (hce : P.cellsOf e = 1) (hct : P.cellsOf t = n) :
    ∀ (laid : List (String × DataW Unit)) (ps : List MemPlace), DataW.LaidVars P W laid ps → laysAs laid name = some (Lib.tabData k zs) → Lib.TabIs P W name k zs := by
  intro laid
  induction laid with
  | nil => intro ps _ h; cases h
  | cons x r ih =>
    intro ps hl hm
    obtain ⟨nm, d⟩ := x
    obtain ⟨g', t', cs, fuel, p, q, hg', ht', hvar, hd, hr, _⟩ := hl
    unfold laysAs at hm
    by_cases hn : nm = name
    · subst hn
      rw [if_pos rfl] at hm
      obtain rfl : d = Lib.tabData k zs := Option.some.inj hm
      obtain rfl := Option.some.inj (hg.symm.trans hg')
      obtain rfl := Option.some.inj (hty.symm.trans ht')
      unfold Lib.TabIs
      rw [hvar, ← Lib.cells_of_tab ht he hce hct hd]
    · rw [if_neg hn] at hm
      exact ih q hr hm
theorem xw_of {m : Nat} {W : World} (hS : W.ShapedOpen Tryd.prog) (laid : List (String × DataW Unit)) (hL : laidMetH Tryd.prog laid W) (hp : (laid.all fun x => x.2.handleName?.isNone) = true)
    (h10 : m / 2 % 2 = 1 → laysAs laid "internal/strconv.uint64pow10" = some (Lib.tabData .u64 Lib.pow10Tab)) (htz : m / 4 % 2 = 1 → laysAs laid "math/bits.deBruijn64tab" = some (Lib.tabData .u8 P.deBruijn64Tab)) : P.XW m W := by
  rw [MakeChecks.laidMetH_plain _ _ _ hp] at hL
  obtain ⟨ps, hv, _⟩ := hL
  unfold P.XW
  refine ⟨fun _ => cell_of_shapedOpen_int (zero := #[.int .i64 0]) (t := 3) hS (of_decide_eq_true (by kernel_rfl)) (by kernel_rfl) rfl (by kernel_rfl) (by kernel_rfl) Tryd.underlying3, ?_⟩
  refine ⟨fun h => tabIs_mem (g := 1) (n := 20) (by kernel_rfl) rfl (by kernel_rfl) Tryd.underlying90 (by kernel_rfl) (by kernel_rfl) laid ps hv (h10 h), ?_⟩
  refine ⟨fun h => tabIs_mem (g := 5) (n := 64) (by kernel_rfl) rfl (by kernel_rfl) Tryd.underlying5 (by kernel_rfl) (by kernel_rfl) laid ps hv (htz h), ?_⟩
  trivial
end Go.Proofs.YtpolkndhjcdheaaDoor.RowAid
namespace Go.Proofs.YtpolkndhjcdheaaDoor.Q
open Go.RowKit Go.Proofs.YtpolkndhjcdheaaDoorW.PrintWords Go.Proofs.YtpolkndhjcdheaaDoorW.PrintLast Go.Proofs.YtpolkndhjcdheaaDoorW.PrintMore

theorem wrap_in {i : Int} (h0 : -9223372036854775808 ≤ i) (h1 : i ≤ 9223372036854775807) : wrap64 i = i := by unfold wrap64; omega
theorem wrap_next {i : Nat} {n : Nat} (h : i < n) (hn : n ≤ 4611686018427387904) : wrap64 ((i : Int) + 1) = ((i + 1 : Nat) : Int) := by unfold wrap64; omega

theorem toList_data (s : ByteArray) : s.toList = s.data.toList := ByteArray.toList_eq s
theorem eq_of_toList {a b : ByteArray} (h : a.toList = b.toList) : a = b := by
  rw [toList_data, toList_data] at h
  exact ByteArray.ext (Array.toList_inj.1 h)
theorem bt_get (s : ByteArray) (i : Nat) (h : i < s.size) : (bytesOf s)[i]? = some (bt s i) := by
  rw [← rd_bytesOf]
  have h1 : i < (bytesOf s).length := by rw [bytesOf_length]; exact h
  simp [rd, List.getD_eq_getElem?_getD, List.getElem?_eq_getElem h1]
theorem drop_bt (s : ByteArray) (i : Nat) (h : i < s.size) : (bytesOf s).drop i = bt s i :: (bytesOf s).drop (i + 1) := by
  have h1 : i < (bytesOf s).length := by rw [bytesOf_length]; exact h
  rw [List.drop_eq_getElem_cons h1]
  have := bt_get s i h
  rw [List.getElem?_eq_getElem h1] at this
  rw [Option.some.inj this]
theorem mem_bytes {s : ByteArray} {c : Int} (h : c ∈ bytesOf s) : 0 ≤ c ∧ c ≤ 255 := by
  unfold bytesOf at h
  obtain ⟨b, _, rfl⟩ := List.mem_map.1 h
  have := b.toNat_lt
  omega
theorem bytes_nums (l : List Int) (h : ∀ c ∈ l, 0 ≤ c ∧ c ≤ 255) : bytesOf (strOfNums l) = l := by
  unfold bytesOf
  rw [strOfNums_data, List.map_map]
  refine (List.map_congr_left fun c hc => ?_).trans (List.map_id l)
  have := h c hc
  simp only [Function.comp, UInt8.toNat_ofNat', id]
  omega
theorem nums_bytes (s : ByteArray) : strOfNums (bytesOf s) = s := by
  apply ByteArray.ext
  apply Array.toList_inj.1
  rw [strOfNums_data]
  unfold bytesOf
  rw [List.map_map]
  refine (List.map_congr_left fun c hc => ?_).trans (List.map_id _)
  simp
theorem bytes_inj {a b : ByteArray} (h : bytesOf a = bytesOf b) : a = b := by rw [← nums_bytes a, ← nums_bytes b, h]
theorem bytes_append (a b : ByteArray) : bytesOf (a ++ b) = bytesOf a ++ bytesOf b := by
  unfold bytesOf
  rw [← List.map_append]
  simp [ByteArray.data_append]

/-- A loop over bytes: what a round does with its state and a byte; an end ahead of time. -/
def runL {σ β : Type} (f : σ → Int → σ ⊕ β) (fin : σ → β) : List Int → σ → β
  | [], st => fin st
  | c :: cs, st => match f st c with
    | .inl st' => runL f fin cs st'
    | .inr b => b
/-- The printed loop comes to what 'runL' comes to, from some number of rounds on. -/
theorem ev_run {σ β : Type} (s : ByteArray) (I : σ → Nat → Prop) (f : σ → Int → σ ⊕ β) (fin : σ → β) (g : Nat → σ → Int → Option β) (K : Nat)
    (hstep : ∀ k st (i : Nat), K ≤ k → i < s.size → I st i → (∀ st', f st (bt s i) = .inl st' → g (k + 1) st i = g k st' ((i + 1 : Nat) : Int) ∧ I st' (i + 1)) ∧ (∀ b, f st (bt s i) = .inr b → g (k + 1) st i = some b))
    (hend : ∀ k st, K ≤ k → I st s.size → g (k + 1) st (s.size : Int) = some (fin st)) (st : σ) (h0 : I st 0) :
    Ev (fun k => g k st 0) (runL f fin (bytesOf s) st) := by
  have key : ∀ (d i : Nat) (st : σ), i + d = s.size → I st i → ∀ k, K + d < k → g k st (i : Int) = some (runL f fin ((bytesOf s).drop i) st) := by
    intro d
    induction d with
    | zero =>
      intro i st hd hI k hk
      obtain ⟨k, rfl⟩ : ∃ m, k = m + 1 := ⟨k - 1, by omega⟩
      have e : i = s.size := by omega
      subst e
      rw [hend k st (by omega) hI, List.drop_of_length_le (by rw [bytesOf_length]; exact Nat.le_refl _)]
      rfl
    | succ d ih =>
      intro i st hd hI k hk
      obtain ⟨k, rfl⟩ : ∃ m, k = m + 1 := ⟨k - 1, by omega⟩
      obtain ⟨h1, h2⟩ := hstep k st i (by omega) (by omega) hI
      rw [drop_bt s i (by omega)]
      show g (k + 1) st i = some (match f st (bt s i) with | .inl st' => runL f fin ((bytesOf s).drop (i + 1)) st' | .inr b => b)
      cases hf : f st (bt s i) with
      | inl st' =>
        obtain ⟨e, hI'⟩ := h1 st' hf
        rw [e]
        exact ih (i + 1) st' (by omega) hI' k (by omega)
      | inr b => exact h2 b hf
  refine ⟨K + s.size + 1, fun k hk => ?_⟩
  have := key s.size 0 st (by omega) h0 k (by omega)
  rw [List.drop_zero] at this
  exact this

/-- A loop that asks each byte. -/
theorem ev_all (s : ByteArray) (p : Int → Bool) (g : Nat → Int → Option Bool) (K : Nat)
    (h1 : ∀ k (i : Nat), K ≤ k → i < s.size → p (bt s i) = true → g (k + 1) i = g k ((i + 1 : Nat) : Int))
    (h0 : ∀ k (i : Nat), K ≤ k → i < s.size → p (bt s i) = false → g (k + 1) i = some false)
    (he : ∀ k, K ≤ k → g (k + 1) (s.size : Int) = some true) : Ev (fun k => g k 0) ((bytesOf s).all p) := by
  have h := ev_run (σ := Unit) (β := Bool) s (fun _ _ => True) (fun _ c => if p c = true then .inl () else .inr false) (fun _ => true) (fun k _ i => g k i) K
    (fun k st i hk hi _ => ⟨fun st' e => ⟨h1 k i hk hi (by
        by_cases hp : p (bt s i) = true
        · exact hp
        · rw [if_neg hp] at e; cases e), trivial⟩, fun b e => by
        by_cases hp : p (bt s i) = true
        · rw [if_pos hp] at e; cases e
        · rw [if_neg hp] at e
          obtain rfl : false = b := by injection e
          exact h0 k i hk hi (by simpa using hp)⟩)
    (fun k st hk _ => he k hk) () trivial
  have e : ∀ l : List Int, runL (σ := Unit) (β := Bool) (fun _ c => if p c = true then .inl () else .inr false) (fun _ => true) l () = l.all p := by
    intro l
    induction l with
    | nil => rfl
    | cons c cs ih =>
      rw [List.all_cons]
      unfold runL
      by_cases hp : p c = true
      · simp only [hp, if_true, Bool.true_and]; exact ih
      · simp only [(by simpa using hp : p c = false), Bool.false_and, Bool.false_eq_true, if_false]
  rw [e] at h
  exact h
theorem runL_all {β : Type} (p : Int → Bool) (r b : β) (l : List Int) : runL (σ := Unit) (fun _ c => if p c = true then .inl () else .inr b) (fun _ => r) l () = if l.all p = true then r else b := by
  induction l with
  | nil => rfl
  | cons c cs ih =>
    rw [List.all_cons]
    unfold runL
    by_cases hp : p c = true
    · simp only [hp, if_true, Bool.true_and]; exact ih
    · simp only [(by simpa using hp : p c = false), Bool.false_and, Bool.false_eq_true, if_false]
/-- A loop that asks each byte, and goes on behind it. -/
theorem ev_allr {β : Type} (s : ByteArray) (p : Int → Bool) (r b : β) (g : Nat → Int → Option β) (K : Nat)
    (h1 : ∀ k (i : Nat), K ≤ k → i < s.size → p (bt s i) = true → g (k + 1) i = g k ((i + 1 : Nat) : Int))
    (h0 : ∀ k (i : Nat), K ≤ k → i < s.size → p (bt s i) = false → g (k + 1) i = some b)
    (he : ∀ k, K ≤ k → g (k + 1) (s.size : Int) = some r) : Ev (fun k => g k 0) (if (bytesOf s).all p = true then r else b) := by
  rw [← runL_all p r b (bytesOf s)]
  refine ev_run (σ := Unit) s (fun _ _ => True) (fun _ c => if p c = true then .inl () else .inr b) (fun _ => r) (fun k _ i => g k i) K
    (fun k st i hk hi _ => ⟨fun st' e => ⟨h1 k i hk hi (by
        by_cases hp : p (bt s i) = true
        · exact hp
        · rw [if_neg hp] at e; cases e), trivial⟩, fun b' e => by
        by_cases hp : p (bt s i) = true
        · rw [if_pos hp] at e; cases e
        · rw [if_neg hp] at e
          obtain rfl : b = b' := by injection e
          exact h0 k i hk hi (by simpa using hp)⟩)
    (fun k st hk _ => he k hk) () trivial
/-- A loop that puts something behind a list for each byte. -/
theorem runL_flat {β : Type} (f : Int → List Int) (fin : List Int → β) (l st : List Int) : runL (fun st c => .inl (st ++ f c)) fin l st = fin (st ++ l.flatMap f) := by
  induction l generalizing st with
  | nil => simp [runL]
  | cons c cs ih =>
    unfold runL
    simp only [ih, List.flatMap_cons, List.append_assoc]
theorem ev_const {α : Type} {x : Option α} {r : α} (h : x = some r) : Ev (fun _ => x) r := ⟨0, fun _ _ => h⟩
theorem ev_eq {α : Type} {g : Nat → Option α} {r r' : α} (h : Ev g r) (e : r = r') : Ev g r' := e ▸ h
/-- From a number of rounds on: a law that holds at each such number. -/
theorem ev_now {α : Type} {g : Nat → Option α} {r : α} (K : Nat) (h : ∀ k, K ≤ k → g k = some r) : Ev g r := ⟨K, h⟩
theorem all_congr' {l : List Int} {p q : Int → Bool} (h : ∀ c ∈ l, p c = q c) : l.all p = l.all q := by
  induction l with
  | nil => rfl
  | cons a l ih =>
    rw [List.all_cons, List.all_cons, h a List.mem_cons_self, ih fun c hc => h c (List.mem_cons_of_mem _ hc)]
end Go.Proofs.YtpolkndhjcdheaaDoor.Q
namespace Go.Proofs.YtpolkndhjcdheaaDoor.Q
set_option linter.unusedVariables false
set_option linter.unusedSimpArgs false
open Go.RowKit Go.Proofs.YtpolkndhjcdheaaDoor.P Go.Proofs.YtpolkndhjcdheaaDoorW.PrintWords Go.Proofs.YtpolkndhjcdheaaDoorW.PrintLast Go.Proofs.YtpolkndhjcdheaaDoorW.PrintMore

theorem bytes_extract (s : ByteArray) (a b : Nat) : bytesOf (s.extract a b) = ((bytesOf s).drop a).take (b - a) := by
  unfold bytesOf
  rw [Lib.extract_data, List.map_take, List.map_drop]
theorem bytes_last (s : ByteArray) (h : 0 < s.size) : bytesOf s = bytesOf (s.extract 0 (s.size - 1)) ++ [bt s ((s.size - 1 : Nat) : Int)] := by
  rw [bytes_extract, List.drop_zero, Nat.sub_zero]
  have h1 := drop_bt s (s.size - 1) (by omega)
  have h2 : (bytesOf s).drop (s.size - 1 + 1) = [] := List.drop_of_length_le (by rw [bytesOf_length]; omega)
  rw [h2] at h1
  rw [← h1, List.take_append_drop]
theorem bytes_first (s : ByteArray) (h : 0 < s.size) : bytesOf s = bt s 0 :: bytesOf (s.extract 1 s.size) := by
  rw [bytes_extract]
  have h1 := drop_bt s 0 h
  rw [List.drop_zero] at h1
  rw [List.take_of_length_le (by rw [List.length_drop, bytesOf_length]; exact Nat.le_refl _)]
  exact h1
theorem size_extract (s : ByteArray) (a b : Nat) (hb : b ≤ s.size) : (s.extract a b).size = b - a := by
  rw [← bytesOf_length, bytes_extract, List.length_take, List.length_drop, bytesOf_length]
  omega
theorem toList_nil (s : ByteArray) : s.toList = [] ↔ s.size = 0 := by
  rw [toList_data, ← data_length]
  exact List.length_eq_zero_iff.symm
theorem bytes_nil (s : ByteArray) (h : s.size = 0) : bytesOf s = [] := List.eq_nil_of_length_eq_zero (by rw [bytesOf_length]; exact h)
theorem bytes_ofList (l : List UInt8) : bytesOf ⟨l.toArray⟩ = l.map fun b => (b.toNat : Int) := by
  unfold bytesOf
  rfl
theorem bytes_two (s : ByteArray) (i : Nat) (h : i + 2 ≤ s.size) : bytesOf (s.extract i (i + 2)) = [bt s (i : Int), bt s ((i + 1 : Nat) : Int)] := by
  rw [bytes_extract, drop_bt s i (by omega), drop_bt s (i + 1) (by omega), show i + 2 - i = 2 from by omega]
  rfl
def inB (x a b : Int) : Bool := decide (a ≤ x) && decide (x ≤ b)
theorem spec_l1In_is (x a b : Int) : spec_l1In.f x a b = some (inB x a b) := by
  unfold spec_l1In.f inB
  by_cases h : x ≥ a
  · rw [if_pos h, decide_eq_true (by omega : a ≤ x), Bool.true_and]
  · rw [if_neg h, decide_eq_false (by omega : ¬ a ≤ x), Bool.false_and]
theorem impl_within_is (x a b : Int) : impl_within.f x a b = some (inB x a b) := by
  unfold impl_within.f inB
  by_cases h : x ≥ a
  · rw [if_pos h, decide_eq_true (by omega : a ≤ x), Bool.true_and]
  · rw [if_neg h, decide_eq_false (by omega : ¬ a ≤ x), Bool.false_and]
theorem inB_true {x a b : Int} (h : inB x a b = true) : a ≤ x ∧ x ≤ b := by unfold inB at h; simpa using h
def hexD (n : Nat) : ByteArray := strOfNums [bt digs36 (n : Int)]
/-- A number's hexadecimal numeral. -/
def hexT (n : Nat) : ByteArray := strOfNums (hexL n)
theorem hex_digit (m : Nat) (h : m < 16) : (⟨#[48, 49, 50, 51, 52, 53, 54, 55, 56, 57, 97, 98, 99, 100, 101, 102]⟩ : ByteArray).extract m (m + 1) = hexD m := by
  have key : ∀ i : Fin 16, ((⟨#[48, 49, 50, 51, 52, 53, 54, 55, 56, 57, 97, 98, 99, 100, 101, 102]⟩ : ByteArray).extract i.1 (i.1 + 1)).data.toList = (hexD i.1).data.toList := by decide
  have := key ⟨m, h⟩
  exact ByteArray.ext (Array.toList_inj.1 this)
theorem hexD_size (n : Nat) : (hexD n).size = 1 := by
  unfold hexD strOfNums
  rfl
theorem hex_app (l : List Int) (d : Nat) (s : ByteArray) : strOfNums l ++ (hexD d ++ s) = strOfNums (l ++ [bt digs36 (d : Int)]) ++ s := by
  apply ByteArray.ext
  apply Array.toList_inj.1
  unfold hexD
  simp only [ByteArray.data_append, Array.toList_append, strOfNums_data, List.map_append, List.append_assoc]
theorem hex_step (k n : Nat) (s : ByteArray) (h : s.toList = [] ∨ 0 < n) (hn : n ≤ 9000000000000000000) (hs : s.size ≤ 1000) :
    spec_Hex.l0 (k + 1) (n : Int) s = spec_Hex.l0 k ((n / 16 : Nat) : Int) (hexD (n % 16) ++ s) := by
  have e1 : Int.tmod (n : Int) 16 = ((n % 16 : Nat) : Int) := by rw [Int.tmod_eq_emod_of_nonneg (by omega)]; omega
  have e2 : wrap64 (((n % 16 : Nat) : Int) + 1) = ((n % 16 + 1 : Nat) : Int) := by rw [wrap_in (by omega) (by omega)]; omega
  have e3 : wrap64 (Int.tdiv (n : Int) 16) = ((n / 16 : Nat) : Int) := by rw [Int.tdiv_eq_ediv_of_nonneg (by omega), wrap_in (by omega) (by omega)]; omega
  have e4 := hex_digit (n % 16) (Nat.mod_lt _ (by decide))
  simp only [spec_Hex.l0]
  by_cases h1 : s.toList = []
  · rw [if_pos h1, e1, e2, e3, if_pos (by omega), if_pos (by omega), if_pos (by omega), Int.toNat_natCast, Int.toNat_natCast, e4, if_pos (by rw [hexD_size]; omega)]
  · have h0 := h.resolve_left h1
    rw [if_neg h1, if_pos (by omega), e1, e2, e3, if_pos (by omega), if_pos (by omega), if_pos (by omega), Int.toNat_natCast, Int.toNat_natCast, e4, if_pos (by rw [hexD_size]; omega)]
theorem hex_stop (k : Nat) (s : ByteArray) (h : s.toList ≠ []) : spec_Hex.l0 (k + 1) 0 s = some s := by
  simp only [spec_Hex.l0]
  rw [if_neg h, if_neg (by omega)]
theorem hex_ne (d : Nat) (s : ByteArray) : (hexD d ++ s).toList ≠ [] := by
  rw [toList_data]
  simp [hexD, ByteArray.data_append, strOfNums_data]
theorem hex_loop (d : Nat) : ∀ (n : Nat) (s : ByteArray), n < 16 ^ (d + 1) → (s.toList = [] ∨ 0 < n) → n ≤ 9000000000000000000 → s.size + d ≤ 1000 → Ev (fun k => spec_Hex.l0 k (n : Int) s) (strOfNums (hexL n) ++ s) := by
  induction d with
  | zero =>
    intro n s hn h hb hs
    have h16 : n < 16 := by simpa using hn
    refine Ev.step (fun k => hex_step k n s h hb (by omega)) ?_
    rw [show n / 16 = 0 by omega, show n % 16 = n by omega, hexL, dif_pos h16]
    exact Ev.step (f := fun _ => some (hexD n ++ s)) (fun k => hex_stop k _ (hex_ne n s)) (Ev.now _)
  | succ d ih =>
    intro n s hn h hb hs
    refine Ev.step (fun k => hex_step k n s h hb (by omega)) ?_
    by_cases h16 : n < 16
    · rw [show n / 16 = 0 by omega, show n % 16 = n by omega, hexL, dif_pos h16]
      exact Ev.step (f := fun _ => some (hexD n ++ s)) (fun k => hex_stop k _ (hex_ne n s)) (Ev.now _)
    · rw [hexL, dif_neg h16, ← hex_app]
      exact ih (n / 16) (hexD (n % 16) ++ s) (by rw [Nat.pow_succ] at hn; omega) (.inr (by omega)) (by omega) (by rw [ByteArray.size_append, hexD_size]; omega)
def hexR (n : Int) : ByteArray := if inB n 0 4503599627370496 = true then hexT n.toNat else ⟨#[]⟩
theorem spec_Hex_ev (n : Int) : Ev (fun k => spec_Hex.f k n) (hexR n) := by
  unfold spec_Hex.f hexR
  rw [spec_l1In_is]
  simp only [Option.bind_some]
  by_cases h : inB n 0 4503599627370496 = true
  · simp only [if_pos h]
    have hr := inB_true h
    have := hex_loop 15 n.toNat ⟨#[]⟩ (by omega) (.inl ((toList_nil _).2 rfl)) (by omega) (by decide)
    rw [show ((n.toNat : Nat) : Int) = n by omega] at this
    refine ev_eq this ?_
    apply ByteArray.ext
    apply Array.toList_inj.1
    simp [ByteArray.data_append, hexT]
  · simp only [if_neg h]
    exact Ev.now _
theorem impl_Hex_is (n : Int) : impl_Hex.f n = some (hexR n) := by
  unfold impl_Hex.f hexR
  rw [impl_within_is]
  simp only [Option.bind_some]
  by_cases h : inB n 0 4503599627370496 = true
  · have hr := inB_true h
    rw [if_pos h, if_pos h]
    unfold strconv_FormatInt.f
    rw [if_pos ⟨rfl, hr.1, by omega⟩]
    rfl
  · rw [if_neg h, if_neg h]
end Go.Proofs.YtpolkndhjcdheaaDoor.Q
namespace Go.Proofs.YtpolkndhjcdheaaDoor.Pure
set_option linter.unusedVariables false
set_option linter.unusedSimpArgs false
open Go.RowKit Go.Proofs.YtpolkndhjcdheaaDoor.P Go.Proofs.YtpolkndhjcdheaaDoor.Q Go.Proofs.YtpolkndhjcdheaaDoorW.PrintWords
theorem FnExactHex : laws_FnExactHex.Pure := by
 intro a ha
 unfold laws_FnExactHex.f
 refine Ev.rounds (r := true) (Ev.bind (spec_Hex_ev a) (Ev.bind (ev_const (impl_Hex_is a)) ?_))
 simp only [if_true]
 exact Ev.now _
end Go.Proofs.YtpolkndhjcdheaaDoor.Pure
namespace Go.Proofs.YtpolkndhjcdheaaDoor.fnExactHex
open Go.ChangeShapes Go.WideShapes Go.ChangeAt Go.RowKit
open Go.ChangeMaps (open_string shut_string)
set_option linter.unusedVariables false
theorem own : ownKnob Tryd.prog.godebug = none := by kernel_rfl
set_option maxRecDepth 100000 in
theorem lifted (os : Os) (started : os.Started) (H : Type) (enc : TypeId × Value → H) :
    ReturnsInHanded {} Tryd.checked os 6 .any (fun w args => (Rows.fnExactHexSpec.pre enc Tryd.prog Tryd.f6 [] false w args ∧ laidMetH Tryd.prog Rows.fnExactHexRow.laid w) ∧ sizedMet enc Tryd.prog Tryd.f6 (OpenSpec.ofChange Rows.fnExactHexSpec) false w args) (Rows.fnExactHexSpec.post enc Tryd.prog Tryd.f6 false true false false) := by
  refine RowAid.handed_both (C := Tryd.checked) (X := fun w _ => laidMetH Tryd.prog Rows.fnExactHexRow.laid w) (fun _ _ _ hh h => h.of_heap hh) own started (by kernel_rfl) Tryd.func6
    (ChangeSpec.witness_shaped (enc := enc) (C := Tryd.checked) (os := os) (X := fun w _ => laidMetH Tryd.prog Rows.fnExactHexRow.laid w) false (World.laidAll Tryd.prog os Rows.fnExactHexRow.laid) #[.int .i64 0] 8 (World.laidAll_os _ _ _)
      (World.shaped_of_ZipB (by kernel_rfl) (by kernel_rfl)) (by kernel_rfl) (by kernel_rfl) (by kernel_rfl)
      (by rw [MakeChecks.laidMetH_plain _ _ _ (by kernel_rfl)]; exact laidMet_laidAll _ (by kernel_rfl) (by kernel_rfl))) ?_
  intro W base args ds gs before hval0 hW hcnd hsz0 hL hSh _
  have hsz : (DataW.weightsEach Tryd.prog (Tryd.f6.params.toList ++ Rows.fnExactHexSpec.plain.varTypes Tryd.prog) (ds ++ gs)).all (· ≤ reachBytes) = true := hsz0
  have hval : ∀ (j : Nat) t v, Tryd.f6.params[j]? = some t → args[j]? = some v → Value.okWide Tryd.prog W .any base t v := hval0
  have hW' := hW
  obtain ⟨p, q, hA0, hV, rfl, hfz, hnd⟩ := hW
  have hA : DataW.TrodAll enc Tryd.prog W 0 (fun _ => true) true Tryd.f6.params.toList args.toList ds p := hA0
  rw [Tryd.params6] at hA hval hsz
  obtain ⟨v0, vs0, d0, ds0, p0, q0, hargs, rfl, rfl, h0, r0⟩ := trodAll_cons hA
  obtain ⟨rfl, rfl, rfl⟩ := trodAll_nil r0
  obtain rfl : args = #[v0] := by cases args; simp_all
  obtain ⟨rfl, rfl⟩ := trodVars_none hV
  obtain ⟨a0, rfl, rfl, rfl, w0⟩ := open_int Tryd.underlying2 (hval 0 2 v0 rfl rfl) h0
  clear hA0 hval0 hsz0 hsz
  have hXW := RowAid.xw_of (m := 6) hSh Rows.fnExactHexRow.laid hL (by kernel_rfl) (fun _ => by kernel_rfl) (fun _ => by kernel_rfl)
  refine (P.laws_FnExactHex.walk Pure.FnExactHex a0 W hXW w0).mono fun e W' ⟨he, bel⟩ => ?_
  subst he
  exact ⟨_, rfl, _, _, _, [], _, [], hW', trodAll_mk1 (shut_bool Tryd.underlying4 _), (trodAll_cons_mk (shut_int Tryd.underlying2 w0) trodAll_mk0), rfl, bel.frame _, fun h => by cases h⟩
theorem over : Rows.fnExactHexRow.holds Tryd.pinned (OpenSpec.ofChange Rows.fnExactHexSpec) :=
  OpenClaim.holds_of_wide 6 Tryd.f6 rfl rfl rfl rfl rfl rfl rfl ⟨rfl, rfl, rfl, rfl, rfl⟩ rfl rfl rfl rfl rfl (by kernel_rfl) Tryd.func6 (by kernel_rfl)
    (of_decide_eq_true (by kernel_rfl)) (by unfold Func.isWrapper; first | (rw [if_pos (by decide +kernel)]; kernel_rfl) | (rw [if_neg (by decide +kernel)]; exact ⟨rfl, rfl⟩))
    (fun os started H enc _ => lifted os started H enc)
theorem proved : Rows.FnExactHexSaid := over
#print axioms proved
end Go.Proofs.YtpolkndhjcdheaaDoor.fnExactHex
namespace Go.Proofs.YtpolkndhjcdheaaDoor
/-- The tied card, under a short name, for the claim. -/
theorem fnExactHex_card : Rows.FnExactHexCardSaid :=
  Claim7.holds_tied_plain_at .later [] [.data, .data, .data] true (true, "2134072171a85a52d68e86f520862ac0071c1be3afb9790bf4bf02533f5fb1dc") true
    fnExactHex.proved (fun _ h => by cases h) (by kernel_rfl) (fun _ h => by cases h) fnExactHex_row_tie rfl ⟨rfl, rfl⟩ (by kernel_rfl) rfl
    (fun f fn hf hfn => by
      obtain rfl : f = 6 := Option.some.inj ((show Tryd.prog.funcNamed "loop.example/g00207/laws.FnExactHex" = some 6 by kernel_rfl).symm.trans hf) |>.symm
      obtain rfl : fn = Tryd.f6 := (Option.some.inj (Tryd.func6.symm.trans hfn)).symm
      exact ⟨by kernel_rfl, fun j t ht => by
        rw [Tryd.params6] at ht
        have hm : t ∈ [2] := by simpa using Array.mem_of_getElem? ht
        have hall : ([2].all fun u => !Tryd.prog.wantsStandIn u) = true := by kernel_rfl
        exact (show Tryd.prog.wantsStandIn t = false by simpa using List.all_eq_true.1 hall t hm)⟩)
    (by kernel_rfl)
#print axioms fnExactHex_card
end Go.Proofs.YtpolkndhjcdheaaDoor
