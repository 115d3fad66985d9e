/- Functions of the Go program as Lean functions, and proofs about them, merged out of this session's texts by its program bundle.py; conditions: those that each theorem states. -/
import Derived.Below
import Derived.Carry
import Derived.ChangeOld
import Derived.ChangeSame
import Derived.Deep.Fields
import Derived.Deep.Slices
import Derived.Handed
import Derived.HandedShaped
import Derived.LaidMore
import Derived.Lay
import Derived.Lib.LaidTab
import Derived.Lib.Strings
import Derived.MakeChecks
import Derived.OpenShut
import Derived.ProofKit
import Derived.SevenTiedAt
import Derived.Shelf.Vars
import Derived.ShutString
import Derived.SizedLaws
import Derived.Stop.Joined
import Derived.Test.YtalbfkhkfhnmjaaDoorCards
import Derived.Test.YtalbfkhkfhnmjaaDoorGFormatBits
import Derived.Test.YtalbfkhkfhnmjaaDoorGFormatInt
import Derived.Test.YtalbfkhkfhnmjaaDoorGimplChunked
import Derived.Test.YtalbfkhkfhnmjaaDoorP0
import Derived.Test.YtalbfkhkfhnmjaaDoorPimplHex
import Derived.Test.YtalbfkhkfhnmjaaDoorPimplwithin
import Derived.Test.YtalbfkhkfhnmjaaDoorPlawsFnExactChunked
import Derived.Test.YtalbfkhkfhnmjaaDoorPlawseqStringS
import Derived.Test.YtalbfkhkfhnmjaaDoorPlawsszStringS
import Derived.Test.YtalbfkhkfhnmjaaDoorPlawstoStringS
import Derived.Test.YtalbfkhkfhnmjaaDoorPspecChunked
import Derived.Test.YtalbfkhkfhnmjaaDoorPspecHex
import Derived.Test.YtalbfkhkfhnmjaaDoorPspecl1In
import Derived.Test.YtalbfkhkfhnmjaaDoorRows
import Derived.Test.YtalbfkhkfhnmjaaDoorTie
import Derived.Test.YtalbfkhkfhnmjaaDoorXA
import Derived.Test.YtalbfkhkfhnmjaaDoorXW
import Derived.WalkKit
import Derived.WideShapes
namespace Go.Proofs.YtalbfkhkfhnmjaaDoor.RowAid
open Go
variable {H : Type} {enc : TypeId × Value → H}
theorem handed_both {a : Assume} {C : Checked} {os : Os} {f : FuncId} {fn : Func} {s : ChangeSpec} {conds : List PathCond} {apart fresh handsOn again : Bool} {X : World → Array Value → Prop}
    (hX : ∀ (w w' : World) (args : Array Value), w.heap = w'.heap → X w args → X w' args)
    (own : ownKnob C.prog.godebug = none) (started : os.Started) (noInit : C.prog.inits.idxOf? f = none) (hfn : C.prog.funcs[f]? = some fn)
    (witness : ∃ (w : World) (tape : Tape) (i : Input), w.os = os ∧ (w.forCall tape i).Shaped C.prog ∧ i.vars = [] ∧ Input.okWide C.prog (w.forCall tape i) .any w.heap.size f i ∧
      ((s.pre enc C.prog fn conds apart (w.forCall tape i).memory i.args ∧ X (w.forCall tape i).memory i.args) ∧ sizedMet enc C.prog fn (OpenSpec.ofChange s) apart (w.forCall tape i).memory i.args) ∧ a.holds C.prog (lone (Frame.enter C.prog f i.args .normal) [] (w.forCall tape i)))
    (contract : ∀ (W : World) (base : Nat) (args : Array Value) (ds gs : List (DataW H)) (before : List MemPlace),
      (∀ (j : Nat) t v, fn.params[j]? = some t → args[j]? = some v → Value.okWide C.prog W .any base t v) →
      DataW.Whole enc C.prog fn.params.toList s.vars apart W args.toList ds gs before →
      conds.all (PathCond.test C.prog ⟨fn.params.toList, ds, s.plain.varTypes C.prog, gs⟩) = true →
      (DataW.weightsEach C.prog (fn.params.toList ++ s.plain.varTypes C.prog) (ds ++ gs)).all (· ≤ reachBytes) = true → X W args → W.ShapedOpen C.prog →
      a.holds C.prog (lone (Frame.enter C.prog f args .normal) [] W) →
      Calls C.prog f args W fun e W' => ∃ v, e = .returned v ∧ s.post enc C.prog fn apart fresh handsOn again W args v W') :
    ReturnsInHanded a C os f .any (fun w args => (s.pre enc C.prog fn conds apart w args ∧ X w args) ∧ sizedMet enc C.prog fn (OpenSpec.ofChange s) apart w args) (s.post enc C.prog fn apart fresh handsOn again) := by
  refine returnsInHanded_of_calls own started noInit witness ?_
  intro w tape i _ hsh _ hok hpre hholds
  obtain ⟨_, _, _, fn', hfn', _, _, _, _, hval⟩ := hok
  have e : fn' = fn := Option.some.inj (hfn'.symm.trans hfn)
  subst e
  obtain ⟨⟨⟨ds, gs, before, hw, hc⟩, hx⟩, hz⟩ := hpre
  have hw' := DataW.Whole.of_heap (w' := w.forCall tape i) (by rfl) hw
  refine (contract (w.forCall tape i) w.heap.size i.args ds gs before hval hw' hc (hz.weights hw) (hX _ _ _ (by rfl) hx) hsh hholds).mono fun e W' ⟨v, he, hp⟩ => ?_
  subst he
  exact ChangeSpec.post_blind hp
end Go.Proofs.YtalbfkhkfhnmjaaDoor.RowAid
namespace Go.Proofs.YtalbfkhkfhnmjaaDoor.RowAid
open Go

/-- What a list lays a variable with. -/
def laysAs (laid : List (String × DataW Unit)) (name : String) : Option (DataW Unit) :=
  match laid with
  | [] => none
  | x :: r => if x.1 = name then some x.2 else laysAs r name
theorem tabIs_mem {P : Program} {W : World} {name : String} {k : IntKind} {zs : List Int} {g : Nat} {t e : TypeId} {n : Nat}
    (hg : P.globalNamed name = some g) (hty : (P.globals[g]?).map (·.type) = some t) (ht : P.underlying t = some (.array n e)) (he : P.underlying e = some (.int k)) (hce : P.cellsOf e = 1) (hct : P.cellsOf t = n) :
    ∀ (laid : List (String × DataW Unit)) (ps : List MemPlace), DataW.LaidVars P W laid ps → laysAs laid name = some (Lib.tabData k zs) → Lib.TabIs P W name k zs := by
  intro laid
  induction laid with
  | nil => intro ps _ h; cases h
  | cons x r ih =>
    intro ps hl hm
    obtain ⟨nm, d⟩ := x
    obtain ⟨g', t', cs, fuel, p, q, hg', ht', hvar, hd, hr, _⟩ := hl
    unfold laysAs at hm
    by_cases hn : nm = name
    · subst hn
      rw [if_pos rfl] at hm
      obtain rfl : d = Lib.tabData k zs := Option.some.inj hm
      obtain rfl := Option.some.inj (hg.symm.trans hg')
      obtain rfl := Option.some.inj (hty.symm.trans ht')
      unfold Lib.TabIs
      rw [hvar, ← Lib.cells_of_tab ht he hce hct hd]
    · rw [if_neg hn] at hm
      exact ih q hr hm
theorem xw_of {m : Nat} {W : World} (hS : W.ShapedOpen Tryd.prog) (laid : List (String × DataW Unit)) (hL : laidMetH Tryd.prog laid W) (hp : (laid.all fun x => x.2.handleName?.isNone) = true)
    (h10 : m / 2 % 2 = 1 → laysAs laid "internal/strconv.uint64pow10" = some (Lib.tabData .u64 Lib.pow10Tab)) (htz : m / 4 % 2 = 1 → laysAs laid "math/bits.deBruijn64tab" = some (Lib.tabData .u8 P.deBruijn64Tab)) : P.XW m W := by
  rw [MakeChecks.laidMetH_plain _ _ _ hp] at hL
  obtain ⟨ps, hv, _⟩ := hL
  unfold P.XW
  refine ⟨fun _ => cell_of_shapedOpen_int (zero := #[.int .i64 0]) (t := 3) hS (of_decide_eq_true (by kernel_rfl)) (by kernel_rfl) rfl (by kernel_rfl) (by kernel_rfl) Tryd.underlying3, ?_⟩
  refine ⟨fun h => tabIs_mem (g := 2) (n := 20) (by kernel_rfl) rfl (by kernel_rfl) Tryd.underlying98 (by kernel_rfl) (by kernel_rfl) laid ps hv (h10 h), ?_⟩
  refine ⟨fun h => tabIs_mem (g := 5) (n := 64) (by kernel_rfl) rfl (by kernel_rfl) Tryd.underlying5 (by kernel_rfl) (by kernel_rfl) laid ps hv (htz h), ?_⟩
  trivial
end Go.Proofs.YtalbfkhkfhnmjaaDoor.RowAid
namespace Go.Proofs.YtalbfkhkfhnmjaaDoor.Q
open Go.RowKit Go.Proofs.YtalbfkhkfhnmjaaDoorW.PrintWords Go.Proofs.YtalbfkhkfhnmjaaDoorW.PrintLast Go.Proofs.YtalbfkhkfhnmjaaDoorW.PrintMore

theorem wrap_in {i : Int} (h0 : -9223372036854775808 ≤ i) (h1 : i ≤ 9223372036854775807) : wrap64 i = i := by unfold wrap64; omega
theorem wrap_next {i : Nat} {n : Nat} (h : i < n) (hn : n ≤ 4611686018427387904) : wrap64 ((i : Int) + 1) = ((i + 1 : Nat) : Int) := by unfold wrap64; omega

theorem toList_data (s : ByteArray) : s.toList = s.data.toList := ByteArray.toList_eq s
theorem eq_of_toList {a b : ByteArray} (h : a.toList = b.toList) : a = b := by
  rw [toList_data, toList_data] at h
  exact ByteArray.ext (Array.toList_inj.1 h)
theorem bt_get (s : ByteArray) (i : Nat) (h : i < s.size) : (bytesOf s)[i]? = some (bt s i) := by
  rw [← rd_bytesOf]
  have h1 : i < (bytesOf s).length := by rw [bytesOf_length]; exact h
  simp [rd, List.getD_eq_getElem?_getD, List.getElem?_eq_getElem h1]
theorem drop_bt (s : ByteArray) (i : Nat) (h : i < s.size) : (bytesOf s).drop i = bt s i :: (bytesOf s).drop (i + 1) := by
  have h1 : i < (bytesOf s).length := by rw [bytesOf_length]; exact h
  rw [List.drop_eq_getElem_cons h1]
  have := bt_get s i h
  rw [List.getElem?_eq_getElem h1] at this
  rw [Option.some.inj this]
theorem mem_bytes {s : ByteArray} {c : Int} (h : c ∈ bytesOf s) : 0 ≤ c ∧ c ≤ 255 := by
  unfold bytesOf at h
  obtain ⟨b, _, rfl⟩ := List.mem_map.1 h
  have := b.toNat_lt
  omega
theorem bytes_nums (l : List Int) (h : ∀ c ∈ l, 0 ≤ c ∧ c ≤ 255) : bytesOf (strOfNums l) = l := by
  unfold bytesOf
  rw [strOfNums_data, List.map_map]
  refine (List.map_congr_left fun c hc => ?_).trans (List.map_id l)
  have := h c hc
  simp only [Function.comp, UInt8.toNat_ofNat', id]
  omega
theorem nums_bytes (s : ByteArray) : strOfNums (bytesOf s) = s := by
  apply ByteArray.ext
  apply Array.toList_inj.1
  rw [strOfNums_data]
  unfold bytesOf
  rw [List.map_map]
  refine (List.map_congr_left fun c hc => ?_).trans (List.map_id _)
  simp
theorem bytes_inj {a b : ByteArray} (h : bytesOf a = bytesOf b) : a = b := by rw [← nums_bytes a, ← nums_bytes b, h]
theorem bytes_append (a b : ByteArray) : bytesOf (a ++ b) = bytesOf a ++ bytesOf b := by
  unfold bytesOf
  rw [← List.map_append]
  simp [ByteArray.data_append]

/-- A loop over bytes: what a round does with its state and a byte; an end ahead of time. -/
def runL {σ β : Type} (f : σ → Int → σ ⊕ β) (fin : σ → β) : List Int → σ → β
  | [], st => fin st
  | c :: cs, st => match f st c with
    | .inl st' => runL f fin cs st'
    | .inr b => b
/-- The printed loop comes to what 'runL' comes to, from some number of rounds on. -/
theorem ev_run {σ β : Type} (s : ByteArray) (I : σ → Nat → Prop) (f : σ → Int → σ ⊕ β) (fin : σ → β) (g : Nat → σ → Int → Option β) (K : Nat)
    (hstep : ∀ k st (i : Nat), K ≤ k → i < s.size → I st i → (∀ st', f st (bt s i) = .inl st' → g (k + 1) st i = g k st' ((i + 1 : Nat) : Int) ∧ I st' (i + 1)) ∧ (∀ b, f st (bt s i) = .inr b → g (k + 1) st i = some b))
    (hend : ∀ k st, K ≤ k → I st s.size → g (k + 1) st (s.size : Int) = some (fin st)) (st : σ) (h0 : I st 0) :
    Ev (fun k => g k st 0) (runL f fin (bytesOf s) st) := by
  have key : ∀ (d i : Nat) (st : σ), i + d = s.size → I st i → ∀ k, K + d < k → g k st (i : Int) = some (runL f fin ((bytesOf s).drop i) st) := by
    intro d
    induction d with
    | zero =>
      intro i st hd hI k hk
      obtain ⟨k, rfl⟩ : ∃ m, k = m + 1 := ⟨k - 1, by omega⟩
      have e : i = s.size := by omega
      subst e
      rw [hend k st (by omega) hI, List.drop_of_length_le (by rw [bytesOf_length]; exact Nat.le_refl _)]
      rfl
    | succ d ih =>
      intro i st hd hI k hk
      obtain ⟨k, rfl⟩ : ∃ m, k = m + 1 := ⟨k - 1, by omega⟩
      obtain ⟨h1, h2⟩ := hstep k st i (by omega) (by omega) hI
      rw [drop_bt s i (by omega)]
      show g (k + 1) st i = some (match f st (bt s i) with | .inl st' => runL f fin ((bytesOf s).drop (i + 1)) st' | .inr b => b)
      cases hf : f st (bt s i) with
      | inl st' =>
        obtain ⟨e, hI'⟩ := h1 st' hf
        rw [e]
        exact ih (i + 1) st' (by omega) hI' k (by omega)
      | inr b => exact h2 b hf
  refine ⟨K + s.size + 1, fun k hk => ?_⟩
  have := key s.size 0 st (by omega) h0 k (by omega)
  rw [List.drop_zero] at this
  exact this

/-- A loop that asks each byte. -/
theorem ev_all (s : ByteArray) (p : Int → Bool) (g : Nat → Int → Option Bool) (K : Nat)
    (h1 : ∀ k (i : Nat), K ≤ k → i < s.size → p (bt s i) = true → g (k + 1) i = g k ((i + 1 : Nat) : Int))
    (h0 : ∀ k (i : Nat), K ≤ k → i < s.size → p (bt s i) = false → g (k + 1) i = some false)
    (he : ∀ k, K ≤ k → g (k + 1) (s.size : Int) = some true) : Ev (fun k => g k 0) ((bytesOf s).all p) := by
  have h := ev_run (σ := Unit) (β := Bool) s (fun _ _ => True) (fun _ c => if p c = true then .inl () else .inr false) (fun _ => true) (fun k _ i => g k i) K
    (fun k st i hk hi _ => ⟨fun st' e => ⟨h1 k i hk hi (by
        by_cases hp : p (bt s i) = true
        · exact hp
        · rw [if_neg hp] at e; cases e), trivial⟩, fun b e => by
        by_cases hp : p (bt s i) = true
        · rw [if_pos hp] at e; cases e
        · rw [if_neg hp] at e
          obtain rfl : false = b := by injection e
          exact h0 k i hk hi (by simpa using hp)⟩)
    (fun k st hk _ => he k hk) () trivial
  have e : ∀ l : List Int, runL (σ := Unit) (β := Bool) (fun _ c => if p c = true then .inl () else .inr false) (fun _ => true) l () = l.all p := by
    intro l
    induction l with
    | nil => rfl
    | cons c cs ih =>
      rw [List.all_cons]
      unfold runL
      by_cases hp : p c = true
      · simp only [hp, if_true, Bool.true_and]; exact ih
      · simp only [(by simpa using hp : p c = false), Bool.false_and, Bool.false_eq_true, if_false]
  rw [e] at h
  exact h
theorem runL_all {β : Type} (p : Int → Bool) (r b : β) (l : List Int) : runL (σ := Unit) (fun _ c => if p c = true then .inl () else .inr b) (fun _ => r) l () = if l.all p = true then r else b := by
  induction l with
  | nil => rfl
  | cons c cs ih =>
    rw [List.all_cons]
    unfold runL
    by_cases hp : p c = true
    · simp only [hp, if_true, Bool.true_and]; exact ih
    · simp only [(by simpa using hp : p c = false), Bool.false_and, Bool.false_eq_true, if_false]
/-- A loop that asks each byte, and goes on behind it. -/
theorem ev_allr {β : Type} (s : ByteArray) (p : Int → Bool) (r b : β) (g : Nat → Int → Option β) (K : Nat)
    (h1 : ∀ k (i : Nat), K ≤ k → i < s.size → p (bt s i) = true → g (k + 1) i = g k ((i + 1 : Nat) : Int))
    (h0 : ∀ k (i : Nat), K ≤ k → i < s.size → p (bt s i) = false → g (k + 1) i = some b)
    (he : ∀ k, K ≤ k → g (k + 1) (s.size : Int) = some r) : Ev (fun k => g k 0) (if (bytesOf s).all p = true then r else b) := by
  rw [← runL_all p r b (bytesOf s)]
  refine ev_run (σ := Unit) s (fun _ _ => True) (fun _ c => if p c = true then .inl () else .inr b) (fun _ => r) (fun k _ i => g k i) K
    (fun k st i hk hi _ => ⟨fun st' e => ⟨h1 k i hk hi (by
        by_cases hp : p (bt s i) = true
        · exact hp
        · rw [if_neg hp] at e; cases e), trivial⟩, fun b' e => by
        by_cases hp : p (bt s i) = true
        · rw [if_pos hp] at e; cases e
        · rw [if_neg hp] at e
          obtain rfl : b = b' := by injection e
          exact h0 k i hk hi (by simpa using hp)⟩)
    (fun k st hk _ => he k hk) () trivial
/-- A loop that puts something behind a list for each byte. -/
theorem runL_flat {β : Type} (f : Int → List Int) (fin : List Int → β) (l st : List Int) : runL (fun st c => .inl (st ++ f c)) fin l st = fin (st ++ l.flatMap f) := by
  induction l generalizing st with
  | nil => simp [runL]
  | cons c cs ih =>
    unfold runL
    simp only [ih, List.flatMap_cons, List.append_assoc]
theorem ev_const {α : Type} {x : Option α} {r : α} (h : x = some r) : Ev (fun _ => x) r := ⟨0, fun _ _ => h⟩
theorem ev_eq {α : Type} {g : Nat → Option α} {r r' : α} (h : Ev g r) (e : r = r') : Ev g r' := e ▸ h
/-- From a number of rounds on: a law that holds at each such number. -/
theorem ev_now {α : Type} {g : Nat → Option α} {r : α} (K : Nat) (h : ∀ k, K ≤ k → g k = some r) : Ev g r := ⟨K, h⟩
theorem all_congr' {l : List Int} {p q : Int → Bool} (h : ∀ c ∈ l, p c = q c) : l.all p = l.all q := by
  induction l with
  | nil => rfl
  | cons a l ih =>
    rw [List.all_cons, List.all_cons, h a List.mem_cons_self, ih fun c hc => h c (List.mem_cons_of_mem _ hc)]
end Go.Proofs.YtalbfkhkfhnmjaaDoor.Q
namespace Go.Proofs.YtalbfkhkfhnmjaaDoor.Q
set_option linter.unusedVariables false
set_option linter.unusedSimpArgs false
open Go.RowKit Go.Proofs.YtalbfkhkfhnmjaaDoor.P Go.Proofs.YtalbfkhkfhnmjaaDoorW.PrintWords Go.Proofs.YtalbfkhkfhnmjaaDoorW.PrintLast Go.Proofs.YtalbfkhkfhnmjaaDoorW.PrintMore

theorem bytes_extract (s : ByteArray) (a b : Nat) : bytesOf (s.extract a b) = ((bytesOf s).drop a).take (b - a) := by
  unfold bytesOf
  rw [Lib.extract_data, List.map_take, List.map_drop]
theorem bytes_last (s : ByteArray) (h : 0 < s.size) : bytesOf s = bytesOf (s.extract 0 (s.size - 1)) ++ [bt s ((s.size - 1 : Nat) : Int)] := by
  rw [bytes_extract, List.drop_zero, Nat.sub_zero]
  have h1 := drop_bt s (s.size - 1) (by omega)
  have h2 : (bytesOf s).drop (s.size - 1 + 1) = [] := List.drop_of_length_le (by rw [bytesOf_length]; omega)
  rw [h2] at h1
  rw [← h1, List.take_append_drop]
theorem bytes_first (s : ByteArray) (h : 0 < s.size) : bytesOf s = bt s 0 :: bytesOf (s.extract 1 s.size) := by
  rw [bytes_extract]
  have h1 := drop_bt s 0 h
  rw [List.drop_zero] at h1
  rw [List.take_of_length_le (by rw [List.length_drop, bytesOf_length]; exact Nat.le_refl _)]
  exact h1
theorem size_extract (s : ByteArray) (a b : Nat) (hb : b ≤ s.size) : (s.extract a b).size = b - a := by
  rw [← bytesOf_length, bytes_extract, List.length_take, List.length_drop, bytesOf_length]
  omega
theorem toList_nil (s : ByteArray) : s.toList = [] ↔ s.size = 0 := by
  rw [toList_data, ← data_length]
  exact List.length_eq_zero_iff.symm
theorem bytes_nil (s : ByteArray) (h : s.size = 0) : bytesOf s = [] := List.eq_nil_of_length_eq_zero (by rw [bytesOf_length]; exact h)
theorem bytes_ofList (l : List UInt8) : bytesOf ⟨l.toArray⟩ = l.map fun b => (b.toNat : Int) := by
  unfold bytesOf
  rfl
theorem bytes_two (s : ByteArray) (i : Nat) (h : i + 2 ≤ s.size) : bytesOf (s.extract i (i + 2)) = [bt s (i : Int), bt s ((i + 1 : Nat) : Int)] := by
  rw [bytes_extract, drop_bt s i (by omega), drop_bt s (i + 1) (by omega), show i + 2 - i = 2 from by omega]
  rfl
def inB (x a b : Int) : Bool := decide (a ≤ x) && decide (x ≤ b)
theorem spec_l1In_is (x a b : Int) : spec_l1In.f x a b = some (inB x a b) := by
  unfold spec_l1In.f inB
  by_cases h : x ≥ a
  · rw [if_pos h, decide_eq_true (by omega : a ≤ x), Bool.true_and]
  · rw [if_neg h, decide_eq_false (by omega : ¬ a ≤ x), Bool.false_and]
theorem impl_within_is (x a b : Int) : impl_within.f x a b = some (inB x a b) := by
  unfold impl_within.f inB
  by_cases h : x ≥ a
  · rw [if_pos h, decide_eq_true (by omega : a ≤ x), Bool.true_and]
  · rw [if_neg h, decide_eq_false (by omega : ¬ a ≤ x), Bool.false_and]
theorem inB_true {x a b : Int} (h : inB x a b = true) : a ≤ x ∧ x ≤ b := by unfold inB at h; simpa using h
def hexD (n : Nat) : ByteArray := strOfNums [bt digs36 (n : Int)]
/-- A number's hexadecimal numeral. -/
def hexT (n : Nat) : ByteArray := strOfNums (hexL n)
theorem hex_digit (m : Nat) (h : m < 16) : (⟨#[48, 49, 50, 51, 52, 53, 54, 55, 56, 57, 97, 98, 99, 100, 101, 102]⟩ : ByteArray).extract m (m + 1) = hexD m := by
  have key : ∀ i : Fin 16, ((⟨#[48, 49, 50, 51, 52, 53, 54, 55, 56, 57, 97, 98, 99, 100, 101, 102]⟩ : ByteArray).extract i.1 (i.1 + 1)).data.toList = (hexD i.1).data.toList := by decide
  have := key ⟨m, h⟩
  exact ByteArray.ext (Array.toList_inj.1 this)
theorem hexD_size (n : Nat) : (hexD n).size = 1 := by
  unfold hexD strOfNums
  rfl
theorem hex_app (l : List Int) (d : Nat) (s : ByteArray) : strOfNums l ++ (hexD d ++ s) = strOfNums (l ++ [bt digs36 (d : Int)]) ++ s := by
  apply ByteArray.ext
  apply Array.toList_inj.1
  unfold hexD
  simp only [ByteArray.data_append, Array.toList_append, strOfNums_data, List.map_append, List.append_assoc]
theorem hex_step (k n : Nat) (s : ByteArray) (h : s.toList = [] ∨ 0 < n) (hn : n ≤ 9000000000000000000) (hs : s.size ≤ 1000) :
    spec_Hex.l0 (k + 1) (n : Int) s = spec_Hex.l0 k ((n / 16 : Nat) : Int) (hexD (n % 16) ++ s) := by
  have e1 : Int.tmod (n : Int) 16 = ((n % 16 : Nat) : Int) := by rw [Int.tmod_eq_emod_of_nonneg (by omega)]; omega
  have e2 : wrap64 (((n % 16 : Nat) : Int) + 1) = ((n % 16 + 1 : Nat) : Int) := by rw [wrap_in (by omega) (by omega)]; omega
  have e3 : wrap64 (Int.tdiv (n : Int) 16) = ((n / 16 : Nat) : Int) := by rw [Int.tdiv_eq_ediv_of_nonneg (by omega), wrap_in (by omega) (by omega)]; omega
  have e4 := hex_digit (n % 16) (Nat.mod_lt _ (by decide))
  simp only [spec_Hex.l0]
  by_cases h1 : s.toList = []
  · rw [if_pos h1, e1, e2, e3, if_pos (by omega), if_pos (by omega), if_pos (by omega), Int.toNat_natCast, Int.toNat_natCast, e4, if_pos (by rw [hexD_size]; omega)]
  · have h0 := h.resolve_left h1
    rw [if_neg h1, if_pos (by omega), e1, e2, e3, if_pos (by omega), if_pos (by omega), if_pos (by omega), Int.toNat_natCast, Int.toNat_natCast, e4, if_pos (by rw [hexD_size]; omega)]
theorem hex_stop (k : Nat) (s : ByteArray) (h : s.toList ≠ []) : spec_Hex.l0 (k + 1) 0 s = some s := by
  simp only [spec_Hex.l0]
  rw [if_neg h, if_neg (by omega)]
theorem hex_ne (d : Nat) (s : ByteArray) : (hexD d ++ s).toList ≠ [] := by
  rw [toList_data]
  simp [hexD, ByteArray.data_append, strOfNums_data]
theorem hex_loop (d : Nat) : ∀ (n : Nat) (s : ByteArray), n < 16 ^ (d + 1) → (s.toList = [] ∨ 0 < n) → n ≤ 9000000000000000000 → s.size + d ≤ 1000 → Ev (fun k => spec_Hex.l0 k (n : Int) s) (strOfNums (hexL n) ++ s) := by
  induction d with
  | zero =>
    intro n s hn h hb hs
    have h16 : n < 16 := by simpa using hn
    refine Ev.step (fun k => hex_step k n s h hb (by omega)) ?_
    rw [show n / 16 = 0 by omega, show n % 16 = n by omega, hexL, dif_pos h16]
    exact Ev.step (f := fun _ => some (hexD n ++ s)) (fun k => hex_stop k _ (hex_ne n s)) (Ev.now _)
  | succ d ih =>
    intro n s hn h hb hs
    refine Ev.step (fun k => hex_step k n s h hb (by omega)) ?_
    by_cases h16 : n < 16
    · rw [show n / 16 = 0 by omega, show n % 16 = n by omega, hexL, dif_pos h16]
      exact Ev.step (f := fun _ => some (hexD n ++ s)) (fun k => hex_stop k _ (hex_ne n s)) (Ev.now _)
    · rw [hexL, dif_neg h16, ← hex_app]
      exact ih (n / 16) (hexD (n % 16) ++ s) (by rw [Nat.pow_succ] at hn; omega) (.inr (by omega)) (by omega) (by rw [ByteArray.size_append, hexD_size]; omega)
def hexR (n : Int) : ByteArray := if inB n 0 4503599627370496 = true then hexT n.toNat else ⟨#[]⟩
theorem spec_Hex_ev (n : Int) : Ev (fun k => spec_Hex.f k n) (hexR n) := by
  unfold spec_Hex.f hexR
  rw [spec_l1In_is]
  simp only [Option.bind_some]
  by_cases h : inB n 0 4503599627370496 = true
  · simp only [if_pos h]
    have hr := inB_true h
    have := hex_loop 15 n.toNat ⟨#[]⟩ (by omega) (.inl ((toList_nil _).2 rfl)) (by omega) (by decide)
    rw [show ((n.toNat : Nat) : Int) = n by omega] at this
    refine ev_eq this ?_
    apply ByteArray.ext
    apply Array.toList_inj.1
    simp [ByteArray.data_append, hexT]
  · simp only [if_neg h]
    exact Ev.now _
theorem impl_Hex_is (n : Int) : impl_Hex.f n = some (hexR n) := by
  unfold impl_Hex.f hexR
  rw [impl_within_is]
  simp only [Option.bind_some]
  by_cases h : inB n 0 4503599627370496 = true
  · have hr := inB_true h
    rw [if_pos h, if_pos h]
    unfold strconv_FormatInt.f
    rw [if_pos ⟨rfl, hr.1, by omega⟩]
    rfl
  · rw [if_neg h, if_neg h]
theorem rd_tx (l : List ByteArray) (i : Nat) (h : i < l.length) : rdOf ByteArray.empty l (i : Int) = l[i] := by
  simp [rdOf, List.getD_eq_getElem?_getD, h]
theorem sizes_cons (a : ByteArray) (l : List ByteArray) : sizes (a :: l) = a.size + sizes l := by simp [sizes]
theorem szStringS_ev (l : List ByteArray) (left : Int) (h0 : 0 ≤ left) (h1 : left ≤ 1048576) (hl : l.length ≤ 9223372036854775807) (hx : ∀ x ∈ l, x.size ≤ 9223372036854775807) :
    ∃ r, Ev (fun k => laws_szStringS.f k l left) r ∧ (0 ≤ r → l.length ≤ 1048576 ∧ sizes l ≤ 1048576) := by
  have hw : wrap64 (left - (l.length : Int)) = left - (l.length : Int) := wrap_in (by omega) (by omega)
  unfold laws_szStringS.f
  rw [hw]
  by_cases hn : left - (l.length : Int) < 0
  · simp only [if_pos hn]
    exact ⟨-1, Ev.now _, fun h => by omega⟩
  · simp only [if_neg hn]
    have key : ∀ (n i : Nat) (st : Int), i + n = l.length → 0 ≤ st → st ≤ 1048576 → ∃ r, Ev (fun k => laws_szStringS.l0 k l st (i : Int)) r ∧ r ≤ st ∧ (0 ≤ r → (sizes (l.drop i) : Int) ≤ st - r) := by
      intro n
      induction n with
      | zero =>
        intro i st hd _ _
        refine ⟨st, Ev.step (f := fun _ => some st) (fun k => ?_) (Ev.now _), Int.le_refl _, fun _ => ?_⟩
        · simp only [laws_szStringS.l0]
          rw [if_neg (by omega)]
        · rw [List.drop_of_length_le (by omega)]
          show ((0 : Nat) : Int) ≤ st - st
          omega
      | succ n ih =>
        intro i st hd s0 s1
        have hi : i < l.length := by omega
        have hm := hx _ (List.getElem_mem hi)
        rw [List.drop_eq_getElem_cons hi, sizes_cons]
        have hw1 : wrap64 (st - (l[i].size : Int)) = st - (l[i].size : Int) := wrap_in (by omega) (by omega)
        have hw2 : wrap64 ((i : Int) + 1) = ((i + 1 : Nat) : Int) := by rw [wrap_in (by omega) (by omega)]; omega
        by_cases hneg : st - (l[i].size : Int) < 0
        · refine ⟨-1, Ev.step (f := fun _ => some (-1)) (fun k => ?_) (Ev.now _), by omega, fun h => by omega⟩
          simp only [laws_szStringS.l0]
          rw [if_pos (by omega), if_pos (by omega), rd_tx l i hi, hw1, if_pos hneg]
        · obtain ⟨r, hr, hle, hs⟩ := ih (i + 1) (st - (l[i].size : Int)) (by omega) (by omega) (by omega)
          refine ⟨r, Ev.step (fun k => ?_) hr, by omega, fun h => by have := hs h; omega⟩
          simp only [laws_szStringS.l0]
          rw [if_pos (by omega), if_pos (by omega), rd_tx l i hi, hw1, if_neg hneg, hw2]
    obtain ⟨r, hr, hle, hs⟩ := key l.length 0 (left - (l.length : Int)) (by omega) (by omega) (by omega)
    exact ⟨r, hr, fun h => ⟨by omega, by have := hs h; rw [List.drop_zero] at this; omega⟩⟩
theorem toStringS_ev (l : List ByteArray) (hl : l.length ≤ 1048576) : Ev (fun k => laws_toStringS.f k l) l := by
  unfold laws_toStringS.f
  have h1 : (0 : Int) ≤ (l.length : Int) := by omega
  have h2 : ((l.length : Int)).toNat ≤ 17592186044416 := by omega
  have h3 : l.length ≤ 17592186044416 := by omega
  simp only [if_pos h1, if_pos h2, if_pos h3, Int.toNat_natCast]
  have key : ∀ (n i : Nat), i + n = l.length → Ev (fun k => laws_toStringS.l0 k l (l.take i ++ List.replicate n ⟨#[]⟩) (i : Int)) l := by
    intro n
    induction n with
    | zero =>
      intro i hd
      refine Ev.step (f := fun _ => some l) (fun k => ?_) (Ev.now _)
      simp only [laws_toStringS.l0]
      rw [if_neg (by omega), List.take_of_length_le (by omega)]
      simp
    | succ n ih =>
      intro i hd
      have hi : i < l.length := by omega
      refine Ev.step (fun k => ?_) (ih (i + 1) (by omega))
      simp only [laws_toStringS.l0]
      have hw2 : wrap64 ((i : Int) + 1) = ((i + 1 : Nat) : Int) := by rw [wrap_in (by omega) (by omega)]; omega
      have hlt : (l.take i).length = i := by rw [List.length_take]; omega
      rw [if_pos (by omega), if_pos (by omega), if_pos (by rw [List.length_append, List.length_replicate, hlt]; omega), rd_tx l i hi, hw2, Int.toNat_natCast]
      congr 1
      rw [List.set_append_right _ _ (by omega), hlt, Nat.sub_self, List.replicate_succ, List.set_cons_zero, List.take_add_one, List.getElem?_eq_getElem hi, List.append_assoc]
      rfl
  have := key l.length 0 (by omega)
  rw [List.take_zero, List.nil_append] at this
  exact this
theorem eqStringS_self (l : List ByteArray) (hl : l.length ≤ 1048576) : Ev (fun k => laws_eqStringS.f k l l) true := by
  unfold laws_eqStringS.f
  simp only [if_true]
  have key : ∀ (n i : Nat), i + n = l.length → Ev (fun k => laws_eqStringS.l0 k l l (i : Int)) true := by
    intro n
    induction n with
    | zero =>
      intro i hd
      refine Ev.step (f := fun _ => some true) (fun k => ?_) (Ev.now _)
      simp only [laws_eqStringS.l0]
      rw [if_neg (by omega)]
    | succ n ih =>
      intro i hd
      refine Ev.step (fun k => ?_) (ih (i + 1) (by omega))
      simp only [laws_eqStringS.l0]
      have hw2 : wrap64 ((i : Int) + 1) = ((i + 1 : Nat) : Int) := by rw [wrap_in (by omega) (by omega)]; omega
      rw [if_pos (by omega), if_pos (by omega), if_pos (by omega), if_pos trivial, hw2]
  exact key l.length 0 (by omega)
def chunkedR (l : List ByteArray) : ByteArray := if l.length > 100 then ⟨#[]⟩ else if sizes l > 4000 then ⟨#[]⟩ else ⟨(chunksL l ++ [48, 13, 10, 13, 10]).toArray⟩
theorem impl_Chunked_is (l : List ByteArray) (h : sizes l ≤ 4611686018427387904) : impl_Chunked.f l = some (chunkedR l) := by
  unfold impl_Chunked.f chunkedR
  rw [if_neg (by omega)]
  split
  · rfl
  · split <;> rfl
theorem sizes_drop (l : List ByteArray) (i : Nat) (h : i < l.length) : sizes (l.drop i) = l[i].size + sizes (l.drop (i + 1)) := by rw [List.drop_eq_getElem_cons h, sizes_cons]
theorem sizes_split (l : List ByteArray) (i : Nat) : sizes l = sizes (l.take i) + sizes (l.drop i) := by
  unfold sizes
  rw [← List.sum_append, ← List.map_append, List.take_append_drop]
theorem hexT_is (n : Nat) : hexT n = strOfNums (hexL n) := rfl
theorem spec_Chunked_loop (l : List ByteArray) (hl : l.length ≤ 1048576) (hs : sizes l ≤ 1048576) (d : Nat) : ∀ (i : Nat) (out : List Int), i + d = l.length → sizes (l.take i) ≤ 4000 → (0 < i → l.length ≤ 100) → out = (chunksL (l.take i)).map (fun b => ((b.toNat : Nat) : Int)) →
    Ev (fun k => spec_Chunked.l0 k l (sizes (l.take i) : Int) out (i : Int)) (chunkedR l) := by
  induction d with
  | zero =>
    intro i out hd hz hb ho
    rw [List.take_of_length_le (show l.length ≤ i by omega)] at hz ho ⊢
    have hlen : out.length = (chunksL l).length := by rw [ho, List.length_map]
    have hc := chunksL_le l hz
    refine Ev.step (f := fun _ => some (chunkedR l)) (fun k => ?_) (Ev.now _)
    simp only [spec_Chunked.l0]
    unfold chunkedR
    rw [if_neg (by omega)]
    by_cases h100 : l.length > 100
    · rw [if_pos (by omega), if_pos h100]
    · rw [if_neg (show ¬ (l.length : Int) > 100 by omega), if_pos (show (strOfNums out).size + 5 ≤ 9223372036854775807 by rw [nums_size]; omega), if_neg h100, if_neg (show ¬ sizes l > 4000 by omega)]
      congr 1
      apply ByteArray.ext
      apply Array.toList_inj.1
      rw [ByteArray.data_append, Array.toList_append, strOfNums_data, ho, List.map_map]
      have e : List.map ((fun n : Int => UInt8.ofNat n.toNat) ∘ fun b : UInt8 => ((b.toNat : Nat) : Int)) (chunksL l) = chunksL l := (List.map_congr_left fun b _ => by simp).trans (List.map_id _)
      rw [e]
  | succ d ih =>
    intro i out hd hz hb ho
    have hi : i < l.length := by omega
    have ht := sizes_take l i hi
    have hsp := sizes_split l (i + 1)
    have hw1 : wrap64 ((sizes (l.take i) : Int) + (l[i].size : Int)) = (sizes (l.take (i + 1)) : Int) := by rw [wrap_in (by omega) (by omega)]; omega
    have hw2 : wrap64 ((i : Int) + 1) = ((i + 1 : Nat) : Int) := by rw [wrap_in (by omega) (by omega)]; omega
    have stop : (sizes (l.take (i + 1)) > 4000 ∨ l.length > 100) → chunkedR l = ⟨#[]⟩ := by
      intro h
      unfold chunkedR
      by_cases h100 : l.length > 100
      · rw [if_pos h100]
      · rw [if_neg h100, if_pos (by rcases h with h | h; omega; exact absurd h h100)]
    by_cases hbig : sizes (l.take (i + 1)) > 4000 ∨ l.length > 100
    · rw [stop hbig]
      refine Ev.step (f := fun k => spec_Chunked.j1 k l (sizes (l.take (i + 1)) : Int) out (i : Int) true) (fun k => ?_) ?_
      · simp only [spec_Chunked.l0]
        rw [if_pos (by omega), if_pos (by omega), rd_tx l i hi, hw1]
        by_cases h4 : (sizes (l.take (i + 1)) : Int) > 4000
        · rw [if_pos h4]
        · rw [if_neg h4, decide_eq_true (by rcases hbig with h | h; omega; omega)]
      · refine Ev.step (f := fun _ => some ⟨#[]⟩) (fun k => ?_) (Ev.now _)
        simp only [spec_Chunked.j1]
        rw [if_pos trivial]
    · have n4 : ¬ sizes (l.take (i + 1)) > 4000 := fun h => hbig (.inl h)
      have n100 : ¬ l.length > 100 := fun h => hbig (.inr h)
      have hct := chunksL_take l i hi
      have hcl := chunksL_le (l.take i) hz
      have hlt := List.length_take_le i l
      have hlen : out.length = (chunksL (l.take i)).length := by rw [ho, List.length_map]
      refine Ev.step (f := fun k => spec_Chunked.j1 k l (sizes (l.take (i + 1)) : Int) out (i : Int) false) (fun k => ?_) ?_
      · simp only [spec_Chunked.l0]
        rw [if_pos (by omega), if_pos (by omega), rd_tx l i hi, hw1, if_neg (by omega), decide_eq_false (by omega)]
      · by_cases he : l[i].toList = ([] : List UInt8)
        · have hzero : l[i].size = 0 := (toList_nil _).1 he
          have hc0 : chunkL l[i] = [] := by unfold chunkL; rw [if_pos hzero]
          rw [hc0, List.append_nil] at hct
          refine Ev.step (fun k => ?_) (ih (i + 1) out (by omega) (by omega) (fun _ => by omega) (by rw [hct]; exact ho))
          simp only [spec_Chunked.j1]
          rw [if_neg (by simp), if_pos (by omega), if_pos (by omega), rd_tx l i hi, if_pos he, hw2]
        · have hne : l[i].size ≠ 0 := fun h => he ((toList_nil _).2 h)
          have hhl := hexL_le 3 l[i].size (by omega)
          have hhs := nums_size (hexL l[i].size)
          have h2 : (⟨#[13, 10]⟩ : ByteArray).size = 2 := rfl
          have hdat := chunk_data l[i] hne
          have hhex : Ev (fun k => spec_Hex.f k (l[i].size : Int)) (strOfNums (hexL l[i].size)) := by
            have := spec_Hex_ev (l[i].size : Int)
            have e : hexR (l[i].size : Int) = strOfNums (hexL l[i].size) := by
              unfold hexR inB
              rw [if_pos (by simp; omega), Int.toNat_natCast]
              rfl
            rw [e] at this
            exact this
          have next := ih (i + 1) (out ++ bytesOf (strOfNums (hexL l[i].size) ++ (⟨#[13, 10]⟩ : ByteArray) ++ l[i] ++ (⟨#[13, 10]⟩ : ByteArray))) (by omega) (by omega) (fun _ => by omega) (by
            rw [hct, List.map_append, ho]
            congr 1
            rw [← hdat]
            rfl)
          refine Ev.step (f := fun k => (spec_Hex.f k (l[i].size : Int)).bind fun t107 => (if t107.size + 2 ≤ 9223372036854775807 then (if (t107 ++ (⟨#[13, 10]⟩ : ByteArray)).size + l[i].size ≤ 9223372036854775807 then (if ((t107 ++ (⟨#[13, 10]⟩ : ByteArray)) ++ l[i]).size + 2 ≤ 9223372036854775807 then (if out.length + (((t107 ++ (⟨#[13, 10]⟩ : ByteArray)) ++ l[i]) ++ (⟨#[13, 10]⟩ : ByteArray)).size < 140737488355328 then (spec_Chunked.l0 k l (sizes (l.take (i + 1)) : Int) (out ++ bytesOf (((t107 ++ (⟨#[13, 10]⟩ : ByteArray)) ++ l[i]) ++ (⟨#[13, 10]⟩ : ByteArray))) ((i + 1 : Nat) : Int)) else (none)) else (none)) else (none)) else (none))) (fun k => ?_) (Ev.bind hhex ?_)
          · simp only [spec_Chunked.j1]
            rw [if_neg (by simp), if_pos (by omega), if_pos (by omega), rd_tx l i hi, if_neg he, hw2]
          · have z1 : (strOfNums (hexL l[i].size)).size + 2 ≤ 9223372036854775807 := by omega
            have z2 : (strOfNums (hexL l[i].size) ++ (⟨#[13, 10]⟩ : ByteArray)).size + l[i].size ≤ 9223372036854775807 := by rw [ByteArray.size_append, h2]; omega
            have z3 : (strOfNums (hexL l[i].size) ++ (⟨#[13, 10]⟩ : ByteArray) ++ l[i]).size + 2 ≤ 9223372036854775807 := by rw [ByteArray.size_append, ByteArray.size_append, h2]; omega
            have z4 : out.length + (strOfNums (hexL l[i].size) ++ (⟨#[13, 10]⟩ : ByteArray) ++ l[i] ++ (⟨#[13, 10]⟩ : ByteArray)).size < 140737488355328 := by rw [ByteArray.size_append, ByteArray.size_append, ByteArray.size_append, h2]; omega
            simp only [if_pos z1, if_pos z2, if_pos z3, if_pos z4]
            exact next
theorem spec_Chunked_ev (l : List ByteArray) (hl : l.length ≤ 1048576) (hs : sizes l ≤ 1048576) : Ev (fun k => spec_Chunked.f k l) (chunkedR l) := by
  unfold spec_Chunked.f
  exact spec_Chunked_loop l hl hs l.length 0 [] (by omega) (Nat.zero_le _) (fun h => by omega) rfl
end Go.Proofs.YtalbfkhkfhnmjaaDoor.Q
namespace Go.Proofs.YtalbfkhkfhnmjaaDoor.Pure
set_option linter.unusedVariables false
set_option linter.unusedSimpArgs false
open Go.RowKit Go.Proofs.YtalbfkhkfhnmjaaDoor.P Go.Proofs.YtalbfkhkfhnmjaaDoor.Q Go.Proofs.YtalbfkhkfhnmjaaDoorW.PrintWords
theorem FnExactChunked : laws_FnExactChunked.Pure := by
 intro l hl hx
 unfold laws_FnExactChunked.f
 obtain ⟨r, hr, hm⟩ := szStringS_ev l 1048576 (by decide) (by decide) hl hx
 refine Ev.rounds (r := true) (Ev.bind hr ?_)
 by_cases h0 : r < 0
 ·
  simp only [if_pos h0]
  exact Ev.now _
 ·
  simp only [if_neg h0]
  obtain ⟨m1, m2⟩ := hm (by omega)
  have hI := impl_Chunked_is l (by omega)
  refine Ev.bind (toStringS_ev l m1) (Ev.bind (spec_Chunked_ev l m1 m2) (Ev.bind (toStringS_ev l m1) (Ev.bind (ev_const hI) ?_)))
  simp only [if_true]
  exact Ev.bind (toStringS_ev l m1) (Ev.bind (eqStringS_self l m1) (Ev.now _))
end Go.Proofs.YtalbfkhkfhnmjaaDoor.Pure
namespace Go.Proofs.YtalbfkhkfhnmjaaDoor.RowAid
open Go.ChangeShapes Go.WideShapes Go.Deep
variable {H : Type} {enc : TypeId × Value → H} {P : Program} {w : World} {base : Nat} {spare : Nat → Bool} {held : Bool}
theorem open_one {r : Reach} {b0 : Nat} {t : TypeId} {fs : Array Field} {v : Value} {d : DataW H} {p : List MemPlace} (hs : P.underlying t = some (.struct fs)) (hone : oneCellFields P fs = true) (hC : P.cellsOf t = fs.size)
    (hv : Value.okWide P w r b0 t v) (h : DataW.Trod enc P w base spare held t v d p) :
    ∃ cs : List Value, v = .agg cs.toArray ∧ cs.length = fs.size ∧ ∃ n, ∀ (i : Nat) (f : Field) (c : Value), fs[i]? = some f → cs[i]? = some c → ∃ y, DataW.trod enc P w base spare held n f.type [c] = some y := by
  obtain ⟨⟨cs⟩, rfl, hsz⟩ := okWide_struct hs hv
  obtain ⟨fuel, hf⟩ := h
  obtain ⟨xs, n, _, _, hl, hx, hg⟩ := DataW.trod_struct hs hf
  have hcl : cs.length = fs.size := by
    have : (⟨cs⟩ : Array Value).size = cs.length := rfl
    omega
  refine ⟨cs, rfl, hcl, n, fun i f c hi hc => ?_⟩
  have hlt : i < fs.size := (Array.getElem?_eq_some_iff.1 hi).1
  obtain ⟨ho, hk⟩ := hone_of hone i f hi
  have h1 := hg i f hi
  have hcc : (Value.agg ⟨cs⟩).cells.toList = cs := rfl
  rw [hcc, ho, hk] at h1
  have hd : (cs.drop i).take 1 = [c] := by
    have hi' : i < cs.length := by omega
    rw [List.drop_eq_getElem_cons hi', List.take_succ_cons, List.take_zero]
    rw [List.getElem?_eq_getElem hi'] at hc
    rw [Option.some.inj hc]
  rw [hd] at h1
  have hxl : xs[i]? = some (xs[i]'(by omega)) := List.getElem?_eq_getElem (by omega)
  exact ⟨_, h1.trans hxl⟩
end Go.Proofs.YtalbfkhkfhnmjaaDoor.RowAid
namespace Go.Proofs.YtalbfkhkfhnmjaaDoor.RowAid
open Go.ChangeShapes Go.WideShapes Go.Deep
variable {H : Type} {enc : TypeId × Value → H} {P : Program} {w : World} {base : Nat} {spare : Nat → Bool} {held : Bool}
/-- What each place has, put into a list. -/
theorem list_of {α : Type} (n : Nat) (Q : Nat → α → Prop) (h : ∀ i, i < n → ∃ x, Q i x) : ∃ l : List α, l.length = n ∧ ∀ i x, l[i]? = some x → Q i x := by
  induction n with
  | zero => exact ⟨[], rfl, fun i x hx => by simp at hx⟩
  | succ n ih =>
    obtain ⟨l, hl, hq⟩ := ih fun i hi => h i (by omega)
    obtain ⟨z, hz⟩ := h n (Nat.lt_succ_self n)
    refine ⟨l ++ [z], by simp [hl], fun i x hx => ?_⟩
    by_cases hi : i < n
    · rw [List.getElem?_append_left (by omega)] at hx
      exact hq i x hx
    · by_cases he : i = n
      · subst he
        rw [List.getElem?_append_right (by omega), hl, Nat.sub_self] at hx
        obtain rfl := Option.some.inj hx
        exact hz
      · rw [List.getElem?_eq_none (by simp; omega)] at hx
        cases hx
/-- A slice of structs of one-cell fields: each field's cell, and what it reads as. -/
theorem open_structs {t e : TypeId} {fs : Array Field} {n : Nat} {c : Value} {y : DataW H × List MemPlace} (ht : P.underlying t = some (.slice e)) (he : P.underlying e = some (.struct fs)) (hone : oneCellFields P fs = true) (hC : P.cellsOf e = fs.size)
    (h : DataW.trod enc P w base spare held n t [c] = some y) :
    c = .slice none 0 0 ∨ ∃ (a : Addr) (len cap : Nat), c = .slice (some a) len cap ∧ len ≤ cap ∧ cap ≤ maxLen ∧
      ∀ i, i < len → ∃ m, ∀ (j : Nat) (f : Field), fs[j]? = some f → ∃ (v : Value) (z : DataW H × List MemPlace), w.cell? (a.add (i * fs.size + j)) = some v ∧ DataW.trod enc P w base spare held m f.type [v] = some z := by
  rcases open_slice ht h with ⟨h0, _⟩ | ⟨a, len, cap, m, k, D, Pl, hcs, _, hl, hm, hmm, _, hi⟩
  · exact .inl (List.cons.inj h0).1
  · refine .inr ⟨a, len, cap, (List.cons.inj hcs).1, hl, hm, fun i hil => ?_⟩
    obtain ⟨cs', hc, ht'⟩ := hi i (by rw [hmm]; split <;> omega)
    rw [hC] at hc
    obtain ⟨_, hcl, hat⟩ := World.cells?_some hc
    obtain ⟨xs, q, _, _, _, hlen, hg⟩ := DataW.trod_struct he ht'
    refine ⟨q, fun j f hj => ?_⟩
    have hjl : j < fs.size := (Array.getElem?_eq_some_iff.1 hj).1
    obtain ⟨ho, hk⟩ := hone_of hone j f hj
    have h1 := hg j f hj
    have hd : (cs'.drop j).take 1 = [cs'[j]'(by omega)] := by
      rw [List.drop_eq_getElem_cons (by omega), List.take_succ_cons, List.take_zero]
    rw [ho, hk, hd, List.getElem?_eq_getElem (by omega : j < xs.length)] at h1
    have h2 := hat j hjl
    rw [add_add, List.getElem?_eq_getElem (by omega : j < cs'.length)] at h2
    exact ⟨_, _, h2, h1⟩
/-- A slice of one-cell elements. -/
theorem open_ones {t e : TypeId} {n : Nat} {c : Value} {y : DataW H × List MemPlace} (ht : P.underlying t = some (.slice e)) (hC : P.cellsOf e = 1)
    (h : DataW.trod enc P w base spare held n t [c] = some y) :
    c = .slice none 0 0 ∨ ∃ (a : Addr) (len cap : Nat), c = .slice (some a) len cap ∧ len ≤ cap ∧ cap ≤ maxLen ∧
      ∀ i, i < len → ∃ (m : Nat) (v : Value) (z : DataW H × List MemPlace), w.cell? (a.add (i * 1)) = some v ∧ DataW.trod enc P w base spare held m e [v] = some z := by
  rcases open_slice ht h with ⟨h0, _⟩ | ⟨a, len, cap, m, k, D, Pl, hcs, _, hl, hm, hmm, _, hi⟩
  · exact .inl (List.cons.inj h0).1
  · refine .inr ⟨a, len, cap, (List.cons.inj hcs).1, hl, hm, fun i hil => ?_⟩
    obtain ⟨cs', hc, ht'⟩ := hi i (by rw [hmm]; split <;> omega)
    rw [hC] at hc
    obtain ⟨_, hcl, hat⟩ := World.cells?_some hc
    match cs', hcl with
    | [v], _ =>
      have h2 := hat 0 (Nat.lt_succ_self 0)
      rw [show (a.add (i * 1)).add 0 = a.add (i * 1) from rfl] at h2
      exact ⟨k, v, _, h2, ht'⟩
end Go.Proofs.YtalbfkhkfhnmjaaDoor.RowAid
namespace Go.Proofs.YtalbfkhkfhnmjaaDoor.fnExactChunked
open Go.ChangeShapes Go.WideShapes Go.ChangeAt Go.RowKit
open Go.Proofs.YtalbfkhkfhnmjaaDoorW.PrintWords Go.Proofs.YtalbfkhkfhnmjaaDoorW.PrintLast Go.Proofs.YtalbfkhkfhnmjaaDoorW.PrintMore Go.Proofs.YtalbfkhkfhnmjaaDoor.P
open Go.ChangeMaps (open_string shut_string)
set_option linter.unusedVariables false
theorem own : ownKnob Tryd.prog.godebug = none := by kernel_rfl
theorem laidOut : laidOutB Tryd.prog = true := by kernel_rfl
set_option maxRecDepth 100000 in
theorem rows_t22 {H : Type} {enc : TypeId × Value → H} {w : World} {base : Nat} {spare : Nat → Bool} {held : Bool} {n : Nat} {c : Value} {y : DataW H × List MemPlace} (h : DataW.trod enc Tryd.prog w base spare held n 22 [c] = some y) :
    ∃ (A : Option Addr) (cap : Nat) (l : List ByteArray), c = .slice A l.length cap ∧ Kd.C Kd.string w A l.length l ∧ l.length ≤ cap ∧ l.length ≤ 9223372036854775807 ∧ ∀ x ∈ l, x.size ≤ 9223372036854775807 := by
  rcases RowAid.open_ones Tryd.underlying22 (by kernel_rfl) h with rfl | ⟨x, len, cap, rfl, hl, hm, hi⟩
  · exact ⟨none, 0, [], rfl, ⟨rfl, Nat.zero_le _, fun h => absurd h (by decide)⟩, Nat.le_refl _, Nat.zero_le _, fun x hx => by cases hx⟩
  · obtain ⟨l, hlen, hl2⟩ := RowAid.list_of len (fun i (z : ByteArray) => w.cell? (x.add (i * 1)) = some (.string z) ∧ z.size ≤ 9223372036854775807) (fun i hil => by
      obtain ⟨m, v0, y0, e0, t0⟩ := hi i hil
      obtain ⟨s0, q0, _, w0⟩ := DataW.trod_string Tryd.underlying9 t0
      obtain rfl := (List.cons.inj q0).1
      exact ⟨s0, e0, w0⟩)
    subst hlen
    have hb : l.length ≤ 9223372036854775807 := Nat.le_trans hl (Nat.le_trans hm (by decide))
    refine ⟨some x, cap, l, rfl, ⟨rfl, hb, fun _ => ⟨x, rfl, fun j p hj => ⟨[.string p], rfl, rfl, fun i u hu => ?_⟩⟩⟩, hl, hb, fun z hz => ?_⟩
    · match i, hu with
      | 0, hu => obtain rfl := Option.some.inj hu; exact (hl2 j p hj).1
    · obtain ⟨j, hj⟩ := List.getElem?_of_mem hz
      exact (hl2 j z hj).2
set_option maxRecDepth 100000 in
set_option maxHeartbeats 2000000 in
theorem lifted (os : Os) (started : os.Started) (H : Type) (enc : TypeId × Value → H) :
    ReturnsInHanded {} Tryd.checked os 5 .any (fun w args => (Rows.fnExactChunkedSpec.pre enc Tryd.prog Tryd.f5 [] false w args ∧ laidMetH Tryd.prog Rows.fnExactChunkedRow.laid w) ∧ sizedMet enc Tryd.prog Tryd.f5 (OpenSpec.ofChange Rows.fnExactChunkedSpec) false w args) (Rows.fnExactChunkedSpec.post enc Tryd.prog Tryd.f5 false true false false) := by
  refine RowAid.handed_both (C := Tryd.checked) (X := fun w _ => laidMetH Tryd.prog Rows.fnExactChunkedRow.laid w) (fun _ _ _ hh h => h.of_heap hh) own started (by kernel_rfl) Tryd.func5
    (ChangeSpec.witness_shaped (enc := enc) (C := Tryd.checked) (os := os) (X := fun w _ => laidMetH Tryd.prog Rows.fnExactChunkedRow.laid w) false (World.laidAll Tryd.prog os Rows.fnExactChunkedRow.laid) #[.slice none 0 0] 8 (World.laidAll_os _ _ _)
      (World.shaped_of_ZipB (by kernel_rfl) (by kernel_rfl)) (by kernel_rfl) (by kernel_rfl) (by kernel_rfl)
      (by rw [MakeChecks.laidMetH_plain _ _ _ (by kernel_rfl)]; exact laidMet_laidAll _ (by kernel_rfl) (by kernel_rfl))) ?_
  intro W base args ds gs before hval0 hW hcnd hsz0 hL hSh _
  have hsz : (DataW.weightsEach Tryd.prog (Tryd.f5.params.toList ++ Rows.fnExactChunkedSpec.plain.varTypes Tryd.prog) (ds ++ gs)).all (· ≤ reachBytes) = true := hsz0
  have hval : ∀ (j : Nat) t v, Tryd.f5.params[j]? = some t → args[j]? = some v → Value.okWide Tryd.prog W .any base t v := hval0
  have hW' := hW
  obtain ⟨p, q, hA0, hV, rfl, hfz, hnd⟩ := hW
  have hA : DataW.TrodAll enc Tryd.prog W 0 (fun _ => true) true Tryd.f5.params.toList args.toList ds p := hA0
  rw [Tryd.params5] at hA hval hsz
  obtain ⟨v0, vs0, d0, ds0, p0, q0, hargs, rfl, rfl, h0, r0⟩ := trodAll_cons hA
  obtain ⟨rfl, rfl, rfl⟩ := trodAll_nil r0
  obtain rfl : args = #[v0] := by cases args; simp_all
  obtain ⟨rfl, rfl⟩ := trodVars_none hV
  obtain ⟨xa0, xn0, xc0, rfl⟩ := okWide_slice Tryd.underlying22 (hval 0 22 v0 rfl rfl)
  have k0 := h0
  have lt0 : ∀ x ∈ p0, x.block < W.heap.size := by obtain ⟨m, hm⟩ := k0; exact DataW.trod_lt m _ _ _ hm
  obtain ⟨fu0, hf0⟩ := h0
  obtain ⟨A0, c0, l0, e0, hr0, hc0, wl0, we0⟩ := rows_t22 (c := .slice xa0 xn0 xc0) hf0
  cases e0
  clear hA0 hval0 hsz0 hsz
  have hXW := RowAid.xw_of (m := 6) hSh Rows.fnExactChunkedRow.laid hL (by kernel_rfl) (fun _ => by kernel_rfl) (fun _ => by kernel_rfl)
  refine (P.laws_FnExactChunked.walk Pure.FnExactChunked xa0 xc0 l0 W hXW wl0 we0 hr0 hc0).mono fun e W' ⟨he, bel⟩ => ?_
  subst he
  exact ⟨_, rfl, _, _, _, [], _, [], hW', trodAll_mk1 (shut_bool Tryd.underlying4 _), (trodAll_cons_mk (Below.trod laidOut (by kernel_rfl) (of_decide_eq_true (by kernel_rfl)) k0 bel lt0) trodAll_mk0), rfl, bel.frame _, fun h => by cases h⟩
theorem over : Rows.fnExactChunkedRow.holds Tryd.pinned (OpenSpec.ofChange Rows.fnExactChunkedSpec) :=
  OpenClaim.holds_of_wide 5 Tryd.f5 rfl rfl rfl rfl rfl rfl rfl ⟨rfl, rfl, rfl, rfl, rfl⟩ rfl rfl rfl rfl rfl (by kernel_rfl) Tryd.func5 (by kernel_rfl)
    (of_decide_eq_true (by kernel_rfl)) (by unfold Func.isWrapper; first | (rw [if_pos (by decide +kernel)]; kernel_rfl) | (rw [if_neg (by decide +kernel)]; exact ⟨rfl, rfl⟩))
    (fun os started H enc _ => lifted os started H enc)
theorem proved : Rows.FnExactChunkedSaid := over
#print axioms proved
end Go.Proofs.YtalbfkhkfhnmjaaDoor.fnExactChunked
namespace Go.Proofs.YtalbfkhkfhnmjaaDoor
/-- The tied card, under a short name, for the claim. -/
theorem fnExactChunked_card : Rows.FnExactChunkedCardSaid :=
  Claim7.holds_tied_plain_at .later [] [.data, .data, .data] true (true, "7e7a3fefffea0b553aa830ed627cf692d5253a5efc4814182ed69e94805bf61a") true
    fnExactChunked.proved (fun _ h => by cases h) (by kernel_rfl) (fun _ h => by cases h) fnExactChunked_row_tie rfl ⟨rfl, rfl⟩ (by kernel_rfl) rfl
    (fun f fn hf hfn => by
      obtain rfl : f = 5 := Option.some.inj ((show Tryd.prog.funcNamed "loop.example/g00207/laws.FnExactChunked" = some 5 by kernel_rfl).symm.trans hf) |>.symm
      obtain rfl : fn = Tryd.f5 := (Option.some.inj (Tryd.func5.symm.trans hfn)).symm
      exact ⟨by kernel_rfl, fun j t ht => by
        rw [Tryd.params5] at ht
        have hm : t ∈ [22] := by simpa using Array.mem_of_getElem? ht
        have hall : ([22].all fun u => !Tryd.prog.wantsStandIn u) = true := by kernel_rfl
        exact (show Tryd.prog.wantsStandIn t = false by simpa using List.all_eq_true.1 hall t hm)⟩)
    (by kernel_rfl)
#print axioms fnExactChunked_card
end Go.Proofs.YtalbfkhkfhnmjaaDoor
