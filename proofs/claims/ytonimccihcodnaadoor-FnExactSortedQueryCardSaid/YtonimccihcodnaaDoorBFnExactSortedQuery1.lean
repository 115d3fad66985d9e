/- Functions of the Go program as Lean functions, and proofs about them, merged out of this session's texts by its program bundle.py; conditions: those that each theorem states. -/
import Derived.Below
import Derived.ChangeOld
import Derived.Handed
import Derived.HandedShaped
import Derived.LaidMore
import Derived.Lay
import Derived.Lib.ItoaNum
import Derived.Lib.LaidTab
import Derived.Lib.SplitLaws
import Derived.Lib.Strings
import Derived.MakeChecks
import Derived.OpenShut
import Derived.ProofKit
import Derived.SevenTiedAt
import Derived.Shelf.Vars
import Derived.ShutString
import Derived.SizedLaws
import Derived.Sort.Walk0
import Derived.Stop.Joined
import Derived.Test.YtonimccihcodnaaDoorCards
import Derived.Test.YtonimccihcodnaaDoorGJoin
import Derived.Test.YtonimccihcodnaaDoorGSplit
import Derived.Test.YtonimccihcodnaaDoorGimplSortedQuery
import Derived.Test.YtonimccihcodnaaDoorP0
import Derived.Test.YtonimccihcodnaaDoorPimplDotless
import Derived.Test.YtonimccihcodnaaDoorPimplisPath
import Derived.Test.YtonimccihcodnaaDoorPlawsFnExactSortedQuery
import Derived.Test.YtonimccihcodnaaDoorPspecDotless
import Derived.Test.YtonimccihcodnaaDoorPspecSortedQuery
import Derived.Test.YtonimccihcodnaaDoorPspecl3Path
import Derived.Test.YtonimccihcodnaaDoorPspecl3Sorted
import Derived.Test.YtonimccihcodnaaDoorPspecl3Split
import Derived.Test.YtonimccihcodnaaDoorPstringsHasPrefix
import Derived.Test.YtonimccihcodnaaDoorPstringsliteHasPrefix
import Derived.Test.YtonimccihcodnaaDoorRows
import Derived.Test.YtonimccihcodnaaDoorTie
import Derived.Test.YtonimccihcodnaaDoorXA
import Derived.Test.YtonimccihcodnaaDoorXW
import Derived.WalkKit
namespace Go.Proofs.YtonimccihcodnaaDoor.RowAid
open Go
variable {H : Type} {enc : TypeId × Value → H}
theorem handed_both {a : Assume} {C : Checked} {os : Os} {f : FuncId} {fn : Func} {s : ChangeSpec} {conds : List PathCond} {apart fresh handsOn again : Bool} {X : World → Array Value → Prop}
    (hX : ∀ (w w' : World) (args : Array Value), w.heap = w'.heap → X w args → X w' args)
    (own : ownKnob C.prog.godebug = none) (started : os.Started) (noInit : C.prog.inits.idxOf? f = none) (hfn : C.prog.funcs[f]? = some fn)
    (witness : ∃ (w : World) (tape : Tape) (i : Input), w.os = os ∧ (w.forCall tape i).Shaped C.prog ∧ i.vars = [] ∧ Input.okWide C.prog (w.forCall tape i) .any w.heap.size f i ∧
      ((s.pre enc C.prog fn conds apart (w.forCall tape i).memory i.args ∧ X (w.forCall tape i).memory i.args) ∧ sizedMet enc C.prog fn (OpenSpec.ofChange s) apart (w.forCall tape i).memory i.args) ∧ a.holds C.prog (lone (Frame.enter C.prog f i.args .normal) [] (w.forCall tape i)))
    (contract : ∀ (W : World) (base : Nat) (args : Array Value) (ds gs : List (DataW H)) (before : List MemPlace),
      (∀ (j : Nat) t v, fn.params[j]? = some t → args[j]? = some v → Value.okWide C.prog W .any base t v) →
      DataW.Whole enc C.prog fn.params.toList s.vars apart W args.toList ds gs before →
      conds.all (PathCond.test C.prog ⟨fn.params.toList, ds, s.plain.varTypes C.prog, gs⟩) = true →
      (DataW.weightsEach C.prog (fn.params.toList ++ s.plain.varTypes C.prog) (ds ++ gs)).all (· ≤ reachBytes) = true → X W args → W.ShapedOpen C.prog →
      a.holds C.prog (lone (Frame.enter C.prog f args .normal) [] W) →
      Calls C.prog f args W fun e W' => ∃ v, e = .returned v ∧ s.post enc C.prog fn apart fresh handsOn again W args v W') :
    ReturnsInHanded a C os f .any (fun w args => (s.pre enc C.prog fn conds apart w args ∧ X w args) ∧ sizedMet enc C.prog fn (OpenSpec.ofChange s) apart w args) (s.post enc C.prog fn apart fresh handsOn again) := by
  refine returnsInHanded_of_calls own started noInit witness ?_
  intro w tape i _ hsh _ hok hpre hholds
  obtain ⟨_, _, _, fn', hfn', _, _, _, _, hval⟩ := hok
  have e : fn' = fn := Option.some.inj (hfn'.symm.trans hfn)
  subst e
  obtain ⟨⟨⟨ds, gs, before, hw, hc⟩, hx⟩, hz⟩ := hpre
  have hw' := DataW.Whole.of_heap (w' := w.forCall tape i) (by rfl) hw
  refine (contract (w.forCall tape i) w.heap.size i.args ds gs before hval hw' hc (hz.weights hw) (hX _ _ _ (by rfl) hx) hsh hholds).mono fun e W' ⟨v, he, hp⟩ => ?_
  subst he
  exact ChangeSpec.post_blind hp
end Go.Proofs.YtonimccihcodnaaDoor.RowAid
namespace Go.Proofs.YtonimccihcodnaaDoor.RowAid
open Go

/-- What a list lays a variable with. -/
def laysAs (laid : List (String × DataW Unit)) (name : String) : Option (DataW Unit) :=
  match laid with
  | [] => none
  | x :: r => if x.1 = name then some x.2 else laysAs r name
theorem tabIs_mem {P : Program} {W : World} {name : String} {k : IntKind} {zs : List Int} {g : Nat} {t e : TypeId} {n : Nat}
    (hg : P.globalNamed name = some g) (hty : (P.globals[g]?).map (·.type) = some t) (ht : P.underlying t = some (.array n e)) (he : P.underlying e = some (.int k)) (hce : P.cellsOf e = 1) (hct : P.cellsOf t = n) :
    ∀ (laid : List (String × DataW Unit)) (ps : List MemPlace), DataW.LaidVars P W laid ps → laysAs laid name = some (Lib.tabData k zs) → Lib.TabIs P W name k zs := by
  intro laid
  induction laid with
  | nil => intro ps _ h; cases h
  | cons x r ih =>
    intro ps hl hm
    obtain ⟨nm, d⟩ := x
    obtain ⟨g', t', cs, fuel, p, q, hg', ht', hvar, hd, hr, _⟩ := hl
    unfold laysAs at hm
    by_cases hn : nm = name
    · subst hn
      rw [if_pos rfl] at hm
      obtain rfl : d = Lib.tabData k zs := Option.some.inj hm
      obtain rfl := Option.some.inj (hg.symm.trans hg')
      obtain rfl := Option.some.inj (hty.symm.trans ht')
      unfold Lib.TabIs
      rw [hvar, ← Lib.cells_of_tab ht he hce hct hd]
    · rw [if_neg hn] at hm
      exact ih q hr hm
theorem xw_of {m : Nat} {W : World} (hS : W.ShapedOpen Tryd.prog) (laid : List (String × DataW Unit)) (hL : laidMetH Tryd.prog laid W) (hp : (laid.all fun x => x.2.handleName?.isNone) = true)
    (h10 : m / 2 % 2 = 1 → laysAs laid "internal/strconv.uint64pow10" = some (Lib.tabData .u64 Lib.pow10Tab)) (htz : m / 4 % 2 = 1 → laysAs laid "math/bits.deBruijn64tab" = some (Lib.tabData .u8 P.deBruijn64Tab)) : P.XW m W := by
  rw [MakeChecks.laidMetH_plain _ _ _ hp] at hL
  obtain ⟨ps, hv, _⟩ := hL
  unfold P.XW
  refine ⟨fun _ => cell_of_shapedOpen_int (zero := #[.int .i64 0]) (t := 3) hS (of_decide_eq_true (by kernel_rfl)) (by kernel_rfl) rfl (by kernel_rfl) (by kernel_rfl) Tryd.underlying3, ?_⟩
  refine ⟨fun h => tabIs_mem (g := 3) (n := 20) (by kernel_rfl) rfl (by kernel_rfl) Tryd.underlying100 (by kernel_rfl) (by kernel_rfl) laid ps hv (h10 h), ?_⟩
  refine ⟨fun h => tabIs_mem (g := 7) (n := 64) (by kernel_rfl) rfl (by kernel_rfl) Tryd.underlying5 (by kernel_rfl) (by kernel_rfl) laid ps hv (htz h), ?_⟩
  trivial
end Go.Proofs.YtonimccihcodnaaDoor.RowAid
namespace Go.Proofs.YtonimccihcodnaaDoor.Q
open Go.RowKit Go.Proofs.YtonimccihcodnaaDoorW.PrintWords Go.Proofs.YtonimccihcodnaaDoorW.PrintLast Go.Proofs.YtonimccihcodnaaDoorW.PrintMore

theorem wrap_in {i : Int} (h0 : -9223372036854775808 ≤ i) (h1 : i ≤ 9223372036854775807) : wrap64 i = i := by unfold wrap64; omega
theorem wrap_next {i : Nat} {n : Nat} (h : i < n) (hn : n ≤ 4611686018427387904) : wrap64 ((i : Int) + 1) = ((i + 1 : Nat) : Int) := by unfold wrap64; omega

theorem toList_data (s : ByteArray) : s.toList = s.data.toList := ByteArray.toList_eq s
theorem eq_of_toList {a b : ByteArray} (h : a.toList = b.toList) : a = b := by
  rw [toList_data, toList_data] at h
  exact ByteArray.ext (Array.toList_inj.1 h)
theorem bt_get (s : ByteArray) (i : Nat) (h : i < s.size) : (bytesOf s)[i]? = some (bt s i) := by
  rw [← rd_bytesOf]
  have h1 : i < (bytesOf s).length := by rw [bytesOf_length]; exact h
  simp [rd, List.getD_eq_getElem?_getD, List.getElem?_eq_getElem h1]
theorem drop_bt (s : ByteArray) (i : Nat) (h : i < s.size) : (bytesOf s).drop i = bt s i :: (bytesOf s).drop (i + 1) := by
  have h1 : i < (bytesOf s).length := by rw [bytesOf_length]; exact h
  rw [List.drop_eq_getElem_cons h1]
  have := bt_get s i h
  rw [List.getElem?_eq_getElem h1] at this
  rw [Option.some.inj this]
theorem mem_bytes {s : ByteArray} {c : Int} (h : c ∈ bytesOf s) : 0 ≤ c ∧ c ≤ 255 := by
  unfold bytesOf at h
  obtain ⟨b, _, rfl⟩ := List.mem_map.1 h
  have := b.toNat_lt
  omega
theorem bytes_nums (l : List Int) (h : ∀ c ∈ l, 0 ≤ c ∧ c ≤ 255) : bytesOf (strOfNums l) = l := by
  unfold bytesOf
  rw [strOfNums_data, List.map_map]
  refine (List.map_congr_left fun c hc => ?_).trans (List.map_id l)
  have := h c hc
  simp only [Function.comp, UInt8.toNat_ofNat', id]
  omega
theorem nums_bytes (s : ByteArray) : strOfNums (bytesOf s) = s := by
  apply ByteArray.ext
  apply Array.toList_inj.1
  rw [strOfNums_data]
  unfold bytesOf
  rw [List.map_map]
  refine (List.map_congr_left fun c hc => ?_).trans (List.map_id _)
  simp
theorem bytes_inj {a b : ByteArray} (h : bytesOf a = bytesOf b) : a = b := by rw [← nums_bytes a, ← nums_bytes b, h]
theorem bytes_append (a b : ByteArray) : bytesOf (a ++ b) = bytesOf a ++ bytesOf b := by
  unfold bytesOf
  rw [← List.map_append]
  simp [ByteArray.data_append]

/-- A loop over bytes: what a round does with its state and a byte; an end ahead of time. -/
def runL {σ β : Type} (f : σ → Int → σ ⊕ β) (fin : σ → β) : List Int → σ → β
  | [], st => fin st
  | c :: cs, st => match f st c with
    | .inl st' => runL f fin cs st'
    | .inr b => b
/-- The printed loop comes to what 'runL' comes to, from some number of rounds on. -/
theorem ev_run {σ β : Type} (s : ByteArray) (I : σ → Nat → Prop) (f : σ → Int → σ ⊕ β) (fin : σ → β) (g : Nat → σ → Int → Option β) (K : Nat)
    (hstep : ∀ k st (i : Nat), K ≤ k → i < s.size → I st i → (∀ st', f st (bt s i) = .inl st' → g (k + 1) st i = g k st' ((i + 1 : Nat) : Int) ∧ I st' (i + 1)) ∧ (∀ b, f st (bt s i) = .inr b → g (k + 1) st i = some b))
    (hend : ∀ k st, K ≤ k → I st s.size → g (k + 1) st (s.size : Int) = some (fin st)) (st : σ) (h0 : I st 0) :
    Ev (fun k => g k st 0) (runL f fin (bytesOf s) st) := by
  have key : ∀ (d i : Nat) (st : σ), i + d = s.size → I st i → ∀ k, K + d < k → g k st (i : Int) = some (runL f fin ((bytesOf s).drop i) st) := by
    intro d
    induction d with
    | zero =>
      intro i st hd hI k hk
      obtain ⟨k, rfl⟩ : ∃ m, k = m + 1 := ⟨k - 1, by omega⟩
      have e : i = s.size := by omega
      subst e
      rw [hend k st (by omega) hI, List.drop_of_length_le (by rw [bytesOf_length]; exact Nat.le_refl _)]
      rfl
    | succ d ih =>
      intro i st hd hI k hk
      obtain ⟨k, rfl⟩ : ∃ m, k = m + 1 := ⟨k - 1, by omega⟩
      obtain ⟨h1, h2⟩ := hstep k st i (by omega) (by omega) hI
      rw [drop_bt s i (by omega)]
      show g (k + 1) st i = some (match f st (bt s i) with | .inl st' => runL f fin ((bytesOf s).drop (i + 1)) st' | .inr b => b)
      cases hf : f st (bt s i) with
      | inl st' =>
        obtain ⟨e, hI'⟩ := h1 st' hf
        rw [e]
        exact ih (i + 1) st' (by omega) hI' k (by omega)
      | inr b => exact h2 b hf
  refine ⟨K + s.size + 1, fun k hk => ?_⟩
  have := key s.size 0 st (by omega) h0 k (by omega)
  rw [List.drop_zero] at this
  exact this

/-- A loop that asks each byte. -/
theorem ev_all (s : ByteArray) (p : Int → Bool) (g : Nat → Int → Option Bool) (K : Nat)
    (h1 : ∀ k (i : Nat), K ≤ k → i < s.size → p (bt s i) = true → g (k + 1) i = g k ((i + 1 : Nat) : Int))
    (h0 : ∀ k (i : Nat), K ≤ k → i < s.size → p (bt s i) = false → g (k + 1) i = some false)
    (he : ∀ k, K ≤ k → g (k + 1) (s.size : Int) = some true) : Ev (fun k => g k 0) ((bytesOf s).all p) := by
  have h := ev_run (σ := Unit) (β := Bool) s (fun _ _ => True) (fun _ c => if p c = true then .inl () else .inr false) (fun _ => true) (fun k _ i => g k i) K
    (fun k st i hk hi _ => ⟨fun st' e => ⟨h1 k i hk hi (by
        by_cases hp : p (bt s i) = true
        · exact hp
        · rw [if_neg hp] at e; cases e), trivial⟩, fun b e => by
        by_cases hp : p (bt s i) = true
        · rw [if_pos hp] at e; cases e
        · rw [if_neg hp] at e
          obtain rfl : false = b := by injection e
          exact h0 k i hk hi (by simpa using hp)⟩)
    (fun k st hk _ => he k hk) () trivial
  have e : ∀ l : List Int, runL (σ := Unit) (β := Bool) (fun _ c => if p c = true then .inl () else .inr false) (fun _ => true) l () = l.all p := by
    intro l
    induction l with
    | nil => rfl
    | cons c cs ih =>
      rw [List.all_cons]
      unfold runL
      by_cases hp : p c = true
      · simp only [hp, if_true, Bool.true_and]; exact ih
      · simp only [(by simpa using hp : p c = false), Bool.false_and, Bool.false_eq_true, if_false]
  rw [e] at h
  exact h
theorem runL_all {β : Type} (p : Int → Bool) (r b : β) (l : List Int) : runL (σ := Unit) (fun _ c => if p c = true then .inl () else .inr b) (fun _ => r) l () = if l.all p = true then r else b := by
  induction l with
  | nil => rfl
  | cons c cs ih =>
    rw [List.all_cons]
    unfold runL
    by_cases hp : p c = true
    · simp only [hp, if_true, Bool.true_and]; exact ih
    · simp only [(by simpa using hp : p c = false), Bool.false_and, Bool.false_eq_true, if_false]
/-- A loop that asks each byte, and goes on behind it. -/
theorem ev_allr {β : Type} (s : ByteArray) (p : Int → Bool) (r b : β) (g : Nat → Int → Option β) (K : Nat)
    (h1 : ∀ k (i : Nat), K ≤ k → i < s.size → p (bt s i) = true → g (k + 1) i = g k ((i + 1 : Nat) : Int))
    (h0 : ∀ k (i : Nat), K ≤ k → i < s.size → p (bt s i) = false → g (k + 1) i = some b)
    (he : ∀ k, K ≤ k → g (k + 1) (s.size : Int) = some r) : Ev (fun k => g k 0) (if (bytesOf s).all p = true then r else b) := by
  rw [← runL_all p r b (bytesOf s)]
  refine ev_run (σ := Unit) s (fun _ _ => True) (fun _ c => if p c = true then .inl () else .inr b) (fun _ => r) (fun k _ i => g k i) K
    (fun k st i hk hi _ => ⟨fun st' e => ⟨h1 k i hk hi (by
        by_cases hp : p (bt s i) = true
        · exact hp
        · rw [if_neg hp] at e; cases e), trivial⟩, fun b' e => by
        by_cases hp : p (bt s i) = true
        · rw [if_pos hp] at e; cases e
        · rw [if_neg hp] at e
          obtain rfl : b = b' := by injection e
          exact h0 k i hk hi (by simpa using hp)⟩)
    (fun k st hk _ => he k hk) () trivial
/-- A loop that puts something behind a list for each byte. -/
theorem runL_flat {β : Type} (f : Int → List Int) (fin : List Int → β) (l st : List Int) : runL (fun st c => .inl (st ++ f c)) fin l st = fin (st ++ l.flatMap f) := by
  induction l generalizing st with
  | nil => simp [runL]
  | cons c cs ih =>
    unfold runL
    simp only [ih, List.flatMap_cons, List.append_assoc]
theorem ev_const {α : Type} {x : Option α} {r : α} (h : x = some r) : Ev (fun _ => x) r := ⟨0, fun _ _ => h⟩
theorem ev_eq {α : Type} {g : Nat → Option α} {r r' : α} (h : Ev g r) (e : r = r') : Ev g r' := e ▸ h
/-- From a number of rounds on: a law that holds at each such number. -/
theorem ev_now {α : Type} {g : Nat → Option α} {r : α} (K : Nat) (h : ∀ k, K ≤ k → g k = some r) : Ev g r := ⟨K, h⟩
theorem all_congr' {l : List Int} {p q : Int → Bool} (h : ∀ c ∈ l, p c = q c) : l.all p = l.all q := by
  induction l with
  | nil => rfl
  | cons a l ih =>
    rw [List.all_cons, List.all_cons, h a List.mem_cons_self, ih fun c hc => h c (List.mem_cons_of_mem _ hc)]
end Go.Proofs.YtonimccihcodnaaDoor.Q
namespace Go.Proofs.YtonimccihcodnaaDoor.Q
set_option linter.unusedVariables false
set_option linter.unusedSimpArgs false
open Go.RowKit Go.Proofs.YtonimccihcodnaaDoor.P Go.Proofs.YtonimccihcodnaaDoorW.PrintWords Go.Proofs.YtonimccihcodnaaDoorW.PrintLast Go.Proofs.YtonimccihcodnaaDoorW.PrintMore

def ofL (l : List UInt8) : ByteArray := ⟨l.toArray⟩
theorem ofL_append (a b : List UInt8) : ofL a ++ ofL b = ofL (a ++ b) := by
  apply ByteArray.ext
  apply Array.toList_inj.1
  simp [ofL, ByteArray.data_append]
theorem ofL_size (l : List UInt8) : (ofL l).size = l.length := by
  show l.toArray.size = l.length
  simp
theorem ofL_toList (l : List UInt8) : (ofL l).toList = l := by
  rw [toList_data]
  rfl
theorem ofL_data (s : ByteArray) : ofL s.data.toList = s := by
  apply ByteArray.ext
  apply Array.toList_inj.1
  rfl
theorem strOf_one (c : Int) : strOfNums [c] = ofL [UInt8.ofNat c.toNat] := by
  apply ByteArray.ext
  apply Array.toList_inj.1
  rw [strOfNums_data]
  rfl
/-- A number's decimal numeral. -/
def decT (n : Int) : ByteArray := ofL (Lib.itoa n)
theorem decT_size (n : Int) (h0 : 0 ≤ n) (h1 : n ≤ 9000000000000000000) : (decT n).size ≤ 19 := by
  unfold decT
  rw [ofL_size]
  unfold Lib.itoa
  rw [if_neg (by omega), Lib.decDigits_length]
  have key : ∀ (d u : Nat), u < 10 ^ (d + 1) → Lib.nDigits u ≤ d + 1 := by
    intro d
    induction d with
    | zero => intro u hu; rw [Lib.nDigits_small (by simpa using hu)]; omega
    | succ d ih =>
      intro u hu
      by_cases h : u < 10
      · rw [Lib.nDigits_small h]; omega
      · rw [Lib.nDigits_big h]
        have := ih (u / 10) (by rw [Nat.pow_succ] at hu; omega)
        omega
  exact key 18 n.toNat (by omega)
theorem bytes_extract (s : ByteArray) (a b : Nat) : bytesOf (s.extract a b) = ((bytesOf s).drop a).take (b - a) := by
  unfold bytesOf
  rw [Lib.extract_data, List.map_take, List.map_drop]
theorem bytes_last (s : ByteArray) (h : 0 < s.size) : bytesOf s = bytesOf (s.extract 0 (s.size - 1)) ++ [bt s ((s.size - 1 : Nat) : Int)] := by
  rw [bytes_extract, List.drop_zero, Nat.sub_zero]
  have h1 := drop_bt s (s.size - 1) (by omega)
  have h2 : (bytesOf s).drop (s.size - 1 + 1) = [] := List.drop_of_length_le (by rw [bytesOf_length]; omega)
  rw [h2] at h1
  rw [← h1, List.take_append_drop]
theorem bytes_first (s : ByteArray) (h : 0 < s.size) : bytesOf s = bt s 0 :: bytesOf (s.extract 1 s.size) := by
  rw [bytes_extract]
  have h1 := drop_bt s 0 h
  rw [List.drop_zero] at h1
  rw [List.take_of_length_le (by rw [List.length_drop, bytesOf_length]; exact Nat.le_refl _)]
  exact h1
theorem size_extract (s : ByteArray) (a b : Nat) (hb : b ≤ s.size) : (s.extract a b).size = b - a := by
  rw [← bytesOf_length, bytes_extract, List.length_take, List.length_drop, bytesOf_length]
  omega
theorem toList_nil (s : ByteArray) : s.toList = [] ↔ s.size = 0 := by
  rw [toList_data, ← data_length]
  exact List.length_eq_zero_iff.symm
theorem bytes_nil (s : ByteArray) (h : s.size = 0) : bytesOf s = [] := List.eq_nil_of_length_eq_zero (by rw [bytesOf_length]; exact h)
theorem bytes_ofList (l : List UInt8) : bytesOf ⟨l.toArray⟩ = l.map fun b => (b.toNat : Int) := by
  unfold bytesOf
  rfl
theorem bytes_two (s : ByteArray) (i : Nat) (h : i + 2 ≤ s.size) : bytesOf (s.extract i (i + 2)) = [bt s (i : Int), bt s ((i + 1 : Nat) : Int)] := by
  rw [bytes_extract, drop_bt s i (by omega), drop_bt s (i + 1) (by omega), show i + 2 - i = 2 from by omega]
  rfl
/-- A piece ahead of the first piece. -/
def glue (p : List UInt8) : List (List UInt8) → List (List UInt8)
  | [] => [p]
  | q :: qs => (p ++ q) :: qs
/-- The pieces between the bytes c. -/
def spl (c : UInt8) : List UInt8 → List (List UInt8)
  | [] => [[]]
  | b :: l => if b = c then [] :: spl c l else glue [b] (spl c l)
theorem glue_ne (p : List UInt8) (l : List (List UInt8)) : glue p l ≠ [] := by cases l <;> simp [glue]
theorem spl_ne (c : UInt8) (l : List UInt8) : spl c l ≠ [] := by
  cases l with
  | nil => simp [spl]
  | cons b l => unfold spl; split; simp; exact glue_ne _ _
theorem glue_nil (l : List (List UInt8)) (h : l ≠ []) : glue [] l = l := by cases l; exact absurd rfl h; rfl
theorem glue_glue (p q : List UInt8) (l : List (List UInt8)) (h : l ≠ []) : glue p (glue q l) = glue (p ++ q) l := by
  cases l with
  | nil => exact absurd rfl h
  | cons a l => simp [glue]
theorem splitK_spl (c : UInt8) (l : List UInt8) : Lib.splitK [c] 0 (Lib.count l [c]) l = spl c l := by
  induction l with
  | nil => rw [Lib.count_miss (by simp [Lib.index])]; rfl
  | cons b l ih =>
    unfold spl
    by_cases h : b = c
    · subst h
      have hix : Lib.index (b :: l) [b] = 0 := by rw [Lib.index]; simp [List.isPrefixOf]
      rw [if_pos rfl, Lib.count_cons_eq, Nat.add_comm, Lib.splitK, if_neg (by rw [hix]; decide), hix, ← ih]
      rfl
    · rw [if_neg h, Lib.count_cons_ne b c l h, ← ih]
      have hp : ([c] : List UInt8).isPrefixOf (b :: l) = false := by simp [List.isPrefixOf, Ne.symm h]
      have hix : Lib.index (b :: l) [c] = if Lib.index l [c] == -1 then -1 else Lib.index l [c] + 1 := by rw [Lib.index, hp]; simp
      cases hk : Lib.count l [c] with
      | zero => rfl
      | succ k =>
        have hm : Lib.index l [c] ≠ -1 := fun e => by rw [Lib.count_miss e] at hk; cases hk
        have hge := Lib.index_ge l [c]
        obtain ⟨j, hj⟩ : ∃ j : Nat, Lib.index l [c] = j := ⟨(Lib.index l [c]).toNat, by omega⟩
        have hb : (Lib.index l [c] == -1) = false := by simpa using hm
        rw [hb] at hix
        simp only [Bool.false_eq_true, if_false] at hix
        rw [Lib.splitK, Lib.splitK, if_neg (show ¬ (Lib.index (b :: l) [c] == -1) = true by rw [hix, hj]; simp; omega), if_neg (show ¬ (Lib.index l [c] == -1) = true by rw [hb]; decide), hix, hj]
        rw [show ((j : Int) + 1).toNat = j + 1 by omega, Int.toNat_natCast]
        rfl
theorem split_is (s : ByteArray) (c : UInt8) (h : s.size < 4294967281) : strings_Split.f s ⟨#[c]⟩ = some ((spl c s.data.toList).map ofL) := by
  unfold strings_Split.f
  rw [if_pos ⟨h, Nat.le_refl _⟩]
  congr 1
  have e := Lib.splitB_data (⟨#[c]⟩ : ByteArray) 0 (Lib.countB s ⟨#[c]⟩) s
  have e2 : Lib.splitK (⟨#[c]⟩ : ByteArray).data.toList 0 (Lib.countB s ⟨#[c]⟩) s.data.toList = spl c s.data.toList := splitK_spl c s.data.toList
  rw [← e2, ← e, List.map_map]
  refine (List.map_id _).symm.trans (List.map_congr_left fun x _ => ?_)
  exact (ofL_data x).symm
theorem extract_ofL (s : ByteArray) (f i : Nat) : s.extract f i = ofL ((s.data.toList.drop f).take (i - f)) := by
  apply ByteArray.ext
  apply Array.toList_inj.1
  rw [Lib.extract_data]
  rfl
theorem bt_data (s : ByteArray) (i : Nat) (h : i < s.data.toList.length) : bt s (i : Int) = ((s.data.toList[i].toNat : Nat) : Int) := by
  have h1 : i < s.size := by show i < s.data.size; rw [← Array.length_toList]; exact h
  have e := bt_get s i h1
  unfold bytesOf at e
  rw [List.getElem?_map, List.getElem?_eq_getElem h] at e
  exact (Option.some.inj e).symm
theorem l3Split_loop (s : ByteArray) (c : UInt8) (hs : s.size ≤ 1000000) (d : Nat) : ∀ (i f : Nat) (out : List ByteArray), i + d = s.size → f ≤ i → out.length ≤ i →
    ∀ k, d + 2 ≤ k → spec_l3Split.l0 k s (c.toNat : Int) out (f : Int) (i : Int) = some (out ++ (glue ((s.data.toList.drop f).take (i - f)) (spl c (s.data.toList.drop i))).map ofL) := by
  have hl : s.data.toList.length = s.size := Array.length_toList
  induction d with
  | zero =>
    intro i f out hd hf ho k hk
    obtain ⟨k, rfl⟩ : ∃ z, k = z + 2 := ⟨k - 2, by omega⟩
    have e : i = s.size := by omega
    subst e
    simp only [spec_l3Split.l0]
    rw [if_pos (by omega), if_pos trivial, if_pos (by omega), if_pos (by omega), if_pos (by omega), wrap_in (i := (s.size : Int) + 1) (by omega) (by omega), if_neg (by omega)]
    rw [List.drop_of_length_le (Nat.le_of_eq hl), Int.toNat_natCast, Int.toNat_natCast, extract_ofL]
    simp [spl, glue]
  | succ d ih =>
    intro i f out hd hf ho k hk
    obtain ⟨k, rfl⟩ : ∃ z, k = z + 1 := ⟨k - 1, by omega⟩
    have hi : i < s.data.toList.length := by omega
    have hb := bt_data s i hi
    simp only [spec_l3Split.l0]
    rw [if_pos (by omega), if_neg (by omega), if_pos (by omega), if_pos (by omega), hb, List.drop_eq_getElem_cons hi]
    generalize hbb : s.data.toList[i] = b
    have hc : ((b.toNat : Nat) : Int) = ((c.toNat : Nat) : Int) ↔ b = c := ⟨fun h => UInt8.toNat_inj.1 (by omega), fun h => by rw [h]⟩
    unfold spl
    by_cases h : b = c
    · rw [if_pos (hc.2 h), if_pos h, if_pos (by omega), if_pos (by omega), if_pos (by omega), wrap_in (i := (i : Int) + 1) (by omega) (by omega), show ((i : Int) + 1) = ((i + 1 : Nat) : Int) by omega]
      rw [ih (i + 1) (i + 1) _ (by omega) (Nat.le_refl _) (by rw [List.length_append, List.length_singleton]; omega) k (by omega)]
      rw [Nat.sub_self, List.take_zero, glue_nil _ (spl_ne _ _), Int.toNat_natCast, Int.toNat_natCast, extract_ofL, List.append_assoc]
      simp [glue]
    · rw [if_neg (fun e => h (hc.1 e)), if_neg h, wrap_in (i := (i : Int) + 1) (by omega) (by omega), show ((i : Int) + 1) = ((i + 1 : Nat) : Int) by omega]
      rw [ih (i + 1) f _ (by omega) (by omega) (by omega) k (by omega), glue_glue _ _ _ (spl_ne _ _)]
      have e : (s.data.toList.drop f).take (i + 1 - f) = (s.data.toList.drop f).take (i - f) ++ [b] := by
        rw [show i + 1 - f = (i - f) + 1 by omega, List.take_add_one, List.getElem?_drop, show f + (i - f) = i by omega, List.getElem?_eq_getElem hi, hbb]
        rfl
      rw [e]
theorem l3Split_ev (s : ByteArray) (c : UInt8) (hs : s.size ≤ 1000000) : Ev (fun k => spec_l3Split.f k s (c.toNat : Int)) ((spl c s.data.toList).map ofL) := by
  refine ⟨s.size + 2, fun k hk => ?_⟩
  unfold spec_l3Split.f
  have := l3Split_loop s c hs s.size 0 0 [] (by omega) (Nat.le_refl _) (Nat.zero_le _) k hk
  rw [Nat.sub_self, List.take_zero, glue_nil _ (spl_ne _ _), List.drop_zero] at this
  exact this
/-- What a part does to the parts that are kept. -/
def dotStep (kept : List ByteArray) (p : ByteArray) : List ByteArray := if p.toList = [46] then kept else if p.toList = [46, 46] then kept.take (kept.length - 1) else kept ++ [p]
/-- What is kept behind all parts; last: the part ahead of them. -/
def dotAll : List ByteArray → ByteArray → List ByteArray → List ByteArray
  | kept, last, [] => if last.toList = [46] ∨ last.toList = [46, 46] then kept ++ [⟨#[]⟩] else kept
  | kept, _, p :: ps => dotAll (dotStep kept p) p ps
def wt (l : List ByteArray) : Nat := (l.map fun p => p.size + 1).sum
theorem wt_append (a b : List ByteArray) : wt (a ++ b) = wt a + wt b := by simp [wt]
theorem wt_cons (p : ByteArray) (l : List ByteArray) : wt (p :: l) = p.size + 1 + wt l := by simp [wt]
theorem wt_take (l : List ByteArray) (n : Nat) : wt (l.take n) ≤ wt l := by
  have : wt l = wt (l.take n) + wt (l.drop n) := by rw [← wt_append, List.take_append_drop]
  omega
theorem wt_len (l : List ByteArray) : l.length ≤ wt l := by
  unfold wt
  induction l with
  | nil => exact Nat.le_refl _
  | cons a l ih => simp only [List.length_cons, List.map_cons, List.sum_cons]; omega
theorem wt_step (kept : List ByteArray) (p : ByteArray) : wt (dotStep kept p) ≤ wt kept + (p.size + 1) := by
  unfold dotStep
  split
  · omega
  · split
    · have := wt_take kept (kept.length - 1); omega
    · rw [wt_append]; simp [wt]
theorem wt_all (ps : List ByteArray) : ∀ (kept : List ByteArray) (last : ByteArray), wt (dotAll kept last ps) ≤ wt kept + wt ps + 1 := by
  induction ps with
  | nil =>
    intro kept last
    unfold dotAll
    split
    · have hz : wt ([⟨#[]⟩] : List ByteArray) = 1 := rfl
      rw [wt_append]; omega
    · omega
  | cons p ps ih =>
    intro kept last
    unfold dotAll
    have h1 := ih (dotStep kept p) p
    have h2 := wt_step kept p
    have h3 : wt (p :: ps) = p.size + 1 + wt ps := by simp [wt]
    omega
/-- The kept parts, each behind a slash. -/
def slashed (l : List ByteArray) : List UInt8 := l.flatMap fun p => 47 :: p.data.toList
theorem slashed_length (l : List ByteArray) : (slashed l).length = wt l := by
  unfold slashed wt
  induction l with
  | nil => rfl
  | cons a l ih =>
    rw [List.flatMap_cons, List.length_append, ih, List.map_cons, List.sum_cons, List.length_cons, Array.length_toList]
    rfl
theorem slashed_join (l : List ByteArray) (h : l ≠ []) : slashed l = 47 :: joinB l ⟨#[47]⟩ := by
  cases l with
  | nil => exact absurd rfl h
  | cons a l =>
    unfold slashed joinB
    rw [List.map_cons, Lib.join_cons, List.flatMap_cons]
    unfold Lib.joinTail
    rw [List.map_map]
    show 47 :: a.data.toList ++ _ = 47 :: (a.data.toList ++ _)
    rw [List.cons_append]
    congr 2
def dotOut (l : List ByteArray) : ByteArray := if l = [] then ofL [47] else ofL (slashed l)
theorem joinB_len (l : List ByteArray) : (joinB l ⟨#[47]⟩).length ≤ wt l := by
  by_cases h : l = []
  · subst h; exact Nat.zero_le _
  · have := slashed_length l
    rw [slashed_join l h] at this
    simp only [List.length_cons] at this
    omega
theorem join_out (l : List ByteArray) (h : wt l ≤ 1000000) : (strings_Join.f l ⟨#[47]⟩).bind (fun t => if 1 + t.size ≤ 9223372036854775807 then some ((⟨#[47]⟩ : ByteArray) ++ t) else none) = some (dotOut l) := by
  have h1 := wt_len l
  have h2 := joinB_len l
  unfold strings_Join.f
  rw [if_pos ⟨by omega, by omega⟩]
  simp only [Option.bind_some]
  have h3 : (⟨(joinB l ⟨#[47]⟩).toArray⟩ : ByteArray).size = (joinB l ⟨#[47]⟩).length := ofL_size _
  rw [if_pos (by omega)]
  congr 1
  have e : ((⟨#[47]⟩ : ByteArray) ++ ⟨(joinB l ⟨#[47]⟩).toArray⟩) = ofL (47 :: joinB l ⟨#[47]⟩) := ofL_append [47] (joinB l ⟨#[47]⟩)
  rw [e]
  unfold dotOut
  by_cases hl : l = []
  · rw [if_pos hl, hl]; rfl
  · rw [if_neg hl, slashed_join l hl]
theorem rd_at (l : List ByteArray) (i : Nat) (h : i < l.length) : rdOf ByteArray.empty l (i : Int) = l[i] := by
  simp [rdOf, List.getD_eq_getElem?_getD, h]
theorem impl_Dotless_loop (ps : List ByteArray) (d : Nat) : ∀ (i : Nat) (kept : List ByteArray) (last : ByteArray), i + d = ps.length → wt kept + wt (ps.drop i) ≤ 900000 → ps.length ≤ 900000 →
    ∀ k, d + 1 ≤ k → impl_Dotless.l0 k kept last ps (ps.length : Int) (i : Int) = some (dotOut (dotAll kept last (ps.drop i))) := by
  induction d with
  | zero =>
    intro i kept last hd hw hp k hk
    obtain ⟨k, rfl⟩ : ∃ z, k = z + 1 := ⟨k - 1, by omega⟩
    have e : i = ps.length := by omega
    have hl := wt_len kept
    have hj := wt_all [] kept last
    simp only [impl_Dotless.l0]
    rw [if_neg (by omega), List.drop_of_length_le (by omega)]
    have hz : wt ([] : List ByteArray) = 0 := rfl
    unfold dotAll at hj ⊢
    by_cases h1 : last.toList = [46]
    · rw [if_pos (.inl h1)] at hj
      rw [if_pos h1, if_pos (by omega), if_pos (.inl h1), join_out _ (by omega)]
    · rw [if_neg h1]
      by_cases h2 : last.toList = [46, 46]
      · rw [if_pos (.inr h2)] at hj
        rw [if_pos h2, if_pos (by omega), if_pos (.inr h2), join_out _ (by omega)]
      · rw [if_neg (by simp [h1, h2])] at hj
        rw [if_neg h2, if_neg (by simp [h1, h2]), join_out _ (by omega)]
  | succ d ih =>
    intro i kept last hd hw hp k hk
    obtain ⟨k, rfl⟩ : ∃ z, k = z + 1 := ⟨k - 1, by omega⟩
    have hi : i < ps.length := by omega
    have hl := wt_len kept
    rw [List.drop_eq_getElem_cons hi] at hw ⊢
    have h3 := wt_cons ps[i] (ps.drop (i + 1))
    have hs := wt_step kept ps[i]
    have step := ih (i + 1) (dotStep kept ps[i]) ps[i] (by omega) (by omega) hp k (by omega)
    simp only [impl_Dotless.l0]
    rw [if_pos (by omega), if_pos (by omega), if_pos (by omega), rd_at ps i hi, wrap_in (i := (i : Int) + 1) (by omega) (by omega), show ((i : Int) + 1) = ((i + 1 : Nat) : Int) by omega]
    unfold dotAll
    unfold dotStep at step ⊢
    by_cases h1 : ps[i].toList = [46]
    · rw [if_pos h1] at step ⊢
      rw [if_pos h1]
      exact step
    · rw [if_neg h1] at step ⊢
      rw [if_neg h1]
      by_cases h2 : ps[i].toList = [46, 46]
      · rw [if_pos h2] at step ⊢
        rw [if_pos h2]
        by_cases h0 : (kept.length : Int) > 0
        · rw [if_pos h0, wrap_in (i := (kept.length : Int) - 1) (by omega) (by omega), if_pos (by omega), if_pos (by omega), show ((kept.length : Int) - 1).toNat = kept.length - 1 by omega]
          exact step
        · rw [if_neg h0]
          have e : kept = [] := List.eq_nil_of_length_eq_zero (by omega)
          subst e
          exact step
      · rw [if_neg h2] at step ⊢
        rw [if_neg h2, if_pos (by omega)]
        exact step
theorem spec_Dotless_end (kept : List ByteArray) (d : Nat) : ∀ (i : Nat) (out : List Int), i + d = kept.length → wt kept ≤ 1000000 → out = (slashed (kept.take i)).map (fun b => ((b.toNat : Nat) : Int)) →
    ∀ k, d + 1 ≤ k → spec_Dotless.l1 k kept out (i : Int) = some (dotOut kept) := by
  induction d with
  | zero =>
    intro i out hd hw ho k hk
    obtain ⟨k, rfl⟩ : ∃ z, k = z + 1 := ⟨k - 1, by omega⟩
    have e : i = kept.length := by omega
    subst e
    simp only [spec_Dotless.l1]
    rw [if_neg (by omega)]
    rw [List.take_length] at ho
    have hlen : out.length = wt kept := by rw [ho, List.length_map, slashed_length]
    have hl := wt_len kept
    unfold dotOut
    by_cases h : kept = []
    · subst h
      rw [if_pos (by rw [hlen]; rfl), if_pos rfl]
      rfl
    · rw [if_neg (by
        have : 0 < kept.length := List.length_pos_iff.2 h
        omega), if_neg h]
      congr 1
      apply eq_of_toList
      rw [toList_data, strOfNums_data, ho, List.map_map, ofL_toList]
      refine (List.map_congr_left fun b _ => ?_).trans (List.map_id _)
      simp
  | succ d ih =>
    intro i out hd hw ho k hk
    obtain ⟨k, rfl⟩ : ∃ z, k = z + 1 := ⟨k - 1, by omega⟩
    have hi : i < kept.length := by omega
    have h1 : wt (kept.take (i + 1)) = wt (kept.take i) + (kept[i].size + 1) := by
      rw [List.take_add_one, List.getElem?_eq_getElem hi, wt_append]
      simp [wt]
    have h2 := wt_take kept (i + 1)
    have hlen : out.length = wt (kept.take i) := by rw [ho, List.length_map, slashed_length]
    have hl := wt_len kept
    simp only [spec_Dotless.l1]
    rw [if_pos (by omega), if_pos (by omega), rd_at kept i hi, if_pos (by omega), if_pos (by rw [ByteArray.size_append, show (⟨#[47]⟩ : ByteArray).size = 1 from rfl]; omega), wrap_in (i := (i : Int) + 1) (by omega) (by omega), show ((i : Int) + 1) = ((i + 1 : Nat) : Int) by omega]
    refine ih (i + 1) _ (by omega) hw ?_ k (by omega)
    rw [ho, List.take_add_one, List.getElem?_eq_getElem hi]
    unfold slashed
    rw [List.flatMap_append, List.map_append]
    congr 1
    unfold bytesOf
    simp [ByteArray.data_append]
theorem spec_Dotless_loop (ps : List ByteArray) (d : Nat) : ∀ (i : Nat) (kept : List ByteArray) (last : ByteArray), i + (d + 1) = ps.length → wt kept + wt (ps.drop i) ≤ 900000 → ps.length ≤ 900000 →
    ∀ k, d + 1 + 900000 + 3 ≤ k → spec_Dotless.l0 k ps kept (i : Int) = some (dotOut (dotAll kept last (ps.drop i))) := by
  have fin : ∀ (kept : List ByteArray), wt kept ≤ 900001 → ∀ k, 900000 + 3 ≤ k → spec_Dotless.l0 k ps kept (ps.length : Int) = some (dotOut kept) := by
    intro kept hw k hk
    obtain ⟨k, rfl⟩ : ∃ z, k = z + 1 := ⟨k - 1, by omega⟩
    have := wt_len kept
    simp only [spec_Dotless.l0]
    rw [if_neg (by omega)]
    exact spec_Dotless_end kept kept.length 0 [] (by omega) (by omega) rfl k (by omega)
  induction d with
  | zero =>
    intro i kept last hd hw hp k hk
    obtain ⟨k, rfl⟩ : ∃ z, k = z + 1 := ⟨k - 1, by omega⟩
    have hi : i < ps.length := by omega
    have hl := wt_len kept
    rw [List.drop_eq_getElem_cons hi] at hw ⊢
    rw [List.drop_of_length_le (show ps.length ≤ i + 1 by omega)] at hw ⊢
    have h3 : wt [ps[i]] = ps[i].size + 1 := by simp [wt]
    have hs := wt_step kept ps[i]
    have hz : wt ([⟨#[]⟩] : List ByteArray) = 1 := rfl
    have step := fun kk (h : wt kk ≤ 900001) => fin kk h k (by omega)
    simp only [spec_Dotless.l0]
    rw [if_pos (by omega), if_pos (by omega), rd_at ps i hi, wrap_in (i := (i : Int) + 1) (by omega) (by omega), show ((i : Int) + 1) = (ps.length : Int) by omega, wrap_in (i := (ps.length : Int) - 1) (by omega) (by omega)]
    simp only [dotAll]
    unfold dotStep at hs ⊢
    by_cases h1 : ps[i].toList = [46]
    · have h2 : ¬ ps[i].toList = [46, 46] := by rw [h1]; decide
      rw [if_pos h1] at hs
      rw [if_neg h2, if_pos h1, if_pos (by omega), if_pos (by omega), if_pos (.inl h1), if_pos h1]
      exact step _ (by rw [wt_append]; omega)
    · rw [if_neg h1] at hs
      by_cases h2 : ps[i].toList = [46, 46]
      · rw [if_pos h2] at hs
        rw [if_pos h2, if_pos (show ps[i].toList = [46] ∨ ps[i].toList = [46, 46] from .inr h2), if_neg h1]
        by_cases h0 : (kept.length : Int) > 0
        · rw [if_pos h0, wrap_in (i := (kept.length : Int) - 1) (by omega) (by omega), if_pos (by omega), if_pos (by omega), show ((kept.length : Int) - 1).toNat = kept.length - 1 by omega]
          simp only [Option.bind_some]
          rw [if_pos (by omega), if_pos (by rw [List.length_take]; omega), if_pos h2]
          exact step (kept.take (kept.length - 1) ++ [⟨#[]⟩]) (by rw [wt_append]; omega)
        · rw [if_neg h0, if_pos (by omega), if_pos (by omega), if_pos h2]
          have e : kept = [] := List.eq_nil_of_length_eq_zero (by omega)
          subst e
          exact step ([] ++ [⟨#[]⟩]) (by decide)
      · rw [if_neg h2] at hs
        rw [if_neg h2, if_neg h1, if_pos (by omega), if_neg (by simp [h1, h2]), if_neg h1, if_neg h2]
        exact step _ (by omega)
  | succ d ih =>
    intro i kept last hd hw hp k hk
    obtain ⟨k, rfl⟩ : ∃ z, k = z + 1 := ⟨k - 1, by omega⟩
    have hi : i < ps.length := by omega
    have hl := wt_len kept
    rw [List.drop_eq_getElem_cons hi] at hw ⊢
    have h3 := wt_cons ps[i] (ps.drop (i + 1))
    have hs := wt_step kept ps[i]
    have step := ih (i + 1) (dotStep kept ps[i]) ps[i] (by omega) (by omega) hp k (by omega)
    simp only [spec_Dotless.l0]
    rw [if_pos (by omega), if_pos (by omega), rd_at ps i hi, wrap_in (i := (i : Int) + 1) (by omega) (by omega), show ((i : Int) + 1) = ((i + 1 : Nat) : Int) by omega, wrap_in (i := (ps.length : Int) - 1) (by omega) (by omega)]
    rw [show dotAll kept last (ps[i] :: ps.drop (i + 1)) = dotAll (dotStep kept ps[i]) ps[i] (ps.drop (i + 1)) from rfl]
    unfold dotStep at step ⊢
    by_cases h1 : ps[i].toList = [46]
    · have h2 : ¬ ps[i].toList = [46, 46] := by rw [h1]; decide
      rw [if_pos h1] at step ⊢
      rw [if_neg h2, if_pos h1, if_neg (by omega)]
      exact step
    · rw [if_neg h1] at step ⊢
      by_cases h2 : ps[i].toList = [46, 46]
      · rw [if_pos h2] at step ⊢
        rw [if_neg h1]
        by_cases h0 : (kept.length : Int) > 0
        · rw [if_pos h0, wrap_in (i := (kept.length : Int) - 1) (by omega) (by omega), if_pos (by omega), if_pos (by omega), show ((kept.length : Int) - 1).toNat = kept.length - 1 by omega]
          simp only [Option.bind_some]
          rw [if_neg (by omega), if_pos h2]
          exact step
        · rw [if_neg h0, if_neg (by omega), if_pos h2]
          have e : kept = [] := List.eq_nil_of_length_eq_zero (by omega)
          subst e
          exact step
      · rw [if_neg h2] at step ⊢
        rw [if_neg h2, if_neg h1, if_pos (by omega)]
        exact step
/-- Is it a path? -/
def pathB (s : ByteArray) : Bool := decide (1 ≤ s.size ∧ bt s 0 = 47 ∧ s.size ≤ 200)
def dotless (s : ByteArray) : ByteArray := if pathB s = true then dotOut (dotAll [] ⟨#[]⟩ ((spl 47 ((s.extract 1 s.size).data.toList)).map ofL)) else ⟨#[]⟩
theorem wt_glue (p : List UInt8) (l : List (List UInt8)) (h : l ≠ []) : wt ((glue p l).map ofL) = p.length + wt (l.map ofL) := by
  cases l with
  | nil => exact absurd rfl h
  | cons a l => simp [glue, wt, ofL_size]; omega
theorem wt_spl (c : UInt8) (l : List UInt8) : wt ((spl c l).map ofL) = l.length + 1 := by
  induction l with
  | nil => rfl
  | cons b l ih =>
    unfold spl
    split
    · have : wt (([] :: spl c l).map ofL) = 1 + wt ((spl c l).map ofL) := by simp [wt, ofL_size]
      rw [this, ih, List.length_cons]; omega
    · rw [wt_glue _ _ (spl_ne _ _), ih]; simp only [List.length_cons, List.length_nil]; omega
theorem bytes_first2 (s : ByteArray) (h : 0 < s.size) : bytesOf s = bt s 0 :: (bytesOf s).drop 1 := by
  have := drop_bt s 0 h
  rw [List.drop_zero] at this
  exact this
theorem spec_l3Path_is (s : ByteArray) : spec_l3Path.f s = some (pathB s) := by
  unfold spec_l3Path.f pathB
  by_cases h : s.size = 0
  · have e : s.toList = [] := (toList_nil s).2 h
    simp only [e]
    simp [h]
  · have e : s.toList ≠ [] := fun x => h ((toList_nil s).1 x)
    have h1 : (0 : Int) < (s.size : Int) := by omega
    have he : ¬ s = ByteArray.empty := by rintro rfl; exact h rfl
    have h2 : 1 ≤ s.size := by omega
    rw [if_neg e, if_pos h1]
    by_cases hb : bt s 0 = 47
    · rw [if_pos hb]
      by_cases hz : s.size ≤ 200
      · rw [decide_eq_true (by omega), decide_eq_true ⟨h2, hb, hz⟩]
      · rw [decide_eq_false (by omega), decide_eq_false (fun x => hz x.2.2)]
    · rw [if_neg hb, decide_eq_false (fun x => hb x.2.1)]
theorem slash_prefix (s : ByteArray) (h : 1 ≤ s.size) : ((s.extract 0 1).toList == [47]) = decide (bt s 0 = 47) := by
  have e : bytesOf (s.extract 0 1) = [bt s 0] := by
    have := bytes_first s h
    rw [bytes_extract, List.drop_zero, this]
    rfl
  have e2 : (s.extract 0 1).toList = [47] ↔ bt s 0 = 47 := by
    constructor
    · intro h2
      have : bytesOf (s.extract 0 1) = [47] := by unfold bytesOf; rw [← toList_data, h2]; rfl
      rw [e] at this
      exact (List.cons.inj this).1
    · intro h2
      have h3 : s.extract 0 1 = ofL [47] := bytes_inj (by rw [e, h2]; rfl)
      rw [h3, ofL_toList]
  by_cases h2 : bt s 0 = 47
  · rw [e2.2 h2, decide_eq_true h2]; rfl
  · rw [decide_eq_false h2, beq_eq_false_iff_ne]
    exact fun h3 => h2 (e2.1 h3)
theorem impl_isPath_is (s : ByteArray) : impl_isPath.f s = some (pathB s) := by
  unfold impl_isPath.f strings_HasPrefix.f stringslite_HasPrefix.f pathB
  have e1 : (⟨#[47]⟩ : ByteArray).size = 1 := rfl
  have e2 : (⟨#[47]⟩ : ByteArray).toList = [47] := ofL_toList [47]
  rw [e1, e2]
  by_cases hz : s.size ≤ 200
  · rw [if_pos (by omega)]
    by_cases h : 1 ≤ s.size
    · rw [if_pos (by omega), if_pos (by omega), if_pos (by omega), show (((1 : Nat) : Int)).toNat = 1 from rfl, slash_prefix s h]
      simp [h, hz]
    · rw [if_neg (by omega)]
      simp [h]
  · rw [if_neg (by omega)]
    simp [hz]
theorem spec_Dotless_ev (s : ByteArray) : Ev (fun k => spec_Dotless.f k s) (dotless s) := by
  unfold spec_Dotless.f dotless
  rw [spec_l3Path_is]
  simp only [Option.bind_some]
  by_cases h : pathB s = true
  · have hp := h
    unfold pathB at hp
    rw [decide_eq_true_eq] at hp
    simp only [if_pos h]
    have h1 : (1 : Int) ≤ (s.size : Int) := by omega
    simp only [if_pos h1]
    have hsz : (s.extract 1 s.size).size = s.size - 1 := size_extract s 1 s.size (Nat.le_refl _)
    refine Ev.bind (l3Split_ev (s.extract 1 s.size) 47 (by omega)) ?_
    have hw := wt_spl 47 (s.extract 1 s.size).data.toList
    rw [Array.length_toList] at hw
    have hw2 : wt ((spl 47 (s.extract 1 s.size).data.toList).map ofL) = (s.extract 1 s.size).size + 1 := hw
    have hl := wt_len ((spl 47 (s.extract 1 s.size).data.toList).map ofL)
    have hne : 0 < ((spl 47 (s.extract 1 s.size).data.toList).map ofL).length := by rw [List.length_map]; exact List.length_pos_iff.2 (spl_ne _ _)
    obtain ⟨d, hd⟩ : ∃ d, 0 + (d + 1) = ((spl 47 (s.extract 1 s.size).data.toList).map ofL).length := ⟨((spl 47 (s.extract 1 s.size).data.toList).map ofL).length - 1, by omega⟩
    have hz : wt ([] : List ByteArray) = 0 := rfl
    exact ⟨d + 1 + 900000 + 3, fun k hk => spec_Dotless_loop _ d 0 [] ⟨#[]⟩ hd (by rw [List.drop_zero]; omega) (by omega) k hk⟩
  · simp only [if_neg h]
    exact Ev.now _
theorem impl_Dotless_ev (s : ByteArray) : Ev (fun k => impl_Dotless.f k s) (dotless s) := by
  unfold impl_Dotless.f dotless
  rw [impl_isPath_is]
  simp only [Option.bind_some]
  by_cases h : pathB s = true
  · have hp := h
    unfold pathB at hp
    rw [decide_eq_true_eq] at hp
    simp only [if_pos h]
    have h1 : (1 : Int) ≤ (s.size : Int) := by omega
    simp only [if_pos h1]
    have hsz : (s.extract 1 s.size).size = s.size - 1 := size_extract s 1 s.size (Nat.le_refl _)
    rw [split_is (s.extract 1 s.size) 47 (by omega)]
    simp only [Option.bind_some]
    have hw := wt_spl 47 (s.extract 1 s.size).data.toList
    rw [Array.length_toList] at hw
    have hw2 : wt ((spl 47 (s.extract 1 s.size).data.toList).map ofL) = (s.extract 1 s.size).size + 1 := hw
    have hl := wt_len ((spl 47 (s.extract 1 s.size).data.toList).map ofL)
    have hz : wt ([] : List ByteArray) = 0 := rfl
    exact ⟨((spl 47 (s.extract 1 s.size).data.toList).map ofL).length + 1, fun k hk => impl_Dotless_loop _ _ 0 [] ⟨#[]⟩ (by omega) (by rw [List.drop_zero]; omega) (by omega) k hk⟩
  · simp only [if_neg h]
    exact Ev.now _
def leT (a b : ByteArray) : Prop := ¬ Op.bytesLess b.toList a.toList = true
theorem leT_iff (a b : ByteArray) : leT a b ↔ a.data.toList ≤ b.data.toList := by
  unfold leT
  rw [bytesLess_eq, toList_data, toList_data, decide_eq_true_eq]
  exact List.not_lt
/-- A text put among sorted ones, from behind: RA: those ahead, turned; B: those behind. -/
def insT (v : ByteArray) : List ByteArray → List ByteArray → List ByteArray
  | [], B => v :: B
  | a :: RA, B => if Op.bytesLess v.toList a.toList = true then insT v RA (a :: B) else RA.reverse ++ a :: v :: B
theorem insT_perm (v : ByteArray) : ∀ (RA B : List ByteArray), (insT v RA B).Perm (v :: (RA.reverse ++ B))
  | [], B => List.Perm.refl _
  | a :: RA, B => by
    unfold insT
    split
    · have := insT_perm v RA (a :: B)
      rwa [List.reverse_cons, List.append_assoc, List.singleton_append]
    · rw [List.reverse_cons, List.append_assoc, List.singleton_append]
      have h1 : (RA.reverse ++ a :: v :: B).Perm (v :: (RA.reverse ++ a :: B)) := by
        have h2 : (RA.reverse ++ a :: v :: B) = (RA.reverse ++ [a]) ++ v :: B := by simp
        have h3 : (RA.reverse ++ a :: B) = (RA.reverse ++ [a]) ++ B := by simp
        rw [h2, h3]
        exact List.perm_middle
      exact h1
theorem leT_of (a b : ByteArray) (h : Op.bytesLess a.toList b.toList = true) : leT a b := by
  rw [leT_iff]
  rw [bytesLess_eq, decide_eq_true_eq, toList_data, toList_data] at h
  exact List.le_of_lt h
theorem leT_trans {a b c : ByteArray} (h1 : leT a b) (h2 : leT b c) : leT a c := by
  rw [leT_iff] at *
  exact List.le_trans h1 h2
theorem insT_sorted (v : ByteArray) : ∀ (RA B : List ByteArray), (RA.reverse ++ B).Pairwise leT → (∀ b ∈ B, leT v b) → (insT v RA B).Pairwise leT
  | [], B, h, hb => List.pairwise_cons.2 ⟨hb, by simpa using h⟩
  | a :: RA, B, h, hb => by
    rw [List.reverse_cons, List.append_assoc, List.singleton_append] at h
    unfold insT
    split
    · rename_i hl
      refine insT_sorted v RA (a :: B) h fun b hm => ?_
      rcases List.mem_cons.1 hm with rfl | hm
      · exact leT_of _ _ hl
      · exact hb b hm
    · rename_i hl
      rw [List.pairwise_append] at h ⊢
      obtain ⟨h1, h2, h3⟩ := h
      rw [List.pairwise_cons] at h2
      refine ⟨h1, ?_, ?_⟩
      · refine List.pairwise_cons.2 ⟨fun b hm => ?_, List.pairwise_cons.2 ⟨hb, h2.2⟩⟩
        rcases List.mem_cons.1 hm with rfl | hm
        · exact hl
        · exact h2.1 b hm
      · intro x hx y hy
        rcases List.mem_cons.1 hy with rfl | hy
        · exact h3 x hx _ List.mem_cons_self
        · rcases List.mem_cons.1 hy with rfl | hy
          · exact leT_trans (h3 x hx a List.mem_cons_self) hl
          · exact h3 x hx y (List.mem_cons_of_mem _ hy)
def isortT (S l : List ByteArray) : List ByteArray := l.foldl (fun S v => insT v S.reverse []) S
theorem isortT_perm (l : List ByteArray) : ∀ S, (isortT S l).Perm (S ++ l) := by
  induction l with
  | nil => intro S; rw [List.append_nil]; exact List.Perm.refl _
  | cons v l ih =>
    intro S
    have h1 := ih (insT v S.reverse [])
    have h2 := insT_perm v S.reverse []
    rw [List.reverse_reverse, List.append_nil] at h2
    refine h1.trans ((h2.append_right l).trans ?_)
    exact List.perm_middle.symm
theorem isortT_sorted (l : List ByteArray) : ∀ S, S.Pairwise leT → (isortT S l).Pairwise leT := by
  induction l with
  | nil => intro S h; exact h
  | cons v l ih =>
    intro S h
    exact ih _ (insT_sorted v S.reverse [] (by simpa using h) (fun b hb => by cases hb))
theorem eq_of_sorted {l1 : List (List UInt8)} : ∀ {l2 : List (List UInt8)}, l1.Perm l2 → l1.Pairwise (· ≤ ·) → l2.Pairwise (· ≤ ·) → l1 = l2 := by
  induction l1 with
  | nil => intro l2 h _ _; exact (List.nil_perm.1 h).symm
  | cons a l1 ih =>
    intro l2 h h1 h2
    cases l2 with
    | nil => exact absurd h.symm (by intro x; exact absurd (List.nil_perm.1 x) (by simp))
    | cons b l2 =>
      have e : a = b := by
        have ha : a ∈ b :: l2 := h.subset List.mem_cons_self
        have hb : b ∈ a :: l1 := h.symm.subset List.mem_cons_self
        rcases List.mem_cons.1 ha with rfl | ha
        · rfl
        · rcases List.mem_cons.1 hb with rfl | hb
          · rfl
          · exact List.le_antisymm ((List.pairwise_cons.1 h1).1 b hb) ((List.pairwise_cons.1 h2).1 a ha)
      subst e
      rw [ih ((List.perm_cons a).1 h) (List.pairwise_cons.1 h1).2 (List.pairwise_cons.1 h2).2]
theorem isortT_is (l : List ByteArray) : (isortT [] l).map (·.data.toList) = (l.map (·.data.toList)).mergeSort fun x y => decide (x ≤ y) := by
  have hp : ((isortT [] l).map (·.data.toList)).Perm (l.map (·.data.toList)) := (isortT_perm l []).map _
  have hs : ((isortT [] l).map (·.data.toList)).Pairwise (· ≤ ·) := by
    rw [List.pairwise_map]
    exact (isortT_sorted l [] List.Pairwise.nil).imp fun h => (leT_iff _ _).1 h
  have hm : ((l.map (·.data.toList)).mergeSort fun x y => decide (x ≤ y)).Pairwise (· ≤ ·) := by
    have := List.pairwise_mergeSort (le := fun (x y : List UInt8) => decide (x ≤ y)) (fun a b c h1 h2 => by simp only [decide_eq_true_eq] at *; exact List.le_trans h1 h2) (fun a b => by simp only [Bool.or_eq_true, decide_eq_true_eq]; exact List.le_total a b) (l.map (·.data.toList))
    exact this.imp fun h => of_decide_eq_true h
  exact eq_of_sorted (hp.trans (List.mergeSort_perm _ _).symm) hs hm
theorem rd_mid (A B : List ByteArray) (a : ByteArray) : rdOf ByteArray.empty (A ++ a :: B) (A.length : Int) = a := by
  rw [rd_at _ _ (by simp)]
  simp
theorem set_mid (A B : List ByteArray) (h v : ByteArray) : (A ++ h :: B).set A.length v = A ++ v :: B := by simp
theorem l3Sorted_inner (x0 : List ByteArray) (i : Nat) (hi : i < x0.length) (hx : x0.length ≤ 1000000) (r : List ByteArray) : ∀ (RA B : List ByteArray) (h : ByteArray), RA.length + B.length ≤ 1000000 →
    Ev (fun k => spec_l3Sorted.l0 k x0 (insT x0[i] RA B) ((i + 1 : Nat) : Int)) r → Ev (fun k => spec_l3Sorted.l1 k x0 (RA.reverse ++ h :: B) (i : Int) (RA.length : Int)) r
  | [], B, h, hl, hr => by
    refine Ev.step (f := fun k => spec_l3Sorted.l0 k x0 (insT x0[i] [] B) ((i + 1 : Nat) : Int)) (fun k => ?_) hr
    simp only [spec_l3Sorted.l1]
    rw [if_neg (by simp), if_pos (by omega), if_pos (by omega), if_pos (by simp), if_pos (by simp only [List.reverse_nil, List.nil_append, List.length_nil, List.length_cons]; omega), rd_at x0 i hi, wrap_in (i := (i : Int) + 1) (by omega) (by omega), show ((i : Int) + 1) = ((i + 1 : Nat) : Int) by omega]
    rfl
  | a :: RA, B, h, hl, hr => by
    have hA : ((a :: RA).reverse ++ h :: B).length = RA.length + 1 + B.length + 1 := by simp only [List.length_append, List.length_reverse, List.length_cons]; omega
    have hlen : (a :: RA).length = RA.length + 1 := rfl
    rw [hlen] at hl
    have e1 : wrap64 (((a :: RA).length : Int) - 1) = (RA.length : Int) := by rw [hlen, wrap_in (by omega) (by omega)]; omega
    have e2 : rdOf ByteArray.empty ((a :: RA).reverse ++ h :: B) (RA.length : Int) = a := by
      have := rd_mid RA.reverse (h :: B) a
      rw [List.length_reverse] at this
      rw [List.reverse_cons, List.append_assoc]
      exact this
    have e3 : ∀ v, ((a :: RA).reverse ++ h :: B).set (((a :: RA).length : Int)).toNat v = (a :: RA).reverse ++ v :: B := fun v => by
      have := set_mid (a :: RA).reverse B h v
      rw [List.length_reverse] at this
      rw [Int.toNat_natCast]
      exact this
    by_cases hb : Op.bytesLess x0[i].toList a.toList = true
    · have hr2 : insT x0[i] (a :: RA) B = insT x0[i] RA (a :: B) := by rw [insT, if_pos hb]
      rw [hr2] at hr
      have ih := l3Sorted_inner x0 i hi hx r RA (a :: B) a (by simp only [List.length_cons]; omega) hr
      refine Ev.step (f := fun k => spec_l3Sorted.l1 k x0 (RA.reverse ++ a :: (a :: B)) (i : Int) (RA.length : Int)) (fun k => ?_) ih
      simp only [spec_l3Sorted.l1]
      rw [if_pos (by rw [hlen]; omega), e1, if_pos (by omega), if_pos (by rw [hA]; omega), if_pos (by omega), if_pos (by omega), rd_at x0 i hi, e2, if_pos hb, if_pos (by rw [hlen]; omega), if_pos (by rw [hA, hlen]; omega), e3]
      simp
    · have hr2 : insT x0[i] (a :: RA) B = RA.reverse ++ a :: x0[i] :: B := by rw [insT, if_neg hb]
      rw [hr2] at hr
      refine Ev.step (f := fun k => spec_l3Sorted.l0 k x0 (RA.reverse ++ a :: x0[i] :: B) ((i + 1 : Nat) : Int)) (fun k => ?_) hr
      simp only [spec_l3Sorted.l1]
      rw [if_pos (by rw [hlen]; omega), e1, if_pos (by omega), if_pos (by rw [hA]; omega), if_pos (by omega), if_pos (by omega), rd_at x0 i hi, e2, if_neg hb, if_pos (by rw [hlen]; omega), if_pos (by rw [hA, hlen]; omega), e3, wrap_in (i := (i : Int) + 1) (by omega) (by omega), show ((i : Int) + 1) = ((i + 1 : Nat) : Int) by omega]
      simp
theorem insT_length (v : ByteArray) (S : List ByteArray) : (insT v S.reverse []).length = S.length + 1 := by
  have := (insT_perm v S.reverse []).length_eq
  simpa using this
theorem l3Sorted_loop (x0 : List ByteArray) (hx : x0.length ≤ 900000) (d : Nat) : ∀ (i : Nat) (S : List ByteArray), i + d = x0.length → S.length = i → Ev (fun k => spec_l3Sorted.l0 k x0 S (i : Int)) (isortT S (x0.drop i)) := by
  induction d with
  | zero =>
    intro i S hd hs
    rw [List.drop_of_length_le (by omega)]
    refine Ev.step (f := fun _ => some S) (fun k => ?_) (Ev.now _)
    simp only [spec_l3Sorted.l0]
    rw [if_neg (by omega)]
  | succ d ih =>
    intro i S hd hs
    have hi : i < x0.length := by omega
    rw [List.drop_eq_getElem_cons hi]
    have h1 := ih (i + 1) (insT x0[i] S.reverse []) (by omega) (by rw [insT_length]; omega)
    have h2 := l3Sorted_inner x0 i hi (by omega) _ S.reverse [] x0[i] (by simp; omega) h1
    rw [List.reverse_reverse, List.length_reverse] at h2
    refine Ev.step (f := fun k => spec_l3Sorted.l1 k x0 (S ++ [x0[i]]) (i : Int) (S.length : Int)) (fun k => ?_) h2
    simp only [spec_l3Sorted.l0]
    rw [if_pos (by omega), if_pos (by omega), if_pos (by omega), rd_at x0 i hi]
theorem l3Sorted_ev (x0 : List ByteArray) (hx : x0.length ≤ 900000) : Ev (fun k => spec_l3Sorted.f k x0) (isortT [] x0) := by
  unfold spec_l3Sorted.f
  have := l3Sorted_loop x0 hx x0.length 0 [] (by omega) rfl
  rw [List.drop_zero] at this
  exact this
theorem query_keep (parts : List ByteArray) (hp : parts.length ≤ 900000) (r : ByteArray) (d : Nat) : ∀ (i : Nat) (out : List ByteArray), i + d = parts.length → out.length ≤ i →
    Ev (fun k => (spec_l3Sorted.f k (out ++ (parts.drop i).filter fun p => !(p.toList == []))).bind fun t112 => spec_SortedQuery.l1 k t112 ⟨#[]⟩ 0) r → Ev (fun k => spec_SortedQuery.l0 k out parts (i : Int)) r := by
  induction d with
  | zero =>
    intro i out hd ho hr
    rw [List.drop_of_length_le (by omega), List.filter_nil, List.append_nil] at hr
    refine Ev.step (fun k => ?_) hr
    simp only [spec_SortedQuery.l0]
    rw [if_neg (by omega)]
  | succ d ih =>
    intro i out hd ho hr
    have hi : i < parts.length := by omega
    rw [List.drop_eq_getElem_cons hi, List.filter_cons] at hr
    by_cases h : parts[i].toList = []
    · rw [if_neg (by simp [h])] at hr
      refine Ev.step (fun k => ?_) (ih (i + 1) out (by omega) (by omega) hr)
      simp only [spec_SortedQuery.l0]
      rw [if_pos (by omega), if_pos (by omega), rd_at parts i hi, if_pos h, wrap_in (i := (i : Int) + 1) (by omega) (by omega), show ((i : Int) + 1) = ((i + 1 : Nat) : Int) by omega]
    · have hb : (!(parts[i].toList == [])) = true := by rw [Bool.not_eq_true', beq_eq_false_iff_ne]; exact h
      rw [if_pos hb] at hr
      refine Ev.step (fun k => ?_) (ih (i + 1) (out ++ [parts[i]]) (by omega) (by rw [List.length_append, List.length_singleton]; omega) (by rw [List.append_assoc]; exact hr))
      simp only [spec_SortedQuery.l0]
      rw [if_pos (by omega), if_pos (by omega), rd_at parts i hi, if_neg h, if_pos (by omega), wrap_in (i := (i : Int) + 1) (by omega) (by omega), show ((i : Int) + 1) = ((i + 1 : Nat) : Int) by omega]
theorem query_join (l : List ByteArray) (hl : l.length ≤ 900000) (d : Nat) : ∀ (i : Nat) (s : ByteArray), 0 < i → i + d = l.length → s.size + wt (l.drop i) ≤ 1000000 →
    Ev (fun k => spec_SortedQuery.l1 k l s (i : Int)) (ofL (s.data.toList ++ Lib.joinTail [38] ((l.drop i).map (·.data.toList)))) := by
  induction d with
  | zero =>
    intro i s h0 hd hs
    rw [List.drop_of_length_le (by omega)]
    refine Ev.step (f := fun _ => some s) (fun k => ?_) ?_
    · simp only [spec_SortedQuery.l1]
      rw [if_neg (by omega)]
    · have e : Lib.joinTail [38] (([] : List ByteArray).map (·.data.toList)) = [] := rfl
      rw [e, List.append_nil, ofL_data]
      exact Ev.now _
  | succ d ih =>
    intro i s h0 hd hs
    have hi : i < l.length := by omega
    rw [List.drop_eq_getElem_cons hi] at hs ⊢
    have hw := wt_cons l[i] (l.drop (i + 1))
    have h38 : (⟨#[38]⟩ : ByteArray).size = 1 := rfl
    have e1 : ((s ++ (⟨#[38]⟩ : ByteArray)) ++ l[i]).size = s.size + 1 + l[i].size := by rw [ByteArray.size_append, ByteArray.size_append, h38]
    have h1 := ih (i + 1) ((s ++ (⟨#[38]⟩ : ByteArray)) ++ l[i]) (by omega) (by omega) (by rw [e1]; omega)
    refine Ev.step (f := fun k => spec_SortedQuery.l1 k l ((s ++ (⟨#[38]⟩ : ByteArray)) ++ l[i]) ((i + 1 : Nat) : Int)) (fun k => ?_) (ev_eq h1 ?_)
    · simp only [spec_SortedQuery.l1]
      rw [if_pos (by omega), if_pos (by omega), if_pos (by omega), if_pos (by omega), rd_at l i hi, if_pos (by rw [ByteArray.size_append, h38]; omega), wrap_in (i := (i : Int) + 1) (by omega) (by omega), show ((i : Int) + 1) = ((i + 1 : Nat) : Int) by omega]
    · unfold Lib.joinTail
      simp only [ByteArray.data_append, Array.toList_append, List.map_cons, List.flatten_cons, List.append_assoc]
theorem query_out (l : List ByteArray) (hw : wt l ≤ 900000) : Ev (fun k => spec_SortedQuery.l1 k l ⟨#[]⟩ 0) (ofL (Lib.join (l.map (·.data.toList)) [38])) := by
  have hl := wt_len l
  cases l with
  | nil =>
    refine Ev.step (f := fun _ => some ⟨#[]⟩) (fun k => ?_) (Ev.now _)
    simp only [spec_SortedQuery.l1]
    rw [if_neg (by simp)]
  | cons a l =>
    have hc := wt_cons a l
    have e0 : ((⟨#[]⟩ : ByteArray) ++ a) = a := by
      apply ByteArray.ext
      simp [ByteArray.data_append]
    have hz : (⟨#[]⟩ : ByteArray).size = 0 := rfl
    have h1 := query_join (a :: l) (by omega) l.length 1 a (by omega) (by simp; omega) (by simp only [List.drop_succ_cons, List.drop_zero]; omega)
    refine Ev.step (f := fun k => spec_SortedQuery.l1 k (a :: l) a ((1 : Nat) : Int)) (fun k => ?_) (ev_eq h1 ?_)
    · simp only [spec_SortedQuery.l1]
      have e1 : rdOf ByteArray.empty (a :: l) 0 = a := rfl
      rw [if_pos (by simp only [List.length_cons]; omega), if_neg (by omega), if_pos (by omega), e1, e0, if_pos (by omega), wrap_in (by omega) (by omega)]
      rfl
    · rw [List.map_cons, Lib.join_cons]
      rfl
def queryR (s : ByteArray) : ByteArray := if s.size > 200 then ⟨#[]⟩ else ofL (Lib.join (sortedL s) [38])
theorem impl_SortedQuery_is (s : ByteArray) : impl_SortedQuery.f s = some (queryR s) := by
  unfold impl_SortedQuery.f queryR
  split <;> rfl
theorem wt_filter (p : ByteArray → Bool) (l : List ByteArray) : wt (l.filter p) ≤ wt l := by
  induction l with
  | nil => exact Nat.le_refl _
  | cons a l ih =>
    rw [List.filter_cons, wt_cons]
    split
    · rw [wt_cons]; omega
    · omega
theorem wt_perm {a b : List ByteArray} (h : a.Perm b) : wt a = wt b := (h.map _).sum_nat
theorem spec_SortedQuery_ev (s : ByteArray) : Ev (fun k => spec_SortedQuery.f k s) (queryR s) := by
  unfold spec_SortedQuery.f queryR
  by_cases h : s.size > 200
  · have h2 : (s.size : Int) > 200 := by omega
    simp only [if_pos h, if_pos h2]
    exact Ev.now _
  · have h2 : ¬ (s.size : Int) > 200 := by omega
    simp only [if_neg h, if_neg h2]
    refine Ev.bind (l3Split_ev s 38 (by omega)) ?_
    have hw := wt_spl 38 s.data.toList
    rw [Array.length_toList] at hw
    have hw2 : wt ((spl 38 s.data.toList).map ofL) = s.size + 1 := hw
    have hl := wt_len ((spl 38 s.data.toList).map ofL)
    have hf := wt_filter (fun p => !(p.toList == [])) ((spl 38 s.data.toList).map ofL)
    have hl2 := wt_len (((spl 38 s.data.toList).map ofL).filter fun p => !(p.toList == []))
    have hp := wt_perm (isortT_perm (((spl 38 s.data.toList).map ofL).filter fun p => !(p.toList == [])) [])
    rw [List.nil_append] at hp
    refine query_keep _ (by omega) _ ((spl 38 s.data.toList).map ofL).length 0 [] (by omega) (Nat.le_refl _) ?_
    rw [List.drop_zero, List.nil_append]
    refine Ev.bind (l3Sorted_ev _ (by omega)) ?_
    refine ev_eq (query_out _ (by omega)) ?_
    congr 2
    rw [isortT_is]
    unfold sortedL
    congr 1
    unfold keptL
    rw [Lib.splitB_data]
    have e2 : Lib.splitK (⟨#[38]⟩ : ByteArray).data.toList 0 (Lib.countB s ⟨#[38]⟩) s.data.toList = spl 38 s.data.toList := splitK_spl 38 s.data.toList
    rw [e2]
    generalize spl 38 s.data.toList = ps
    induction ps with
    | nil => rfl
    | cons p ps ih =>
      rw [List.map_cons, List.filter_cons, List.filter_cons, ofL_toList]
      by_cases c : (!(p == [])) = true
      · rw [if_pos c, if_pos c, List.map_cons, ih]
        rfl
      · rw [if_neg c, if_neg c, ih]
end Go.Proofs.YtonimccihcodnaaDoor.Q
namespace Go.Proofs.YtonimccihcodnaaDoor.Pure
set_option linter.unusedVariables false
set_option linter.unusedSimpArgs false
open Go.RowKit Go.Proofs.YtonimccihcodnaaDoor.P Go.Proofs.YtonimccihcodnaaDoor.Q Go.Proofs.YtonimccihcodnaaDoorW.PrintWords
theorem FnExactSortedQuery : laws_FnExactSortedQuery.Pure := by
 intro a ha
 obtain ⟨K1, h1⟩ := spec_SortedQuery_ev a
 refine ⟨K1, ?_⟩
 have w1 := h1 K1 (Nat.le_refl _)
 simp only at w1
 unfold laws_FnExactSortedQuery.f
 rw [w1, impl_SortedQuery_is]
 split <;> simp
end Go.Proofs.YtonimccihcodnaaDoor.Pure
namespace Go.Proofs.YtonimccihcodnaaDoor.fnExactSortedQuery
open Go.ChangeShapes Go.WideShapes Go.ChangeAt Go.RowKit
open Go.ChangeMaps (open_string shut_string)
set_option linter.unusedVariables false
theorem own : ownKnob Tryd.prog.godebug = none := by kernel_rfl
set_option maxRecDepth 100000 in
theorem lifted (os : Os) (started : os.Started) (H : Type) (enc : TypeId × Value → H) :
    ReturnsInHanded {} Tryd.checked os 5 .any (fun w args => (Rows.fnExactSortedQuerySpec.pre enc Tryd.prog Tryd.f5 [] false w args ∧ laidMetH Tryd.prog Rows.fnExactSortedQueryRow.laid w) ∧ sizedMet enc Tryd.prog Tryd.f5 (OpenSpec.ofChange Rows.fnExactSortedQuerySpec) false w args) (Rows.fnExactSortedQuerySpec.post enc Tryd.prog Tryd.f5 false true false false) := by
  refine RowAid.handed_both (C := Tryd.checked) (X := fun w _ => laidMetH Tryd.prog Rows.fnExactSortedQueryRow.laid w) (fun _ _ _ hh h => h.of_heap hh) own started (by kernel_rfl) Tryd.func5
    (ChangeSpec.witness_shaped (enc := enc) (C := Tryd.checked) (os := os) (X := fun w _ => laidMetH Tryd.prog Rows.fnExactSortedQueryRow.laid w) false (World.laidAll Tryd.prog os Rows.fnExactSortedQueryRow.laid) #[.string ByteArray.empty] 8 (World.laidAll_os _ _ _)
      (World.shaped_of_ZipB (by kernel_rfl) (by kernel_rfl)) (by kernel_rfl) (by kernel_rfl) (by kernel_rfl)
      (by rw [MakeChecks.laidMetH_plain _ _ _ (by kernel_rfl)]; exact laidMet_laidAll _ (by kernel_rfl) (by kernel_rfl))) ?_
  intro W base args ds gs before hval0 hW hcnd hsz0 hL hSh _
  have hsz : (DataW.weightsEach Tryd.prog (Tryd.f5.params.toList ++ Rows.fnExactSortedQuerySpec.plain.varTypes Tryd.prog) (ds ++ gs)).all (· ≤ reachBytes) = true := hsz0
  have hval : ∀ (j : Nat) t v, Tryd.f5.params[j]? = some t → args[j]? = some v → Value.okWide Tryd.prog W .any base t v := hval0
  have hW' := hW
  obtain ⟨p, q, hA0, hV, rfl, hfz, hnd⟩ := hW
  have hA : DataW.TrodAll enc Tryd.prog W 0 (fun _ => true) true Tryd.f5.params.toList args.toList ds p := hA0
  rw [Tryd.params5] at hA hval hsz
  obtain ⟨v0, vs0, d0, ds0, p0, q0, hargs, rfl, rfl, h0, r0⟩ := trodAll_cons hA
  obtain ⟨rfl, rfl, rfl⟩ := trodAll_nil r0
  obtain rfl : args = #[v0] := by cases args; simp_all
  obtain ⟨rfl, rfl⟩ := trodVars_none hV
  obtain ⟨a0, rfl, rfl, rfl, y0⟩ := open_string Tryd.underlying9 (hval 0 9 v0 rfl rfl) h0
  have w0 : a0.size ≤ 140737488351232 := by
    have z := sized_string hsz (j := 0) (t := 9) rfl rfl
    rw [Array.length_toList] at z
    exact z
  clear hA0 hval0 hsz0 hsz
  have hXW := RowAid.xw_of (m := 1) hSh Rows.fnExactSortedQueryRow.laid hL (by kernel_rfl) (fun h_ => absurd h_ (by decide)) (fun h_ => absurd h_ (by decide))
  refine (P.laws_FnExactSortedQuery.walk Pure.FnExactSortedQuery a0 W hXW w0).mono fun e W' ⟨he, bel⟩ => ?_
  subst he
  exact ⟨_, rfl, _, _, _, [], _, [], hW', trodAll_mk1 (shut_bool Tryd.underlying4 _), (trodAll_cons_mk (shut_string Tryd.underlying9 y0) trodAll_mk0), rfl, bel.frame _, fun h => by cases h⟩
theorem over : Rows.fnExactSortedQueryRow.holds Tryd.pinned (OpenSpec.ofChange Rows.fnExactSortedQuerySpec) :=
  OpenClaim.holds_of_wide 5 Tryd.f5 rfl rfl rfl rfl rfl rfl rfl ⟨rfl, rfl, rfl, rfl, rfl⟩ rfl rfl rfl rfl rfl (by kernel_rfl) Tryd.func5 (by kernel_rfl)
    (of_decide_eq_true (by kernel_rfl)) (by unfold Func.isWrapper; first | (rw [if_pos (by decide +kernel)]; kernel_rfl) | (rw [if_neg (by decide +kernel)]; exact ⟨rfl, rfl⟩))
    (fun os started H enc _ => lifted os started H enc)
theorem proved : Rows.FnExactSortedQuerySaid := over
#print axioms proved
end Go.Proofs.YtonimccihcodnaaDoor.fnExactSortedQuery
namespace Go.Proofs.YtonimccihcodnaaDoor
/-- The tied card, under a short name, for the claim. -/
theorem fnExactSortedQuery_card : Rows.FnExactSortedQueryCardSaid :=
  Claim7.holds_tied_plain_at .later [] [.data, .pinned] true (true, "0f2a25fb34d235b8df6f75603f356f9c9fe71da704dab5b0fb308108ef28398e") true
    fnExactSortedQuery.proved (fun _ h => by cases h) (by kernel_rfl) (fun _ h => by cases h) fnExactSortedQuery_row_tie rfl ⟨rfl, rfl⟩ (by kernel_rfl) rfl
    (fun f fn hf hfn => by
      obtain rfl : f = 5 := Option.some.inj ((show Tryd.prog.funcNamed "loop.example/g00207/laws.FnExactSortedQuery" = some 5 by kernel_rfl).symm.trans hf) |>.symm
      obtain rfl : fn = Tryd.f5 := (Option.some.inj (Tryd.func5.symm.trans hfn)).symm
      exact ⟨by kernel_rfl, fun j t ht => by
        rw [Tryd.params5] at ht
        have hm : t ∈ [9] := by simpa using Array.mem_of_getElem? ht
        have hall : ([9].all fun u => !Tryd.prog.wantsStandIn u) = true := by kernel_rfl
        exact (show Tryd.prog.wantsStandIn t = false by simpa using List.all_eq_true.1 hall t hm)⟩)
    (by kernel_rfl)
#print axioms fnExactSortedQuery_card
end Go.Proofs.YtonimccihcodnaaDoor
