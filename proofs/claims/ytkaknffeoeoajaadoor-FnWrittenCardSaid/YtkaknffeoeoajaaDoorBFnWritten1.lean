/- Functions of the Go program as Lean functions, and proofs about them, merged out of this session's texts by its program bundle.py; conditions: those that each theorem states. -/
import Derived.Deep.RegionHeld3
import Derived.Deep.RegionLaw
import Derived.Handed
import Derived.HandedShaped
import Derived.Laws.BytesArg
import Derived.Laws.Strings3
import Derived.Lib.AtoiErrMem
import Derived.Lib.BufferMore
import Derived.Lib.ConvBytes
import Derived.Lib.Hide
import Derived.Lib.ItoaNum
import Derived.Lib.LaidTab
import Derived.Lib.SmallJoins
import Derived.Lib.Strings
import Derived.Lib.Walk
import Derived.MakeChecks
import Derived.Shelf.SlicesE.IndexFunc
import Derived.Shelf.Vars
import Derived.Sort.Grow
import Derived.Test.YtkaknffeoeoajaaDoorP0
import Derived.Test.YtkaknffeoeoajaaDoorPimplDateOk
import Derived.Test.YtkaknffeoeoajaaDoorPimpldaysIn
import Derived.Test.YtkaknffeoeoajaaDoorPimplyearDays
import Derived.Test.YtkaknffeoeoajaaDoorProg
import Derived.Test.YtkaknffeoeoajaaDoorPspecShowDate
import Derived.Test.YtkaknffeoeoajaaDoorPspecl1Below
import Derived.Test.YtkaknffeoeoajaaDoorPspecl1New
import Derived.Test.YtkaknffeoeoajaaDoorPspecl1Once
import Derived.Test.YtkaknffeoeoajaaDoorPspecl2DrawAny
import Derived.Test.YtkaknffeoeoajaaDoorShelf
import Derived.Test.YtkaknffeoeoajaaDoorXA
import Derived.Test.YtkaknffeoeoajaaDoorXB
namespace Go.Proofs.YtkaknffeoeoajaaDoor.RowAid
open Go
variable {H : Type} {enc : TypeId × Value → H}
theorem handed_both {a : Assume} {C : Checked} {os : Os} {f : FuncId} {fn : Func} {s : ChangeSpec} {conds : List PathCond} {apart fresh handsOn again : Bool} {X : World → Array Value → Prop}
    (hX : ∀ (w w' : World) (args : Array Value), w.heap = w'.heap → X w args → X w' args)
    (own : ownKnob C.prog.godebug = none) (started : os.Started) (noInit : C.prog.inits.idxOf? f = none) (hfn : C.prog.funcs[f]? = some fn)
    (witness : ∃ (w : World) (tape : Tape) (i : Input), w.os = os ∧ (w.forCall tape i).Shaped C.prog ∧ i.vars = [] ∧ Input.okWide C.prog (w.forCall tape i) .any w.heap.size f i ∧
      ((s.pre enc C.prog fn conds apart (w.forCall tape i).memory i.args ∧ X (w.forCall tape i).memory i.args) ∧ sizedMet enc C.prog fn (OpenSpec.ofChange s) apart (w.forCall tape i).memory i.args) ∧ a.holds C.prog (lone (Frame.enter C.prog f i.args .normal) [] (w.forCall tape i)))
    (contract : ∀ (W : World) (base : Nat) (args : Array Value) (ds gs : List (DataW H)) (before : List MemPlace),
      (∀ (j : Nat) t v, fn.params[j]? = some t → args[j]? = some v → Value.okWide C.prog W .any base t v) →
      DataW.Whole enc C.prog fn.params.toList s.vars apart W args.toList ds gs before →
      conds.all (PathCond.test C.prog ⟨fn.params.toList, ds, s.plain.varTypes C.prog, gs⟩) = true →
      (DataW.weightsEach C.prog (fn.params.toList ++ s.plain.varTypes C.prog) (ds ++ gs)).all (· ≤ reachBytes) = true → X W args → W.ShapedOpen C.prog →
      a.holds C.prog (lone (Frame.enter C.prog f args .normal) [] W) →
      Calls C.prog f args W fun e W' => ∃ v, e = .returned v ∧ s.post enc C.prog fn apart fresh handsOn again W args v W') :
    ReturnsInHanded a C os f .any (fun w args => (s.pre enc C.prog fn conds apart w args ∧ X w args) ∧ sizedMet enc C.prog fn (OpenSpec.ofChange s) apart w args) (s.post enc C.prog fn apart fresh handsOn again) := by
  refine returnsInHanded_of_calls own started noInit witness ?_
  intro w tape i _ hsh _ hok hpre hholds
  obtain ⟨_, _, _, fn', hfn', _, _, _, _, hval⟩ := hok
  have e : fn' = fn := Option.some.inj (hfn'.symm.trans hfn)
  subst e
  obtain ⟨⟨⟨ds, gs, before, hw, hc⟩, hx⟩, hz⟩ := hpre
  have hw' := DataW.Whole.of_heap (w' := w.forCall tape i) (by rfl) hw
  refine (contract (w.forCall tape i) w.heap.size i.args ds gs before hval hw' hc (hz.weights hw) (hX _ _ _ (by rfl) hx) hsh hholds).mono fun e W' ⟨v, he, hp⟩ => ?_
  subst he
  exact ChangeSpec.post_blind hp
end Go.Proofs.YtkaknffeoeoajaaDoor.RowAid
namespace Go.Proofs.YtkaknffeoeoajaaDoor.P
set_option linter.unusedVariables false
open Go.RowKit Go.Proofs.YtkaknffeoeoajaaDoorW.PrintWords Go.Proofs.YtkaknffeoeoajaaDoorW.PrintLast Go.Proofs.YtkaknffeoeoajaaDoorW.PrintMore

def deBruijn64Tab : List Int := [0, 1, 56, 2, 57, 49, 28, 3, 61, 58, 42, 50, 38, 29, 17, 4, 62, 47, 59, 36, 45, 43, 51, 22, 53, 39, 33, 30, 24, 18, 12, 5, 63, 55, 48, 27, 60, 41, 37, 16, 46, 35, 44, 21, 52, 32, 23, 11, 54, 26, 40, 15, 34, 20, 31, 10, 25, 14, 19, 9, 13, 8, 7, 6]
/-- Which variables hold what they are laid with: 1: MaxLen is some number · 2: the powers of ten · 4: the table of trailing zeros. -/
def XW (m : Nat) (w : World) : Prop :=
  (m % 2 = 1 → ∃ v, w.cell? ⟨0, 0, none⟩ = some (.int .i64 v)) ∧
  (m / 2 % 2 = 1 → Lib.TabIs Tryd.prog w "internal/strconv.uint64pow10" .u64 Lib.pow10Tab) ∧
  (m / 4 % 2 = 1 → Lib.TabIs Tryd.prog w "math/bits.deBruijn64tab" .u8 deBruijn64Tab) ∧
  True
theorem XW.stays {m : Nat} {w w' : World} (h : XW m w) (hb : Below w.heap.size w w') : XW m w' := by
  unfold XW at h ⊢
  obtain ⟨h1, h⟩ := h
  obtain ⟨h2, h⟩ := h
  obtain ⟨h3, h⟩ := h
  refine ⟨fun hm => ?_, ?_⟩
  · obtain ⟨v, hv⟩ := h1 hm
    exact ⟨v, (hb.cell (World.block_lt_of_cell? w _ hv)).trans hv⟩
  refine ⟨fun hm => Go.Joins.tab_stays (g := 5) (by kernel_rfl) (h2 hm) hb (Nat.le_refl _), ?_⟩
  refine ⟨fun hm => Go.Joins.tab_stays (g := 7) (by kernel_rfl) (h3 hm) hb (Nat.le_refl _), ?_⟩
  exact trivial
theorem XW.to {m m' : Nat} {w : World} (h : XW m w) (hs : (m' % 2 = 1 → m % 2 = 1) ∧ (m' / 2 % 2 = 1 → m / 2 % 2 = 1) ∧ (m' / 4 % 2 = 1 → m / 4 % 2 = 1)) : XW m' w := by
  unfold XW at h ⊢
  obtain ⟨s1, s2, s3⟩ := hs
  obtain ⟨h1, h⟩ := h
  obtain ⟨h2, h⟩ := h
  obtain ⟨h3, h⟩ := h
  refine ⟨fun hm => h1 (s1 hm), ?_⟩
  refine ⟨fun hm => h2 (s2 hm), ?_⟩
  refine ⟨fun hm => h3 (s3 hm), ?_⟩
  exact trivial
theorem XW.maxLen {m : Nat} {w : World} (h : XW m w) (hm : m % 2 = 1) : ∃ v, w.cell? ⟨0, 0, none⟩ = some (.int .i64 v) := by
  unfold XW at h
  exact h.1 hm
theorem XW.pow10 {m : Nat} {w : World} (h : XW m w) (hm : m / 2 % 2 = 1) : Lib.TabIs Tryd.prog w "internal/strconv.uint64pow10" .u64 Lib.pow10Tab := by
  unfold XW at h
  replace h := h.2
  exact h.1 hm
theorem XW.tz {m : Nat} {w : World} (h : XW m w) (hm : m / 4 % 2 = 1) : Lib.TabIs Tryd.prog w "math/bits.deBruijn64tab" .u8 deBruijn64Tab := by
  unfold XW at h
  replace h := h.2
  replace h := h.2
  exact h.1 hm
theorem ne_nil_isEmpty (l : List UInt8) : (l != ([] : List UInt8)) = !l.isEmpty := by cases l <;> rfl
theorem below_grow {w : World} (k : Nat) (os : Array Obj) : Below w.heap.size w (Go.Sort.grow (w.drewN k) os) := by
  have h := pw_below_drewN (Below.refl w.heap.size w) k
  refine ⟨h.os, h.tape, h.output, by rw [Go.Sort.size_grow]; exact Nat.le_trans h.size (Nat.le_add_right _ _), fun j hj => ?_⟩
  rw [← h.block j hj]
  show ((w.drewN k).heap ++ os)[j]? = _
  rw [Array.getElem?_append_left (Nat.lt_of_lt_of_le hj h.size)]

section
variable {P : Program} {ops : Array Oper} {o : Oper} {a : Act} {Q : Exit → Act → World → Prop} {K : Act → World → Prop}
theorem print_append_str_step {w0 W : World} (base : Nat) (hw : Region.wanted o (yielded ops a.tmps) = true) (s x : Operand) (t u e : TypeId)
    (ho : o.op = .call { callee := .builtin .append, args := #[s, x], argTypes := #[t, u] })
    (ht : P.underlying t = some (.slice e)) (hu : P.underlying u = some .string) (hinfo : (P.info? e).map (fun i => (i.zero, i.size, i.bytes)) = some (some (.int .u8 0), 1, 1))
    (v : Value) (xs : List Int) (y : ByteArray) (hs : a.eval s = v) (hx : a.eval x = .string y)
    (HO : W.ownsRow base e 1 v xs.length (nums .u8 xs)) (HB : Below base w0 W) (hbase : base ≤ W.heap.size) (hl : xs.length + y.size ≤ 140737488355328)
    (h : ∀ v1 w1, w1.ownsRow base e 1 v1 (xs ++ bytesOf y).length (nums .u8 (xs ++ bytesOf y)) → Below base w0 w1 → W.grownBy w1 v.ownBlock → K (a.put o.dst v1) w1) :
    if Region.wanted o (yielded ops a.tmps) = true then Oper.wp P o a W K Q else K (a.put o.dst undef) W := by
  obtain ⟨i0, hi, hzz⟩ := Option.map_eq_some_iff.1 hinfo
  simp only [Prod.mk.injEq] at hzz
  obtain ⟨hz0, hz1, hz2⟩ := hzz
  rw [if_pos hw]
  obtain ⟨v1, w1, hr, hown, hg, _⟩ := Lib.run_append_own_string (P := P) W base t u o.type e i0 ht hu hi hz0 hz1 hz2 v xs.length (nums .u8 xs) HO y (by simp only [maxLen]; omega) hl hbase
  unfold Oper.wp execOp
  simp only [ho, resolve, invoke, builtin, Sem.run_bind, Sem.run_pure, Result.andThen_ok, List.map_toArray, List.map_cons, List.map_nil, hs, hx, hr]
  have hl2 : (xs ++ bytesOf y).length = xs.length + y.size := by rw [List.length_append, bytesOf_length]
  have hc : nums .u8 (xs ++ bytesOf y) = nums .u8 xs ++ Lib.strCells y := by
    rw [nums_append]
    congr 1
    simp [nums, bytesOf, Lib.strCells]
  exact h v1 w1 (by rw [hl2, hc]; exact hown) (HB.grown hg hbase (own_base HO)) hg
end
end Go.Proofs.YtkaknffeoeoajaaDoor.P
namespace Go.Proofs.YtkaknffeoeoajaaDoor.RowAid
open Go

/-- What a list lays a variable with. -/
def laysAs (laid : List (String × DataW Unit)) (name : String) : Option (DataW Unit) :=
  match laid with
  | [] => none
  | x :: r => if x.1 = name then some x.2 else laysAs r name
theorem tabIs_mem {P : Program} {W : World} {name : String} {k : IntKind} {zs : List Int} {g : Nat} {t e : TypeId} {n : Nat}
    (hg : P.globalNamed name = some g) (hty : (P.globals[g]?).map (·.type) = some t) (ht : P.underlying t = some (.array n e)) (he : P.underlying e = some (.int k)) (hce : P.cellsOf e = 1) (hct : P.cellsOf t = n) :
    ∀ (laid : List (String × DataW Unit)) (ps : List MemPlace), DataW.LaidVars P W laid ps → laysAs laid name = some (Lib.tabData k zs) → Lib.TabIs P W name k zs := by
  intro laid
  induction laid with
  | nil => intro ps _ h; cases h
  | cons x r ih =>
    intro ps hl hm
    obtain ⟨nm, d⟩ := x
    obtain ⟨g', t', cs, fuel, p, q, hg', ht', hvar, hd, hr, _⟩ := hl
    unfold laysAs at hm
    by_cases hn : nm = name
    · subst hn
      rw [if_pos rfl] at hm
      obtain rfl : d = Lib.tabData k zs := Option.some.inj hm
      obtain rfl := Option.some.inj (hg.symm.trans hg')
      obtain rfl := Option.some.inj (hty.symm.trans ht')
      unfold Lib.TabIs
      rw [hvar, ← Lib.cells_of_tab ht he hce hct hd]
    · rw [if_neg hn] at hm
      exact ih q hr hm
theorem xw_of {m : Nat} {W : World} (hS : W.ShapedOpen Tryd.prog) (laid : List (String × DataW Unit)) (hL : laidMetH Tryd.prog laid W) (hp : (laid.all fun x => x.2.handleName?.isNone) = true)
    (h10 : m / 2 % 2 = 1 → laysAs laid "internal/strconv.uint64pow10" = some (Lib.tabData .u64 Lib.pow10Tab)) (htz : m / 4 % 2 = 1 → laysAs laid "math/bits.deBruijn64tab" = some (Lib.tabData .u8 P.deBruijn64Tab)) : P.XW m W := by
  rw [MakeChecks.laidMetH_plain _ _ _ hp] at hL
  obtain ⟨ps, hv, _⟩ := hL
  unfold P.XW
  refine ⟨fun _ => cell_of_shapedOpen_int (zero := #[.int .i64 0]) (t := 3) hS (of_decide_eq_true (by kernel_rfl)) (by kernel_rfl) rfl (by kernel_rfl) (by kernel_rfl) Tryd.underlying3, ?_⟩
  refine ⟨fun h => tabIs_mem (g := 5) (n := 20) (by kernel_rfl) rfl (by kernel_rfl) Tryd.underlying118 (by kernel_rfl) (by kernel_rfl) laid ps hv (h10 h), ?_⟩
  refine ⟨fun h => tabIs_mem (g := 7) (n := 64) (by kernel_rfl) rfl (by kernel_rfl) Tryd.underlying5 (by kernel_rfl) (by kernel_rfl) laid ps hv (htz h), ?_⟩
  trivial
end Go.Proofs.YtkaknffeoeoajaaDoor.RowAid
namespace Go.Proofs.YtkaknffeoeoajaaDoor.P
set_option linter.unusedVariables false
set_option linter.unusedSimpArgs false
open Go.RowKit Go.Lib Go.Proofs.YtkaknffeoeoajaaDoorW.PrintWords Go.Proofs.YtkaknffeoeoajaaDoorW.PrintLast Go.Proofs.YtkaknffeoeoajaaDoorW.PrintMore

/-- A digit's number, or -1. -/
def dgt (c : Int) : Int := if 48 ≤ c ∧ c ≤ 57 then c - 48 else if 97 ≤ c ∧ c ≤ 102 then c - 87 else if 65 ≤ c ∧ c ≤ 70 then c - 55 else -1
def numB (b : Int) (l : List Int) : Int := l.foldl (fun n c => n * b + dgt c) 0
def okB (b : Int) (l : List Int) : Bool := l.all fun c => decide (0 ≤ dgt c) && decide (dgt c < b)
theorem okB_at {b : Int} {l : List Int} (h : okB b l = true) (c : Int) (hc : c ∈ l) : 0 ≤ dgt c ∧ dgt c < b := by
  have := List.all_eq_true.1 h c hc
  simpa using this
theorem numB_snoc (b : Int) (l : List Int) (c : Int) : numB b (l ++ [c]) = numB b l * b + dgt c := by
  unfold numB
  rw [List.foldl_append]
  rfl
theorem numB_take {b : Int} {l : List Int} {k : Nat} (h : k < l.length) : numB b (l.take (k + 1)) = numB b (l.take k) * b + dgt (l.getD k 0) := by
  rw [List.take_add_one, List.getD_eq_getElem?_getD, List.getElem?_eq_getElem h]
  exact numB_snoc _ _ _
theorem lowerBits (c v : Int) (h : (97 ≤ c ∧ c ≤ 102 ∧ v = c) ∨ (65 ≤ c ∧ c ≤ 70 ∧ v = c + 32)) : Go.bits .or .u8 c 32 = v := by
  have hc : c = 97 ∨ c = 98 ∨ c = 99 ∨ c = 100 ∨ c = 101 ∨ c = 102 ∨ c = 65 ∨ c = 66 ∨ c = 67 ∨ c = 68 ∨ c = 69 ∨ c = 70 := by omega
  rcases hc with rfl | rfl | rfl | rfl | rfl | rfl | rfl | rfl | rfl | rfl | rfl | rfl
  all_goals
    first
    | (have : v = 97 := by omega
       subst this; decide +kernel)
    | (have : v = 98 := by omega
       subst this; decide +kernel)
    | (have : v = 99 := by omega
       subst this; decide +kernel)
    | (have : v = 100 := by omega
       subst this; decide +kernel)
    | (have : v = 101 := by omega
       subst this; decide +kernel)
    | (have : v = 102 := by omega
       subst this; decide +kernel)
theorem numB_bound (b : Int) (l : List Int) (hb : 0 ≤ b) (h : okB b l = true) (k : Nat) : 0 ≤ numB b (l.take k) ∧ numB b (l.take k) < b ^ (min k l.length) := by
  induction k with
  | zero => simp [numB]
  | succ k ih =>
    by_cases hk : k < l.length
    · rw [numB_take hk]
      have hm : l.getD k 0 ∈ l := by
        rw [List.getD_eq_getElem?_getD, List.getElem?_eq_getElem hk]
        exact List.getElem_mem hk
      obtain ⟨d0, d1⟩ := okB_at h _ hm
      obtain ⟨i0, i1⟩ := ih
      rw [Nat.min_eq_left (by omega)] at i1
      rw [Nat.min_eq_left (by omega), Int.pow_succ]
      have h1 : numB b (l.take k) * b + b ≤ b ^ k * b := by
        have : (numB b (l.take k) + 1) * b ≤ b ^ k * b := Int.mul_le_mul_of_nonneg_right (by omega) hb
        rw [Int.add_mul, Int.one_mul] at this
        exact this
      have h2 : 0 ≤ numB b (l.take k) * b := Int.mul_nonneg i0 hb
      omega
    · rw [List.take_of_length_le (by omega), Nat.min_eq_right (by omega)]
      rw [List.take_of_length_le (by omega), Nat.min_eq_right (by omega)] at ih
      exact ih
theorem pow_small {b : Int} (hb : b = 10 ∨ b = 16) {k m : Nat} (hm : (b = 10 ∧ m ≤ 15) ∨ (b = 16 ∧ m ≤ 13)) (hk : k ≤ m) : b ^ k ≤ 4503599627370496 := by
  rcases hm with ⟨rfl, h⟩ | ⟨rfl, h⟩
  · have : k = 0 ∨ k = 1 ∨ k = 2 ∨ k = 3 ∨ k = 4 ∨ k = 5 ∨ k = 6 ∨ k = 7 ∨ k = 8 ∨ k = 9 ∨ k = 10 ∨ k = 11 ∨ k = 12 ∨ k = 13 ∨ k = 14 ∨ k = 15 := by omega
    rcases this with rfl | rfl | rfl | rfl | rfl | rfl | rfl | rfl | rfl | rfl | rfl | rfl | rfl | rfl | rfl | rfl <;> decide +kernel
  · have : k = 0 ∨ k = 1 ∨ k = 2 ∨ k = 3 ∨ k = 4 ∨ k = 5 ∨ k = 6 ∨ k = 7 ∨ k = 8 ∨ k = 9 ∨ k = 10 ∨ k = 11 ∨ k = 12 ∨ k = 13 := by omega
    rcases this with rfl | rfl | rfl | rfl | rfl | rfl | rfl | rfl | rfl | rfl | rfl | rfl | rfl | rfl <;> decide +kernel

set_option maxHeartbeats 8000000 in
set_option maxRecDepth 100000 in
theorem ParseUint16 (t : ByteArray) (hne : t.size ≠ 0) (h13 : t.size ≤ 13) (hok : okB 16 (bytesOf t) = true) (w : World) :
    Calls Tryd.prog 120 #[.string t, .int .i64 16, .int .i64 64] w fun e w' => e = .returned (.tuple #[.int .u64 (numB 16 (bytesOf t)), .nilIface]) ∧ w' = Lib.bytesWorld w 5 t := by
  have hemp : t.toList.isEmpty = false := by
    rw [← decide_eq_emptyBytes]
    exact decide_eq_false (fun h => hne (by rw [h]; rfl))
  have hcv := Lib.run_convert_string_bytes (P := Tryd.prog) w 9 22 5 t Tryd.underlying9 Tryd.underlying22 Tryd.underlying5
  have hB : ∀ j, j < t.size → (Lib.bytesWorld w 5 t).cell? ⟨w.heap.size, j, none⟩ = some (.int .u8 (bt t j)) := fun j hj => by
    rw [Lib.bytesWorld_cell w 5 t j hj]
    have : bt t j = ((t.data.toList.getD j 0).toNat : Int) := by
      rw [← rd_bytesOf]
      have h' : j < t.data.toList.length := by rw [data_length]; exact hj
      simp [rd, bytesOf, List.getD_eq_getElem?_getD, List.getElem?_eq_getElem h']
    rw [← this]
  obtain ⟨W1, hW1⟩ : ∃ W1, W1 = Lib.bytesWorld w 5 t := ⟨_, rfl⟩
  rw [← hW1] at hcv hB ⊢
  clear hW1
  have hlen : (bytesOf t).length = t.size := bytesOf_length t
  have hget : ∀ k, (bytesOf t).getD k 0 = bt t k := fun k => by rw [← rd_bytesOf]; simp [rd]
  have HA : Hid (∀ k, k < t.size → (0 ≤ dgt (bt t k) ∧ dgt (bt t k) < 16) ∧ (0 ≤ numB 16 ((bytesOf t).take k) ∧ numB 16 ((bytesOf t).take k) < 4503599627370496) ∧ numB 16 ((bytesOf t).take (k + 1)) = numB 16 ((bytesOf t).take k) * 16 + dgt (bt t k)) := Lib.hid fun k hk => by
    have hm : (bytesOf t).getD k 0 ∈ bytesOf t := by
      rw [List.getD_eq_getElem?_getD, List.getElem?_eq_getElem (by omega)]
      exact List.getElem_mem (by omega)
    have h1 := okB_at hok _ hm
    rw [hget] at h1
    have h2 := numB_bound 16 (bytesOf t) (by decide) hok k
    have h3 := pow_small (b := 16) (.inr rfl) (m := 13) (.inr ⟨rfl, Nat.le_refl _⟩) (k := min k (bytesOf t).length) (by omega)
    have h4 := numB_take (b := 16) (l := bytesOf t) (k := k) (by omega)
    rw [hget] at h4
    exact ⟨h1, ⟨h2.1, by omega⟩, h4⟩
  have HE : Hid (numB 16 ((bytesOf t).take t.size) = numB 16 (bytesOf t)) := Lib.hid (by rw [← hlen, List.take_length])
  have HZ : Hid (numB 16 ((bytesOf t).take 0) = 0) := Lib.hid rfl
  clear hok hget hlen
  have hmv : IntKind.u64.wrap (IntKind.u64.wrap 18446744073709551616 - 1) = 18446744073709551615 := by
    rw [IntKind.wrap_u64, IntKind.wrap_u64]
    decide
  go_enter Tryd.func120, Tryd.ntmps120
  go_wp2
  go_loop [12, 13, 101] (fun vu vn vi => ∃ (k : Nat) (a : Int), vu = .bool false ∧ vn = .int .u64 a ∧ vi = .int .i64 k ∧ k ≤ t.size ∧ Hid (a = numB 16 ((bytesOf t).take k)))
    (fun _ _ vi => t.size - (Go.RowKit.intOf vi).toNat)
  case atStart => exact ⟨0, 0, rfl, rfl, rfl, by omega, HZ⟩
  case round =>
    obtain ⟨k, a, rfl, rfl, rfl, hk, hh⟩ := hrel
    by_cases hkn : k < t.size
    · have hc := hB k hkn
      have hr := bt_range t k
      obtain ⟨⟨d0, d1⟩, ⟨b0, b1⟩, hnx⟩ := HA.out k hkn
      rw [← hh.out] at b0 b1 hnx
      obtain ⟨c, hcc⟩ : ∃ c, bt t k = c := ⟨_, rfl⟩
      rw [hcc] at hc hr d0 d1 hnx
      obtain ⟨r0, r1⟩ := hr
      clear hcc hB hh
      by_cases hdig : 48 ≤ c ∧ c ≤ 57
      · obtain ⟨g0, g1⟩ := hdig
        have hd : dgt c = c - 48 := by unfold dgt; rw [if_pos ⟨g0, g1⟩]
        rw [hd] at hnx
        clear d0 d1 hd
        have iov : a * 16 + (c - 48) < 18446744073709551616 := by omega
        have HN : Hid (a * 16 + (c - 48) = numB 16 ((bytesOf t).take (k + 1))) := Lib.hid hnx.symm
        clear hnx
        go_wp2
        refine ⟨⟨k + 1, a * 16 + (c - 48), rfl, (by first | rfl | (congr 1; omega)), (by first | rfl | (congr 1; omega)), by omega, HN⟩, by simp [Go.RowKit.intOf]; omega⟩
      · have hv : ∃ v, Go.bits .or .u8 c 32 = v ∧ 97 ≤ v ∧ v ≤ 102 ∧ dgt c = v - 87 := by
          unfold dgt at d0 ⊢
          rw [if_neg hdig] at d0 ⊢
          by_cases h1 : 97 ≤ c ∧ c ≤ 102
          · rw [if_pos h1]
            exact ⟨c, lowerBits c c (.inl ⟨h1.1, h1.2, rfl⟩), h1.1, h1.2, rfl⟩
          · rw [if_neg h1] at d0 ⊢
            by_cases h2 : 65 ≤ c ∧ c ≤ 70
            · rw [if_pos h2]
              exact ⟨c + 32, lowerBits c _ (.inr ⟨h2.1, h2.2, rfl⟩), by omega, by omega, by omega⟩
            · rw [if_neg h2] at d0
              omega
        obtain ⟨v, hv0, v0, v1, hd⟩ := hv
        have hnd : ¬ (48 ≤ c ∧ c ≤ 57) := hdig
        have hc57 : (c < 48) ∨ (57 < c) := by omega
        have hcl : (65 ≤ c ∧ c ≤ 70) ∨ (97 ≤ c ∧ c ≤ 102) := by
          unfold dgt at d0
          rw [if_neg hdig] at d0
          by_cases h1 : 97 ≤ c ∧ c ≤ 102
          · exact .inr h1
          · rw [if_neg h1] at d0
            by_cases h2 : 65 ≤ c ∧ c ≤ 70
            · exact .inl h2
            · rw [if_neg h2] at d0; omega
        have c95 : ¬ c = 95 := by omega
        have c48 : 57 < c := by omega
        have c47 : 48 ≤ c := by omega
        have c58 : ¬ c ≤ 57 := by omega
        have v122 : v ≤ 122 := by omega
        rw [hd] at hnx
        clear d0 d1 hd hdig hnd hc57 hcl
        have iov : a * 16 + (v - 87) < 18446744073709551616 := by omega
        have HN : Hid (a * 16 + (v - 97 + 10) = numB 16 ((bytesOf t).take (k + 1))) := Lib.hid (by rw [hnx]; omega)
        clear hnx
        go_wp2
        refine ⟨⟨k + 1, a * 16 + (v - 97 + 10), rfl, (by first | rfl | (congr 1; omega)), (by first | rfl | (congr 1; omega)), by omega, HN⟩, by simp [Go.RowKit.intOf]; omega⟩
    · have hkk : k = t.size := by omega
      subst hkk
      have hE := HE.out
      have hE2 := hh.out.trans hE
      clear hE hh HA HE HZ hB hcv
      subst hE2
      go_wp2
      go_ret2
      exact ⟨rfl, rfl⟩
set_option maxHeartbeats 8000000 in
set_option maxRecDepth 100000 in
theorem ParseUint10 (t : ByteArray) (hne : t.size ≠ 0) (h13 : t.size ≤ 15) (hok : okB 10 (bytesOf t) = true) (w : World) :
    Calls Tryd.prog 120 #[.string t, .int .i64 10, .int .i64 64] w fun e w' => e = .returned (.tuple #[.int .u64 (numB 10 (bytesOf t)), .nilIface]) ∧ w' = Lib.bytesWorld w 5 t := by
  have hemp : t.toList.isEmpty = false := by
    rw [← decide_eq_emptyBytes]
    exact decide_eq_false (fun h => hne (by rw [h]; rfl))
  have hcv := Lib.run_convert_string_bytes (P := Tryd.prog) w 9 22 5 t Tryd.underlying9 Tryd.underlying22 Tryd.underlying5
  have hB : ∀ j, j < t.size → (Lib.bytesWorld w 5 t).cell? ⟨w.heap.size, j, none⟩ = some (.int .u8 (bt t j)) := fun j hj => by
    rw [Lib.bytesWorld_cell w 5 t j hj]
    have : bt t j = ((t.data.toList.getD j 0).toNat : Int) := by
      rw [← rd_bytesOf]
      have h' : j < t.data.toList.length := by rw [data_length]; exact hj
      simp [rd, bytesOf, List.getD_eq_getElem?_getD, List.getElem?_eq_getElem h']
    rw [← this]
  obtain ⟨W1, hW1⟩ : ∃ W1, W1 = Lib.bytesWorld w 5 t := ⟨_, rfl⟩
  rw [← hW1] at hcv hB ⊢
  clear hW1
  have hlen : (bytesOf t).length = t.size := bytesOf_length t
  have hget : ∀ k, (bytesOf t).getD k 0 = bt t k := fun k => by rw [← rd_bytesOf]; simp [rd]
  have HA : Hid (∀ k, k < t.size → (0 ≤ dgt (bt t k) ∧ dgt (bt t k) < 10) ∧ (0 ≤ numB 10 ((bytesOf t).take k) ∧ numB 10 ((bytesOf t).take k) < 4503599627370496) ∧ numB 10 ((bytesOf t).take (k + 1)) = numB 10 ((bytesOf t).take k) * 10 + dgt (bt t k)) := Lib.hid fun k hk => by
    have hm : (bytesOf t).getD k 0 ∈ bytesOf t := by
      rw [List.getD_eq_getElem?_getD, List.getElem?_eq_getElem (by omega)]
      exact List.getElem_mem (by omega)
    have h1 := okB_at hok _ hm
    rw [hget] at h1
    have h2 := numB_bound 10 (bytesOf t) (by decide) hok k
    have h3 := pow_small (b := 10) (.inl rfl) (m := 15) (.inl ⟨rfl, Nat.le_refl _⟩) (k := min k (bytesOf t).length) (by omega)
    have h4 := numB_take (b := 10) (l := bytesOf t) (k := k) (by omega)
    rw [hget] at h4
    exact ⟨h1, ⟨h2.1, by omega⟩, h4⟩
  have HE : Hid (numB 10 ((bytesOf t).take t.size) = numB 10 (bytesOf t)) := Lib.hid (by rw [← hlen, List.take_length])
  have HZ : Hid (numB 10 ((bytesOf t).take 0) = 0) := Lib.hid rfl
  clear hok hget hlen
  have hmv : IntKind.u64.wrap (IntKind.u64.wrap 18446744073709551616 - 1) = 18446744073709551615 := by
    rw [IntKind.wrap_u64, IntKind.wrap_u64]
    decide
  go_enter Tryd.func120, Tryd.ntmps120
  go_wp2
  go_loop [12, 13, 101] (fun vu vn vi => ∃ (k : Nat) (a : Int), vu = .bool false ∧ vn = .int .u64 a ∧ vi = .int .i64 k ∧ k ≤ t.size ∧ Hid (a = numB 10 ((bytesOf t).take k)))
    (fun _ _ vi => t.size - (Go.RowKit.intOf vi).toNat)
  case atStart => exact ⟨0, 0, rfl, rfl, rfl, by omega, HZ⟩
  case round =>
    obtain ⟨k, a, rfl, rfl, rfl, hk, hh⟩ := hrel
    by_cases hkn : k < t.size
    · have hc := hB k hkn
      have hr := bt_range t k
      obtain ⟨⟨d0, d1⟩, ⟨b0, b1⟩, hnx⟩ := HA.out k hkn
      rw [← hh.out] at b0 b1 hnx
      obtain ⟨c, hcc⟩ : ∃ c, bt t k = c := ⟨_, rfl⟩
      rw [hcc] at hc hr d0 d1 hnx
      obtain ⟨r0, r1⟩ := hr
      clear hcc hB hh
      have hg : 48 ≤ c ∧ c ≤ 57 := by
        unfold dgt at d0 d1
        by_cases h0 : 48 ≤ c ∧ c ≤ 57
        · exact h0
        · rw [if_neg h0] at d0 d1
          by_cases h1 : 97 ≤ c ∧ c ≤ 102
          · rw [if_pos h1] at d1; omega
          · rw [if_neg h1] at d0 d1
            by_cases h2 : 65 ≤ c ∧ c ≤ 70
            · rw [if_pos h2] at d1; omega
            · rw [if_neg h2] at d0; omega
      obtain ⟨g0, g1⟩ := hg
      have hd : dgt c = c - 48 := by unfold dgt; rw [if_pos ⟨g0, g1⟩]
      rw [hd] at hnx
      clear d0 d1 hd
      have iov : a * 10 + (c - 48) < 18446744073709551616 := by omega
      have HN : Hid (a * 10 + (c - 48) = numB 10 ((bytesOf t).take (k + 1))) := Lib.hid hnx.symm
      clear hnx
      go_wp2
      refine ⟨⟨k + 1, a * 10 + (c - 48), rfl, (by first | rfl | (congr 1; omega)), (by first | rfl | (congr 1; omega)), by omega, HN⟩, by simp [Go.RowKit.intOf]; omega⟩
    · have hkk : k = t.size := by omega
      subst hkk
      have hE := HE.out
      have hE2 := hh.out.trans hE
      clear hE hh HA HE HZ hB hcv
      subst hE2
      go_wp2
      go_ret2
      exact ⟨rfl, rfl⟩

set_option maxHeartbeats 8000000 in
set_option maxRecDepth 100000 in
theorem ParseIntIn16 (t : ByteArray) (hne : t.size ≠ 0) (h13 : t.size ≤ 13) (hok : okB 16 (bytesOf t) = true) (w : World) :
    Calls Tryd.prog 102 #[.string t, .int .i64 16, .int .i64 64] w fun e w' => e = .returned (.tuple #[.int .i64 (numB 16 (bytesOf t)), .nilIface]) ∧ w' = Lib.bytesWorld w 5 t := by
  have hU := ParseUint16 t hne h13 hok w
  have hemp : t.toList.isEmpty = false := by
    rw [← decide_eq_emptyBytes]
    exact decide_eq_false (fun h => hne (by rw [h]; rfl))
  have hlen : (bytesOf t).length = t.size := bytesOf_length t
  have hb := numB_bound 16 (bytesOf t) (by decide) hok t.size
  have hp := pow_small (b := 16) (.inr rfl) (m := 13) (.inr ⟨rfl, Nat.le_refl _⟩) (k := t.size) h13
  rw [← hlen, List.take_length, hlen, Nat.min_self] at hb
  have hpos : 0 < t.size := by omega
  have hm : (bytesOf t).getD 0 0 ∈ bytesOf t := by
    rw [List.getD_eq_getElem?_getD, List.getElem?_eq_getElem (by omega)]
    exact List.getElem_mem (by omega)
  have h1 := okB_at hok _ hm
  obtain ⟨c0, hs0, hc0⟩ : ∃ c0 : UInt8, t[0]'hpos = c0 ∧ (bytesOf t).getD 0 0 = (c0.toNat : Int) := by
    refine ⟨_, rfl, ?_⟩
    have h' : 0 < t.data.toList.length := by rw [data_length]; exact hpos
    simp only [bytesOf, List.getD_eq_getElem?_getD, List.getElem?_map, List.getElem?_eq_getElem h', Option.map_some, Option.getD_some]
    rfl
  rw [hc0] at h1
  have i43 : ¬ (c0.toNat : Int) = 43 := by
    intro h
    rw [h] at h1
    exact absurd h1.1 (by decide)
  have i45 : ¬ (c0.toNat : Int) = 45 := by
    intro h
    rw [h] at h1
    exact absurd h1.1 (by decide)
  obtain ⟨a, ha⟩ : ∃ a : Int, numB 16 (bytesOf t) = a := ⟨_, rfl⟩
  rw [ha] at hU hb ⊢
  obtain ⟨a0, a1⟩ := hb
  have iin : a < 9223372036854775808 := by omega
  have a2 : a ≤ 18446744073709551615 := by omega
  clear ha h1 hm hp a1 hc0 hok hlen
  go_enter Tryd.func102, Tryd.ntmps102
  go_wp2_with (go_at_call 120; refine hU.mono ?_; rintro e w1 ⟨rfl, rfl⟩)
  go_wp2
  go_ret2
  exact ⟨rfl, rfl⟩
set_option maxHeartbeats 8000000 in
set_option maxRecDepth 100000 in
theorem ParseInt16 (t : ByteArray) (hne : t.size ≠ 0) (h13 : t.size ≤ 13) (hok : okB 16 (bytesOf t) = true) (w : World) :
    Calls Tryd.prog 76 #[.string t, .int .i64 16, .int .i64 64] w fun e w' => e = .returned (.tuple #[.int .i64 (numB 16 (bytesOf t)), .nilIface]) ∧ w' = Lib.bytesWorld w 5 t := by
  have hI := ParseIntIn16 t hne h13 hok w
  clear hok
  go_enter Tryd.func76, Tryd.ntmps76
  go_wp2_with (go_at_call 102; refine hI.mono ?_; rintro e w1 ⟨rfl, rfl⟩)
  go_wp2
  go_ret2
  exact ⟨rfl, rfl⟩

set_option maxHeartbeats 8000000 in
set_option maxRecDepth 100000 in
theorem ParseIntIn10 (t : ByteArray) (hne : t.size ≠ 0) (h13 : t.size ≤ 15) (hok : okB 10 (bytesOf t) = true) (w : World) :
    Calls Tryd.prog 102 #[.string t, .int .i64 10, .int .i64 64] w fun e w' => e = .returned (.tuple #[.int .i64 (numB 10 (bytesOf t)), .nilIface]) ∧ w' = Lib.bytesWorld w 5 t := by
  have hU := ParseUint10 t hne h13 hok w
  have hemp : t.toList.isEmpty = false := by
    rw [← decide_eq_emptyBytes]
    exact decide_eq_false (fun h => hne (by rw [h]; rfl))
  have hlen : (bytesOf t).length = t.size := bytesOf_length t
  have hb := numB_bound 10 (bytesOf t) (by decide) hok t.size
  have hp := pow_small (b := 10) (.inl rfl) (m := 15) (.inl ⟨rfl, Nat.le_refl _⟩) (k := t.size) h13
  rw [← hlen, List.take_length, hlen, Nat.min_self] at hb
  have hpos : 0 < t.size := by omega
  have hm : (bytesOf t).getD 0 0 ∈ bytesOf t := by
    rw [List.getD_eq_getElem?_getD, List.getElem?_eq_getElem (by omega)]
    exact List.getElem_mem (by omega)
  have h1 := okB_at hok _ hm
  obtain ⟨c0, hs0, hc0⟩ : ∃ c0 : UInt8, t[0]'hpos = c0 ∧ (bytesOf t).getD 0 0 = (c0.toNat : Int) := by
    refine ⟨_, rfl, ?_⟩
    have h' : 0 < t.data.toList.length := by rw [data_length]; exact hpos
    simp only [bytesOf, List.getD_eq_getElem?_getD, List.getElem?_map, List.getElem?_eq_getElem h', Option.map_some, Option.getD_some]
    rfl
  rw [hc0] at h1
  have i43 : ¬ (c0.toNat : Int) = 43 := by
    intro h
    rw [h] at h1
    exact absurd h1.1 (by decide)
  have i45 : ¬ (c0.toNat : Int) = 45 := by
    intro h
    rw [h] at h1
    exact absurd h1.1 (by decide)
  obtain ⟨a, ha⟩ : ∃ a : Int, numB 10 (bytesOf t) = a := ⟨_, rfl⟩
  rw [ha] at hU hb ⊢
  obtain ⟨a0, a1⟩ := hb
  have iin : a < 9223372036854775808 := by omega
  have a2 : a ≤ 18446744073709551615 := by omega
  clear ha h1 hm hp a1 hc0 hok hlen
  go_enter Tryd.func102, Tryd.ntmps102
  go_wp2_with (go_at_call 120; refine hU.mono ?_; rintro e w1 ⟨rfl, rfl⟩)
  go_wp2
  go_ret2
  exact ⟨rfl, rfl⟩
set_option maxHeartbeats 8000000 in
set_option maxRecDepth 100000 in
theorem ParseInt10 (t : ByteArray) (hne : t.size ≠ 0) (h13 : t.size ≤ 15) (hok : okB 10 (bytesOf t) = true) (w : World) :
    Calls Tryd.prog 76 #[.string t, .int .i64 10, .int .i64 64] w fun e w' => e = .returned (.tuple #[.int .i64 (numB 10 (bytesOf t)), .nilIface]) ∧ w' = Lib.bytesWorld w 5 t := by
  have hI := ParseIntIn10 t hne h13 hok w
  clear hok
  go_enter Tryd.func76, Tryd.ntmps76
  go_wp2_with (go_at_call 102; refine hI.mono ?_; rintro e w1 ⟨rfl, rfl⟩)
  go_wp2
  go_ret2
  exact ⟨rfl, rfl⟩

/-- What is told of strconv.ParseInt: the number of few digits at base 10 or 16. -/
def strconv_ParseInt.f (a0 : ByteArray) (a1 a2 : Int) : Option (Int × Option Int) :=
  if a2 = 64 ∧ a0.size ≠ 0 ∧ okB a1 (bytesOf a0) = true ∧ ((a1 = 16 ∧ a0.size ≤ 13) ∨ (a1 = 10 ∧ a0.size ≤ 15)) then some (numB a1 (bytesOf a0), none) else none
theorem strconv_ParseInt.calls (a0 : ByteArray) (a1 a2 : Int) (r1 : Int) (r2 : Option Int) (w : World) (h : strconv_ParseInt.f a0 a1 a2 = some (r1, r2)) :
    Calls Tryd.prog 76 #[.string a0, .int .i64 a1, .int .i64 a2] w fun e w' => e = .returned (.tuple #[.int .i64 r1, errW r2]) ∧ Below w.heap.size w w' := by
  unfold strconv_ParseInt.f at h
  split at h
  · rename_i hc
    obtain ⟨rfl, hne, hok, hb⟩ := hc
    have e := Option.some.inj h
    rw [Prod.mk.injEq] at e
    obtain ⟨rfl, rfl⟩ := e
    rcases hb with ⟨rfl, hs⟩ | ⟨rfl, hs⟩
    · refine (ParseInt16 a0 hne hs hok w).mono ?_
      rintro e w' ⟨rfl, rfl⟩
      exact ⟨rfl, Lib.bytesWorld_below _ _ _⟩
    · refine (ParseInt10 a0 hne hs hok w).mono ?_
      rintro e w' ⟨rfl, rfl⟩
      exact ⟨rfl, Lib.bytesWorld_below _ _ _⟩
  · cases h
end Go.Proofs.YtkaknffeoeoajaaDoor.P
namespace Go.Proofs.YtkaknffeoeoajaaDoor.P
open Go.RowKit Go.Proofs.YtkaknffeoeoajaaDoorW.PrintWords Go.Proofs.YtkaknffeoeoajaaDoorW.PrintLast Go.Proofs.YtkaknffeoeoajaaDoorW.PrintMore

def strings_IndexByte.f (a0 : ByteArray) (a1 : Int) : Option Int := some (Lib.indexByte a0.data.toList a1.toNat.toUInt8)
theorem strings_IndexByte.calls (a0 : ByteArray) (a1 : Int) (r : Int) (w : World) (h : strings_IndexByte.f a0 a1 = some r) :
    Calls Tryd.prog 83 #[.string a0, .int .u8 a1] w fun e w' => e = .returned (.int .i64 r) ∧ Drawn0 w w' := by
  obtain rfl := Option.some.inj h
  refine (Go.Proofs.Tryd.strings_IndexByte a0 a1 w).mono ?_
  rintro e w' ⟨rfl, rfl⟩
  exact ⟨rfl, Drawn0.refl _⟩
end Go.Proofs.YtkaknffeoeoajaaDoor.P
namespace Go.Proofs.YtkaknffeoeoajaaDoor.P
open Go.RowKit Go.Proofs.YtkaknffeoeoajaaDoorW.PrintWords Go.Proofs.YtkaknffeoeoajaaDoorW.PrintLast Go.Proofs.YtkaknffeoeoajaaDoorW.PrintMore
attribute [local go_sem] max2_int min2_int max_two min_two max_three min_three max_four min_four   -- for this text's walks alone
set_option linter.unusedVariables false
set_option linter.unusedSimpArgs false

/-! ### impl_isDigit: function 75 -/
def impl_isDigit.f (a0 : Int) : Option (Bool) := if a0 ≥ 48 then (some (decide (a0 ≤ 57))) else (some false)
set_option maxHeartbeats 8000000 in
set_option maxRecDepth 100000 in
theorem impl_isDigit.calls (a0 : Int) (r : Bool) (w : World) (h : impl_isDigit.f a0 = some r) :
  Calls Tryd.prog 75 #[.int .u8 a0] w fun e w' => e = .returned (.bool r) ∧ Drawn0 w w' := by
 have H : (if a0 ≥ 48 then (some (decide (a0 ≤ 57))) else (some false)) = some r := h
 clear h
 by_cases c2 : a0 ≥ 48
 ·
  rw [if_pos c2] at H
  have c2b0 : decide (48 ≤ a0) = true := decide_eq_true c2
  clear c2
  obtain rfl := Option.some.inj H
  go_enter Tryd.func75, Tryd.ntmps75
  go_wp2
  go_ret
  exact ⟨by first | rfl | (simp; done) | (simp [*]; done), by repeat (first | exact Drawn0.refl _ | apply Drawn0.step)⟩
 ·
  rw [if_neg c2] at H
  have c2b0 : decide (48 ≤ a0) = false := decide_eq_false c2
  clear c2
  obtain rfl := Option.some.inj H
  go_enter Tryd.func75, Tryd.ntmps75
  go_wp2
  go_ret
  exact ⟨by first | rfl | (simp; done) | (simp [*]; done), by repeat (first | exact Drawn0.refl _ | apply Drawn0.step)⟩
/-! ### impl_isLetter: function 82 -/
def impl_isLetter.f (a0 : Int) : Option (Bool) := if a0 ≥ 97 then (if a0 ≤ 122 then (some true) else (if a0 ≥ 65 then (some (decide (a0 ≤ 90))) else (some false))) else (if a0 ≥ 65 then (some (decide (a0 ≤ 90))) else (some false))
set_option maxHeartbeats 8000000 in
set_option maxRecDepth 100000 in
theorem impl_isLetter.calls (a0 : Int) (r : Bool) (w : World) (h : impl_isLetter.f a0 = some r) :
  Calls Tryd.prog 82 #[.int .u8 a0] w fun e w' => e = .returned (.bool r) ∧ Drawn0 w w' := by
 have H : (if a0 ≥ 97 then (if a0 ≤ 122 then (some true) else (if a0 ≥ 65 then (some (decide (a0 ≤ 90))) else (some false))) else (if a0 ≥ 65 then (some (decide (a0 ≤ 90))) else (some false))) = some r := h
 clear h
 by_cases c2 : a0 ≥ 97
 ·
  rw [if_pos c2] at H
  have c2b0 : decide (97 ≤ a0) = true := decide_eq_true c2
  clear c2
  by_cases c3 : a0 ≤ 122
  ·
   rw [if_pos c3] at H
   have c3b0 : decide (a0 ≤ 122) = true := decide_eq_true c3
   clear c3
   obtain rfl := Option.some.inj H
   go_enter Tryd.func82, Tryd.ntmps82
   go_wp2
   go_ret
   exact ⟨by first | rfl | (simp; done) | (simp [*]; done), by repeat (first | exact Drawn0.refl _ | apply Drawn0.step)⟩
  ·
   rw [if_neg c3] at H
   have c3b0 : decide (a0 ≤ 122) = false := decide_eq_false c3
   clear c3
   by_cases c4 : a0 ≥ 65
   ·
    rw [if_pos c4] at H
    have c4b0 : decide (65 ≤ a0) = true := decide_eq_true c4
    clear c4
    obtain rfl := Option.some.inj H
    go_enter Tryd.func82, Tryd.ntmps82
    go_wp2
    go_ret
    exact ⟨by first | rfl | (simp; done) | (simp [*]; done), by repeat (first | exact Drawn0.refl _ | apply Drawn0.step)⟩
   ·
    rw [if_neg c4] at H
    have c4b0 : decide (65 ≤ a0) = false := decide_eq_false c4
    clear c4
    obtain rfl := Option.some.inj H
    go_enter Tryd.func82, Tryd.ntmps82
    go_wp2
    go_ret
    exact ⟨by first | rfl | (simp; done) | (simp [*]; done), by repeat (first | exact Drawn0.refl _ | apply Drawn0.step)⟩
 ·
  rw [if_neg c2] at H
  have c2b0 : decide (97 ≤ a0) = false := decide_eq_false c2
  clear c2
  by_cases c5 : a0 ≥ 65
  ·
   rw [if_pos c5] at H
   have c5b0 : decide (65 ≤ a0) = true := decide_eq_true c5
   clear c5
   obtain rfl := Option.some.inj H
   go_enter Tryd.func82, Tryd.ntmps82
   go_wp2
   go_ret
   exact ⟨by first | rfl | (simp; done) | (simp [*]; done), by repeat (first | exact Drawn0.refl _ | apply Drawn0.step)⟩
  ·
   rw [if_neg c5] at H
   have c5b0 : decide (65 ≤ a0) = false := decide_eq_false c5
   clear c5
   obtain rfl := Option.some.inj H
   go_enter Tryd.func82, Tryd.ntmps82
   go_wp2
   go_ret
   exact ⟨by first | rfl | (simp; done) | (simp [*]; done), by repeat (first | exact Drawn0.refl _ | apply Drawn0.step)⟩
/-! ### impl_TokenOk_1: function 81 -/
def impl_TokenOk_1.f (a0 : Int) : Option (Bool) := (impl_isLetter.f a0).bind fun t101 => (if t101 = true then (some true) else ((impl_isDigit.f a0).bind fun t102 => (if t102 = true then (some true) else ((strings_IndexByte.f (⟨#[33, 35, 36, 37, 38, 39, 42, 43, 45, 46, 94, 95, 124, 126, 96]⟩ : ByteArray) a0).bind fun t103 => (some (decide (t103 ≥ 0)))))))
set_option maxHeartbeats 8000000 in
set_option maxRecDepth 100000 in
theorem impl_TokenOk_1.calls (a0 : Int) (r : Bool) (w : World) (h : impl_TokenOk_1.f a0 = some r) :
  Calls Tryd.prog 81 #[.int .u8 a0] w fun e w' => e = .returned (.bool r) ∧ Drawn0 w w' := by
 have H := h
 unfold impl_TokenOk_1.f at H
 clear h
 obtain ⟨t101, A20, H⟩ := Option.bind_eq_some_iff.mp H
 try dsimp only at H
 have A2 := Aside0.mk A20
 clear A20
 by_cases c3 : t101 = true
 ·
  subst c3
  have H1 : (some true) = some r := by rw [if_pos rfl] at H; exact H
  clear H
  have H := H1
  clear H1
  obtain rfl := Option.some.inj H
  go_enter Tryd.func81, Tryd.ntmps81
  go_wp2_with (first | ((with_reducible refine gate_callee (f := 82) rfl ?_); refine goesL_ (some 4) rfl rfl Tryd.func82 (by kernel_rfl) rfl #[.int .u8 a0] rfl mc ?_; (with_reducible refine (impl_isLetter.calls a0 true _ A2.out).mono ?_); rintro e w' ⟨rfl, ⟨nd, rfl⟩⟩; refine ⟨_, rfl, ?_⟩))
  go_ret
  exact ⟨by first | rfl | (simp; done) | (simp [*]; done), by repeat (first | exact Drawn0.refl _ | apply Drawn0.step)⟩
 ·
  replace c3 := Bool.eq_false_iff.mpr c3
  subst c3
  rw [if_neg (show ¬ (false = true) by decide)] at H
  obtain ⟨t102, A40, H⟩ := Option.bind_eq_some_iff.mp H
  try dsimp only at H
  have A4 := Aside0.mk A40
  clear A40
  by_cases c5 : t102 = true
  ·
   subst c5
   have H1 : (some true) = some r := by rw [if_pos rfl] at H; exact H
   clear H
   have H := H1
   clear H1
   obtain rfl := Option.some.inj H
   go_enter Tryd.func81, Tryd.ntmps81
   go_wp2_with (first | ((with_reducible refine gate_callee (f := 82) rfl ?_); refine goesL_ (some 4) rfl rfl Tryd.func82 (by kernel_rfl) rfl #[.int .u8 a0] rfl mc ?_; (with_reducible refine (impl_isLetter.calls a0 false _ A2.out).mono ?_); rintro e w' ⟨rfl, ⟨nd, rfl⟩⟩; refine ⟨_, rfl, ?_⟩) | (go_at_call 75; (with_reducible refine (impl_isDigit.calls a0 true _ A4.out).mono ?_); rintro e w' ⟨rfl, ⟨nd, rfl⟩⟩))
   go_ret
   exact ⟨by first | rfl | (simp; done) | (simp [*]; done), by repeat (first | exact Drawn0.refl _ | apply Drawn0.step)⟩
  ·
   replace c5 := Bool.eq_false_iff.mpr c5
   subst c5
   rw [if_neg (show ¬ (false = true) by decide)] at H
   replace H := Option.bind_eq_some_iff.mp H
   obtain ⟨t103, A60, H⟩ := H
   replace H : (some (decide (t103 ≥ 0))) = some r := H
   have A6 := Aside0.mk A60
   clear A60
   obtain rfl := Option.some.inj H
   go_enter Tryd.func81, Tryd.ntmps81
   go_wp2_with (first | ((with_reducible refine gate_callee (f := 82) rfl ?_); refine goesL_ (some 4) rfl rfl Tryd.func82 (by kernel_rfl) rfl #[.int .u8 a0] rfl mc ?_; (with_reducible refine (impl_isLetter.calls a0 false _ A2.out).mono ?_); rintro e w' ⟨rfl, ⟨nd, rfl⟩⟩; refine ⟨_, rfl, ?_⟩) | (go_at_call 75; (with_reducible refine (impl_isDigit.calls a0 false _ A4.out).mono ?_); rintro e w' ⟨rfl, ⟨nd, rfl⟩⟩) | (go_at_call 83; (with_reducible refine (strings_IndexByte.calls (⟨#[33, 35, 36, 37, 38, 39, 42, 43, 45, 46, 94, 95, 124, 126, 96]⟩ : ByteArray) a0 t103 _ A6.out).mono ?_); rintro e w' ⟨rfl, ⟨nd, rfl⟩⟩))
   go_ret
   exact ⟨by first | rfl | (simp; done) | (simp [*]; done), by repeat (first | exact Drawn0.refl _ | apply Drawn0.step)⟩
/-! ### impl_isVisible: function 84 -/
def impl_isVisible.f (a0 : Int) : Option (Bool) := if a0 ≥ 32 then (if a0 ≤ 126 then (some true) else (some (a0 == 9))) else (some (a0 == 9))
set_option maxHeartbeats 8000000 in
set_option maxRecDepth 100000 in
theorem impl_isVisible.calls (a0 : Int) (r : Bool) (w : World) (h : impl_isVisible.f a0 = some r) :
  Calls Tryd.prog 84 #[.int .u8 a0] w fun e w' => e = .returned (.bool r) ∧ Drawn0 w w' := by
 have H : (if a0 ≥ 32 then (if a0 ≤ 126 then (some true) else (some (a0 == 9))) else (some (a0 == 9))) = some r := h
 clear h
 by_cases c2 : a0 ≥ 32
 ·
  rw [if_pos c2] at H
  have c2b0 : decide (32 ≤ a0) = true := decide_eq_true c2
  clear c2
  by_cases c3 : a0 ≤ 126
  ·
   rw [if_pos c3] at H
   have c3b0 : decide (a0 ≤ 126) = true := decide_eq_true c3
   clear c3
   obtain rfl := Option.some.inj H
   go_enter Tryd.func84, Tryd.ntmps84
   go_wp2
   go_ret
   exact ⟨by first | rfl | (simp; done) | (simp [*]; done), by repeat (first | exact Drawn0.refl _ | apply Drawn0.step)⟩
  ·
   rw [if_neg c3] at H
   have c3b0 : decide (a0 ≤ 126) = false := decide_eq_false c3
   clear c3
   obtain rfl := Option.some.inj H
   go_enter Tryd.func84, Tryd.ntmps84
   go_wp2
   go_ret
   exact ⟨by first | rfl | (simp; done) | (simp [*]; done), by repeat (first | exact Drawn0.refl _ | apply Drawn0.step)⟩
 ·
  rw [if_neg c2] at H
  have c2b0 : decide (32 ≤ a0) = false := decide_eq_false c2
  clear c2
  obtain rfl := Option.some.inj H
  go_enter Tryd.func84, Tryd.ntmps84
  go_wp2
  go_ret
  exact ⟨by first | rfl | (simp; done) | (simp [*]; done), by repeat (first | exact Drawn0.refl _ | apply Drawn0.step)⟩
end Go.Proofs.YtkaknffeoeoajaaDoor.P
namespace Go.Proofs.YtkaknffeoeoajaaDoor.P
set_option linter.unusedVariables false
set_option linter.unusedSimpArgs false
open Go.RowKit Go.Lib Go.Shelf Go.Proofs.YtkaknffeoeoajaaDoorW.PrintWords Go.Proofs.YtkaknffeoeoajaaDoorW.PrintLast Go.Proofs.YtkaknffeoeoajaaDoorW.PrintMore

/-- The function that 'all' makes out of a predicate g: 'not g'. -/
theorem all_pred (g : Nat) (p : Int → Bool) (B : Nat) (w : World) (hB : B < w.heap.size) (hcell : w.cell? ⟨B, 0, none⟩ = some (.func (.func g) #[] #[]))
    (eg : ∀ args w, (callFunc g args).run Tryd.prog w = .ok (.enter g args) w) (hp : PredAt Tryd.prog g #[] (Value.int .u8) p w) :
    PredAt Tryd.prog 101 #[.pointer (some ⟨B, 0, none⟩)] (Value.int .u8) (fun x => !p x) w := fun W x hb => by
  have hc : W.cell? ⟨B, 0, none⟩ = some (.func (.func g) #[] #[]) := (hb.cell (p := ⟨B, 0, none⟩) hB).trans hcell
  have hcall := hp W x hb
  show Calls Tryd.prog 101 #[.int .u8 x, .pointer (some ⟨B, 0, none⟩)] W _
  unfold FnGives at hcall
  obtain ⟨y, hy⟩ : ∃ y, p x = y := ⟨_, rfl⟩
  rw [hy] at hcall
  have Hy := Lib.hid hy
  clear hy
  go_enter Tryd.func101, Tryd.ntmps101
  go_wp2_with (go_at_fn g; refine hcall.mono ?_; rintro e w' ⟨rfl, q, rfl⟩)
  go_ret
  exact ⟨by rw [Hy.out]; rfl, _, rfl⟩

theorem any_not (l : List Int) (p : Int → Bool) : l.any (fun x => !p x) = !(l.all p) := by
  induction l with
  | nil => rfl
  | cons a l ih => simp [List.any_cons, List.all_cons, ih]
theorem below_bytesWorld {w W : World} (h : Below w.heap.size w W) (hle : w.heap.size ≤ W.heap.size) (e : TypeId) (s : ByteArray) : Below w.heap.size w (bytesWorld W e s) :=
  ⟨h.os, h.tape, h.output, by rw [bytesWorld_size]; omega, fun j hj => (bytesWorld_at_old W e s j (by omega)).trans (h.block j hj)⟩

set_option maxHeartbeats 1000000 in
/-- 'all', of whatever predicate that only reads. -/
theorem all_any (g : Nat) (p : Int → Bool) (s : ByteArray) (w : World)
    (eg : ∀ args w, (callFunc g args).run Tryd.prog w = .ok (.enter g args) w) (hp : PredAt Tryd.prog g #[] (Value.int .u8) p w) (hs : s.size ≤ 9223372036854775807) :
    Calls Tryd.prog 74 #[.string s, .func (.func g) #[] #[]] w fun e w' => e = .returned (.bool ((bytesOf s).all p)) ∧ Below w.heap.size w w' := by
  have eg1 : ∀ args w, (callFunc 101 args).run Tryd.prog w = .ok (.enter 101 args) w := enters_of Tryd.func101 (by kernel_rfl) rfl
  have kc := fun W : World => Lib.run_convert_string_bytes (P := Tryd.prog) W 9 22 5 s Tryd.underlying9 Tryd.underlying22 Tryd.underlying5
  have hB0 : Below w.heap.size w (bytesWorld (w.alloc (.cells #[.func (.func g) #[] #[]] 83)) 5 s) := below_bytesWorld ((Below.refl _ w).alloc (Nat.le_refl _) _) (by simp) 5 s
  have hcon := fun c => AnyE.slices_ContainsFunc Tryd.layCFb (Value.int .u8) (fun x => !p x) 101 #[.pointer (some ⟨w.heap.size, 0, none⟩)] eg1 (w.heap.size + 1) 0 s.size c (bytesOf s) (bytesWorld (w.alloc (.cells #[.func (.func g) #[] #[]] 83)) 5 s)
    (all_pred g p w.heap.size _ (by rw [bytesWorld_size]; simp; omega) (by rw [bytesWorld_old _ _ _ _ (by simp)]; simp) eg (hp.later hB0)) (by rw [bytesOf_length]; exact Nat.le_refl _) hs
    (fun j hj => by
      have hj' : j < s.size := by rw [bytesOf_length] at hj; exact hj
      have h1 := bytesWorld_cell (w.alloc (.cells #[.func (.func g) #[] #[]] 83)) 5 s j hj'
      rw [Nat.zero_add]
      have h2 : (w.alloc (.cells #[.func (.func g) #[] #[]] 83)).heap.size = w.heap.size + 1 := by simp
      rw [h2] at h1
      rw [h1]
      simp [bytesOf, hj'])
  change ∀ c, Calls Tryd.prog 100 _ _ _ at hcon
  have hany : ((bytesOf s).take s.size).any (fun x => !p x) = !((bytesOf s).all p) := by
    rw [List.take_of_length_le (by rw [bytesOf_length]; exact Nat.le_refl _)]
    exact any_not _ _
  rw [hany] at hcon
  have HB := Lib.hid (fun q => below_drewN' hB0 q)
  clear hany hB0
  obtain ⟨y, hy⟩ : ∃ y, (bytesOf s).all p = y := ⟨_, rfl⟩
  rw [hy] at hcon
  have H1 := Lib.hid hy
  clear hy
  go_enter Tryd.func74, Tryd.ntmps74
  go_wp2_with fail
  refine (hcon _).mono ?_
  rintro e w' ⟨rfl, q, rfl⟩
  go_wp2_with fail
  go_ret
  exact ⟨by rw [H1.out]; rfl, HB.out _⟩

theorem tot_ite {α : Type} {c : Prop} [Decidable c] {x y : Option α} (hx : ∃ b, x = some b) (hy : ∃ b, y = some b) : ∃ b, (if c then x else y) = some b := by
  split
  · exact hx
  · exact hy
theorem tot_bind {α β : Type} {x : Option α} {f : α → Option β} (hx : ∃ a, x = some a) (hf : ∀ a, ∃ b, f a = some b) : ∃ b, x.bind f = some b := by
  obtain ⟨a, rfl⟩ := hx
  exact hf a

/-- A printed predicate, as 'PredAt' asks it. -/
theorem predAt_of (g : Nat) (f : Int → Option Bool) (w : World) (ht : ∀ x, ∃ b, f x = some b)
    (hc : ∀ (x : Int) (r : Bool) (W : World), f x = some r → Calls Tryd.prog g #[.int .u8 x] W fun e w' => e = .returned (.bool r) ∧ Drawn0 W w') :
    PredAt Tryd.prog g #[] (Value.int .u8) (fun x => f x == some true) w := fun W x _ => by
  obtain ⟨b, hb⟩ := ht x
  unfold FnGives
  refine (hc x b W hb).mono ?_
  rintro e w' ⟨rfl, q, rfl⟩
  refine ⟨?_, q, rfl⟩
  simp only [hb]
  cases b <;> rfl

theorem total_impl_isVisible (x : Int) : ∃ b, impl_isVisible.f x = some b := by unfold impl_isVisible.f; (repeat' first | exact ⟨_, rfl⟩ | refine tot_ite ?_ ?_ | refine tot_bind ?_ ?_ | intro _ | unfold impl_isDigit.f | unfold impl_isLetter.f | unfold strings_IndexByte.f)
theorem total_impl_isDigit (x : Int) : ∃ b, impl_isDigit.f x = some b := by unfold impl_isDigit.f; (repeat' first | exact ⟨_, rfl⟩ | refine tot_ite ?_ ?_ | refine tot_bind ?_ ?_ | intro _ | unfold impl_isDigit.f | unfold impl_isLetter.f | unfold strings_IndexByte.f)
theorem total_impl_TokenOk_1 (x : Int) : ∃ b, impl_TokenOk_1.f x = some b := by unfold impl_TokenOk_1.f; (repeat' first | exact ⟨_, rfl⟩ | refine tot_ite ?_ ?_ | refine tot_bind ?_ ?_ | intro _ | unfold impl_isDigit.f | unfold impl_isLetter.f | unfold strings_IndexByte.f)

/-- 'all' at the function number a1. -/
def impl_all.f (a0 : ByteArray) (a1 : Nat) : Option Bool :=
  if a0.size ≤ 9223372036854775807 then
    if a1 = 84 then some ((bytesOf a0).all fun c => impl_isVisible.f c == some true) else
    if a1 = 75 then some ((bytesOf a0).all fun c => impl_isDigit.f c == some true) else
    if a1 = 81 then some ((bytesOf a0).all fun c => impl_TokenOk_1.f c == some true) else
    none
  else none
theorem impl_all.calls (a0 : ByteArray) (a1 : Nat) (r : Bool) (w : World) (h : impl_all.f a0 a1 = some r) :
    Calls Tryd.prog 74 #[.string a0, .func (.func a1) #[] #[]] w fun e w' => e = .returned (.bool r) ∧ Below w.heap.size w w' := by
  unfold impl_all.f at h
  split at h
  · rename_i hs
    split at h
    · rename_i e
      subst e
      obtain rfl := Option.some.inj h
      exact all_any _ _ a0 w (enters_of Tryd.func84 (by kernel_rfl) rfl) (predAt_of _ _ w total_impl_isVisible fun x r W hx => impl_isVisible.calls x r W hx) hs
    split at h
    · rename_i e
      subst e
      obtain rfl := Option.some.inj h
      exact all_any _ _ a0 w (enters_of Tryd.func75 (by kernel_rfl) rfl) (predAt_of _ _ w total_impl_isDigit fun x r W hx => impl_isDigit.calls x r W hx) hs
    split at h
    · rename_i e
      subst e
      obtain rfl := Option.some.inj h
      exact all_any _ _ a0 w (enters_of Tryd.func81 (by kernel_rfl) rfl) (predAt_of _ _ w total_impl_TokenOk_1 fun x r W hx => impl_TokenOk_1.calls x r W hx) hs
    · cases h
  · cases h
end Go.Proofs.YtkaknffeoeoajaaDoor.P
namespace Go.Proofs.YtkaknffeoeoajaaDoor.P
open Go.RowKit Go.Proofs.YtkaknffeoeoajaaDoorW.PrintWords Go.Proofs.YtkaknffeoeoajaaDoorW.PrintLast Go.Proofs.YtkaknffeoeoajaaDoorW.PrintMore
attribute [local go_sem] max2_int min2_int max_two min_two max_three min_three max_four min_four   -- for this text's walks alone
set_option linter.unusedVariables false
set_option linter.unusedSimpArgs false

/-! ### impl_Digits: function 50 -/
def impl_Digits.f (a0 : ByteArray) : Option (Int × Bool) := if (a0.size : Int) < 1 then (some (0, false)) else (if (a0.size : Int) > 15 then (some (0, false)) else ((impl_all.f a0 75).bind fun t101 => (if t101 = true then ((strconv_ParseInt.f a0 10 64).bind fun bt102 => (some (bt102.1, true))) else (some (0, false)))))
set_option maxHeartbeats 8000000 in
set_option maxRecDepth 100000 in
theorem impl_Digits.calls (a0 : ByteArray) (r1 : Int) (r2 : Bool) (w : World) (h : impl_Digits.f a0 = some (r1, r2)) :
  Calls Tryd.prog 50 #[.string a0] w fun e w' => e = .returned (.tuple #[.int .i64 r1, .bool r2]) ∧ Below w.heap.size w w' := by
 have HB := Aside0.mk (Below.refl w.heap.size w)
 have H := h
 unfold impl_Digits.f at H
 clear h
 by_cases c2 : (a0.size : Int) < 1
 ·
  rw [if_pos c2] at H
  have c2b0 : decide ((a0.size : Int) < 1) = true := decide_eq_true c2
  have c2b1 : decide (a0.size < 1) = true := decide_eq_true (by omega)
  clear c2
  simp only [Option.some.injEq, Prod.mk.injEq] at H
  obtain ⟨rfl, rfl⟩ := H
  go_enter Tryd.func50, Tryd.ntmps50
  go_wp2
  go_ret2
  exact ⟨er, bh⟩
 ·
  rw [if_neg c2] at H
  have c2b0 : decide ((a0.size : Int) < 1) = false := decide_eq_false c2
  have c2b1 : decide (a0.size < 1) = false := decide_eq_false (by omega)
  clear c2
  by_cases c3 : (a0.size : Int) > 15
  ·
   rw [if_pos c3] at H
   have c3b0 : decide (15 < (a0.size : Int)) = true := decide_eq_true c3
   have c3b1 : decide (15 < a0.size) = true := decide_eq_true (by omega)
   clear c3
   simp only [Option.some.injEq, Prod.mk.injEq] at H
   obtain ⟨rfl, rfl⟩ := H
   go_enter Tryd.func50, Tryd.ntmps50
   go_wp2
   go_ret2
   exact ⟨er, bh⟩
  ·
   rw [if_neg c3] at H
   have c3b0 : decide (15 < (a0.size : Int)) = false := decide_eq_false c3
   have c3b1 : decide (15 < a0.size) = false := decide_eq_false (by omega)
   clear c3
   obtain ⟨t101, A40, H⟩ := Option.bind_eq_some_iff.mp H
   try dsimp only at H
   have A4 := Aside0.mk A40
   clear A40
   by_cases c5 : t101 = true
   ·
    subst c5
    rw [if_pos rfl] at H
    replace H := Option.bind_eq_some_iff.mp H
    obtain ⟨⟨t102, t103⟩, A60, H⟩ := H
    replace H : (some (t102, true)) = some (r1, r2) := H
    have A6 := Aside0.mk A60
    clear A60
    simp only [Option.some.injEq, Prod.mk.injEq] at H
    obtain ⟨rfl, rfl⟩ := H
    go_enter Tryd.func50, Tryd.ntmps50
    go_wp2_with (first | (go_at_call 74; (with_reducible refine (impl_all.calls a0 75 true _ A4.out).mono ?_); rintro e w7 ⟨rfl, hb⟩; replace HB := Aside0.mk (below_step bh hb); (try clear hb); (try clear hb2); (try clear hk); (try clear hi)) | ((with_reducible refine gate_callee (f := 76) rfl ?_); refine goesL_ (some 21) rfl rfl Tryd.func76 (by kernel_rfl) rfl #[.string a0, .int .i64 10, .int .i64 64] rfl mc ?_; (with_reducible refine (strconv_ParseInt.calls a0 10 64 t102 t103 _ A6.out).mono ?_); rintro e w8 ⟨rfl, hb⟩; refine ⟨_, rfl, ?_⟩; replace HB := Aside0.mk (below_step bh hb); (try clear hb); (try clear hb2); (try clear hk); (try clear hi); (try simp only [errW_none, errW_some])))
    go_ret2
    exact ⟨er, bh⟩
   ·
    replace c5 := Bool.eq_false_iff.mpr c5
    subst c5
    have H1 : (some (0, false)) = some (r1, r2) := by rw [if_neg (show ¬ (false = true) by decide)] at H; exact H
    clear H
    have H := H1
    clear H1
    simp only [Option.some.injEq, Prod.mk.injEq] at H
    obtain ⟨rfl, rfl⟩ := H
    go_enter Tryd.func50, Tryd.ntmps50
    go_wp2_with (first | (go_at_call 74; (with_reducible refine (impl_all.calls a0 75 false _ A4.out).mono ?_); rintro e w9 ⟨rfl, hb⟩; replace HB := Aside0.mk (below_step bh hb); (try clear hb); (try clear hb2); (try clear hk); (try clear hi)))
    go_ret2
    exact ⟨er, bh⟩
/-! ### impl_days: function 52 -/
def impl_days.l0 : Nat → Int → Int → Int → Int → Int → Int → Int → Int → Option (Int)
 | 0, _, _, _, _, _, _, _, _ => none
 | k + 1, x3, x4, x102000, x102001, x102002, x102003, x102004, x102005 => if x4 < x102001 then ((impl_daysIn.f k x102000 x4).bind fun t103 => (impl_days.l0 k (wrap64 (x3 + t103)) (wrap64 (x4 + 1)) x102000 x102001 x102002 x102003 x102004 x102005)) else (some x3)
def impl_days.f (k : Nat) (a0_0 : Int) (a0_1 : Int) (a0_2 : Int) (a0_3 : Int) (a0_4 : Int) (a0_5 : Int) : Option (Int) := (impl_yearDays.f a0_0).bind fun t102 => (impl_days.l0 k (wrap64 ((wrap64 (t102 + a0_2)) - 1)) 1 a0_0 a0_1 a0_2 a0_3 a0_4 a0_5)
theorem impl_days.mono_l : ∀ k, (∀ y0 y1 y2 y3 y4 y5 y6 y7, LeO (impl_days.l0 k y0 y1 y2 y3 y4 y5 y6 y7) (impl_days.l0 (k + 1) y0 y1 y2 y3 y4 y5 y6 y7))
 | 0 => fun _ _ _ _ _ _ _ _ r h => by simp [impl_days.l0] at h
 | k + 1 => by
  have ih0 := impl_days.mono_l k
  ·
   intro y0 y1 y2 y3 y4 y5 y6 y7
   unfold impl_days.l0
   repeat' first
   | (with_reducible exact ih0 _ _ _ _ _ _ _ _)
   | (with_reducible exact impl_daysIn.mono _ _ _)
   | (with_reducible exact LeO.refl _)
   | (with_reducible exact LeO.none _)
   | (with_reducible refine LeO.ite ?_ ?_)
   | (with_reducible refine LeO.bind ?_ (fun _ => ?_))
   | exact ih0 _ _ _ _ _ _ _ _
   | exact impl_daysIn.mono _ _ _
   | exact LeO.none _
   | refine LeO.ite ?_ ?_
   | refine LeO.bind ?_ (fun _ => ?_)
theorem impl_days.mono : ∀ a0 a1 a2 a3 a4 a5 k, LeO (impl_days.f k a0 a1 a2 a3 a4 a5) (impl_days.f (k + 1) a0 a1 a2 a3 a4 a5) := by
 intro a0 a1 a2 a3 a4 a5 k
 have ih0 := impl_days.mono_l k
 unfold impl_days.f
 repeat' first
   | (with_reducible exact ih0 _ _ _ _ _ _ _ _)
   | (with_reducible exact impl_daysIn.mono _ _ _)
   | (with_reducible exact LeO.refl _)
   | (with_reducible exact LeO.none _)
   | (with_reducible refine LeO.ite ?_ ?_)
   | (with_reducible refine LeO.bind ?_ (fun _ => ?_))
   | exact ih0 _ _ _ _ _ _ _ _
   | exact impl_daysIn.mono _ _ _
   | exact LeO.none _
   | refine LeO.ite ?_ ?_
   | refine LeO.bind ?_ (fun _ => ?_)
set_option maxHeartbeats 8000000 in
set_option maxRecDepth 100000 in
theorem impl_days.calls (k : Nat) (a0_0 : Int) (a0_1 : Int) (a0_2 : Int) (a0_3 : Int) (a0_4 : Int) (a0_5 : Int) (r : Int) (w : World) (h : impl_days.f k a0_0 a0_1 a0_2 a0_3 a0_4 a0_5 = some r) :
  Calls Tryd.prog 52 #[.agg #[.int .i64 a0_0, .int .i64 a0_1, .int .i64 a0_2, .int .i64 a0_3, .int .i64 a0_4, .int .i64 a0_5]] w fun e w' => e = .returned (.int .i64 r) ∧ Below w.heap.size w w' := by
 have hu34 := Tryd.underlying34
 have HB := Aside0.mk (Below.refl w.heap.size w)
 have H : ((impl_yearDays.f a0_0).bind fun t102 => (impl_days.l0 k (wrap64 ((wrap64 (t102 + a0_2)) - 1)) 1 a0_0 a0_1 a0_2 a0_3 a0_4 a0_5)) = some r := h
 clear h
 obtain ⟨t102, A20, H⟩ := Option.bind_eq_some_iff.mp H
 try dsimp only at H
 have A2 := Aside0.mk A20
 clear A20
 have H' := Aside0.mk H
 clear H
 go_enter Tryd.func52, Tryd.ntmps52
 go_wp2_with (first | ((with_reducible refine gate_dst (N := 1) rfl ?_); refine bx 1 #[.int .i64 a0_0, .int .i64 a0_1, .int .i64 a0_2, .int .i64 a0_3, .int .i64 a0_4, .int .i64 a0_5] 34 ?_; intro gb101 hg w3 hbox hb; have BK101 := Aside0.mk (hbox); have GW101 := Aside0.mk (bz hg); have GE101 := Aside0.mk (bz hg); replace HB := Aside0.mk (below_step bh hb); clear hb hbox hg; obtain ⟨hcz4_0, hcz4_1, hcz4_2, hcz4_3, hcz4_4, hcz4_5⟩ := zcf6 BK101; obtain ⟨hfz4_0, hfz4_1, hfz4_2, hfz4_3, hfz4_4, hfz4_5⟩ := zff6 BK101) | (go_at_call 78; (with_reducible refine (impl_yearDays.calls a0_0 t102 _ A2.out).mono ?_); rintro e w' ⟨rfl, ⟨nd, rfl⟩⟩; (try first | exact ⟨rfl, _, World.drewN_drewN _ _ _⟩ | exact ⟨rfl, _, Eq.trans (World.drewN_drewN _ _ _) (congrArg (World.drewN _) (Nat.add_assoc _ _ _))⟩)))
 repeat (go_quiet (first | ((with_reducible refine gate_dst (N := 1) rfl ?_); refine bx 1 #[.int .i64 a0_0, .int .i64 a0_1, .int .i64 a0_2, .int .i64 a0_3, .int .i64 a0_4, .int .i64 a0_5] 34 ?_; intro gb101 hg w3 hbox hb; have BK101 := Aside0.mk (hbox); have GW101 := Aside0.mk (bz hg); have GE101 := Aside0.mk (bz hg); replace HB := Aside0.mk (below_step bh hb); clear hb hbox hg; obtain ⟨hcz4_0, hcz4_1, hcz4_2, hcz4_3, hcz4_4, hcz4_5⟩ := zcf6 BK101; obtain ⟨hfz4_0, hfz4_1, hfz4_2, hfz4_3, hfz4_4, hfz4_5⟩ := zff6 BK101) | (go_at_call 78; (with_reducible refine (impl_yearDays.calls a0_0 t102 _ A2.out).mono ?_); rintro e w' ⟨rfl, ⟨nd, rfl⟩⟩; (try first | exact ⟨rfl, _, World.drewN_drewN _ _ _⟩ | exact ⟨rfl, _, Eq.trans (World.drewN_drewN _ _ _) (congrArg (World.drewN _) (Nat.add_assoc _ _ _))⟩))); try go_wp2_with (first | ((with_reducible refine gate_dst (N := 1) rfl ?_); refine bx 1 #[.int .i64 a0_0, .int .i64 a0_1, .int .i64 a0_2, .int .i64 a0_3, .int .i64 a0_4, .int .i64 a0_5] 34 ?_; intro gb101 hg w3 hbox hb; have BK101 := Aside0.mk (hbox); have GW101 := Aside0.mk (bz hg); have GE101 := Aside0.mk (bz hg); replace HB := Aside0.mk (below_step bh hb); clear hb hbox hg; obtain ⟨hcz4_0, hcz4_1, hcz4_2, hcz4_3, hcz4_4, hcz4_5⟩ := zcf6 BK101; obtain ⟨hfz4_0, hfz4_1, hfz4_2, hfz4_3, hfz4_4, hfz4_5⟩ := zff6 BK101) | (go_at_call 78; (with_reducible refine (impl_yearDays.calls a0_0 t102 _ A2.out).mono ?_); rintro e w' ⟨rfl, ⟨nd, rfl⟩⟩; (try first | exact ⟨rfl, _, World.drewN_drewN _ _ _⟩ | exact ⟨rfl, _, Eq.trans (World.drewN_drewN _ _ _) (congrArg (World.drewN _) (Nat.add_assoc _ _ _))⟩))))
 go_loopg [3, 4] k (fun kq v3 v4 w' => ∃ (x3_1 : Int) (x4_1 : Int), v3 = .int .i64 x3_1 ∧ v4 = .int .i64 x4_1 ∧ Aside0 (impl_days.l0 kq x3_1 x4_1 a0_0 a0_1 a0_2 a0_3 a0_4 a0_5 = some r) ∧ Aside0 (kq ≤ k) ∧ Aside0 (w'.heap[gb101]? = some (.cells #[.int .i64 a0_0, .int .i64 a0_1, .int .i64 a0_2, .int .i64 a0_3, .int .i64 a0_4, .int .i64 a0_5] 34 (0, 0))) ∧ Aside0 (Below w.heap.size w w'))
 case atStart => exact ⟨(wrap64 ((wrap64 (t102 + a0_2)) - 1)), (1), (by first | rfl | (simp; done) | (simp [*]; done)), (by first | rfl | (simp; done) | (simp [*]; done)), H', ⟨Nat.le_refl _⟩, ⟨bk⟩, ⟨bh⟩⟩
 case round =>
  clear H'
  try clear p2
  try clear hcz4_0
  try clear hcz4_1
  try clear hcz4_2
  try clear hcz4_3
  try clear hcz4_4
  try clear hcz4_5
  try clear hfz4_0
  try clear hfz4_1
  try clear hfz4_2
  try clear hfz4_3
  try clear hfz4_4
  try clear hfz4_5
  obtain ⟨x3_1, x4_1, rfl, rfl, HA, HK1, BK101, HB⟩ := hrel
  cases gk with
  | zero => exact absurd HA.out (by simp [impl_days.l0])
  | succ k1 =>
   have H := HA.out
   clear HA
   simp only [impl_days.l0] at H
   by_cases c5 : x4_1 < a0_1
   ·
    rw [if_pos c5] at H
    have c5b0 : decide (x4_1 < a0_1) = true := decide_eq_true c5
    clear c5
    obtain ⟨t103, A60, H⟩ := Option.bind_eq_some_iff.mp H
    try dsimp only at H
    have A6 := Aside0.mk A60
    clear A60
    have H' := Aside0.mk H
    clear H
    obtain ⟨hcz7_0, hcz7_1, hcz7_2, hcz7_3, hcz7_4, hcz7_5⟩ := zcf6 BK101
    obtain ⟨hfz7_0, hfz7_1, hfz7_2, hfz7_3, hfz7_4, hfz7_5⟩ := zff6 BK101
    go_wp2_with (first | (go_at_call 69; (with_reducible refine (impl_daysIn.calls k1 a0_0 x4_1 t103 _ A6.out).mono ?_); rintro e w' ⟨rfl, ⟨nd, rfl⟩⟩; (try first | exact ⟨rfl, _, World.drewN_drewN _ _ _⟩ | exact ⟨rfl, _, Eq.trans (World.drewN_drewN _ _ _) (congrArg (World.drewN _) (Nat.add_assoc _ _ _))⟩)))
    repeat (go_quiet (first | (go_at_call 69; (with_reducible refine (impl_daysIn.calls k1 a0_0 x4_1 t103 _ A6.out).mono ?_); rintro e w' ⟨rfl, ⟨nd, rfl⟩⟩; (try first | exact ⟨rfl, _, World.drewN_drewN _ _ _⟩ | exact ⟨rfl, _, Eq.trans (World.drewN_drewN _ _ _) (congrArg (World.drewN _) (Nat.add_assoc _ _ _))⟩))); try go_wp2_with (first | (go_at_call 69; (with_reducible refine (impl_daysIn.calls k1 a0_0 x4_1 t103 _ A6.out).mono ?_); rintro e w' ⟨rfl, ⟨nd, rfl⟩⟩; (try first | exact ⟨rfl, _, World.drewN_drewN _ _ _⟩ | exact ⟨rfl, _, Eq.trans (World.drewN_drewN _ _ _) (congrArg (World.drewN _) (Nat.add_assoc _ _ _))⟩))))
    go_roundg k1
    case measure => have := HK1.out; omega
    case rel => exact ⟨(wrap64 (x3_1 + t103)), (wrap64 (x4_1 + 1)), (by first | rfl | (simp; done) | (simp [*]; done)), (by first | rfl | (simp; done) | (simp [*]; done)), H', ⟨by have := HK1.out; omega⟩, ⟨bk⟩, ⟨bh⟩⟩
   ·
    rw [if_neg c5] at H
    have c5b0 : decide (x4_1 < a0_1) = false := decide_eq_false c5
    clear c5
    obtain rfl := Option.some.inj H
    obtain ⟨hcz8_0, hcz8_1, hcz8_2, hcz8_3, hcz8_4, hcz8_5⟩ := zcf6 BK101
    obtain ⟨hfz8_0, hfz8_1, hfz8_2, hfz8_3, hfz8_4, hfz8_5⟩ := zff6 BK101
    go_wp2
    repeat (go_quiet (fail); try go_wp2)
    go_ret
    exact ⟨er, bh⟩
/-! ### impl_Weekday: function 21 -/
def impl_Weekday.f (k : Nat) (a0_0 : Int) (a0_1 : Int) (a0_2 : Int) (a0_3 : Int) (a0_4 : Int) (a0_5 : Int) : Option (Int) := (impl_DateOk.f k a0_0 a0_1 a0_2 a0_3 a0_4 a0_5).bind fun t102 => (if t102 = true then ((impl_days.f k a0_0 a0_1 a0_2 a0_3 a0_4 a0_5).bind fun t103 => (some (Int.tmod (wrap64 (t103 + 4)) 7))) else (some (-1)))
theorem impl_Weekday.mono : ∀ a0 a1 a2 a3 a4 a5 k, LeO (impl_Weekday.f k a0 a1 a2 a3 a4 a5) (impl_Weekday.f (k + 1) a0 a1 a2 a3 a4 a5) := by
 intro a0 a1 a2 a3 a4 a5 k
 unfold impl_Weekday.f
 repeat' first
   | (with_reducible exact impl_DateOk.mono _ _ _ _ _ _ _)
   | (with_reducible exact impl_days.mono _ _ _ _ _ _ _)
   | (with_reducible exact LeO.refl _)
   | (with_reducible exact LeO.none _)
   | (with_reducible refine LeO.ite ?_ ?_)
   | (with_reducible refine LeO.bind ?_ (fun _ => ?_))
   | exact impl_DateOk.mono _ _ _ _ _ _ _
   | exact impl_days.mono _ _ _ _ _ _ _
   | exact LeO.none _
   | refine LeO.ite ?_ ?_
   | refine LeO.bind ?_ (fun _ => ?_)
set_option maxHeartbeats 8000000 in
set_option maxRecDepth 100000 in
theorem impl_Weekday.calls (k : Nat) (a0_0 : Int) (a0_1 : Int) (a0_2 : Int) (a0_3 : Int) (a0_4 : Int) (a0_5 : Int) (r : Int) (w : World) (h : impl_Weekday.f k a0_0 a0_1 a0_2 a0_3 a0_4 a0_5 = some r) :
  Calls Tryd.prog 21 #[.agg #[.int .i64 a0_0, .int .i64 a0_1, .int .i64 a0_2, .int .i64 a0_3, .int .i64 a0_4, .int .i64 a0_5]] w fun e w' => e = .returned (.int .i64 r) ∧ Below w.heap.size w w' := by
 have hu34 := Tryd.underlying34
 have HB := Aside0.mk (Below.refl w.heap.size w)
 have H : ((impl_DateOk.f k a0_0 a0_1 a0_2 a0_3 a0_4 a0_5).bind fun t102 => (if t102 = true then ((impl_days.f k a0_0 a0_1 a0_2 a0_3 a0_4 a0_5).bind fun t103 => (some (Int.tmod (wrap64 (t103 + 4)) 7))) else (some (-1)))) = some r := h
 clear h
 obtain ⟨t102, A20, H⟩ := Option.bind_eq_some_iff.mp H
 try dsimp only at H
 have A2 := Aside0.mk A20
 clear A20
 by_cases c3 : t102 = true
 ·
  subst c3
  rw [if_pos rfl] at H
  replace H := Option.bind_eq_some_iff.mp H
  obtain ⟨t103, A40, H⟩ := H
  replace H : (some (Int.tmod (wrap64 (t103 + 4)) 7)) = some r := H
  have A4 := Aside0.mk A40
  clear A40
  obtain rfl := Option.some.inj H
  go_enter Tryd.func21, Tryd.ntmps21
  go_wp2_with (first | ((with_reducible refine gate_dst (N := 1) rfl ?_); refine bx 1 #[.int .i64 a0_0, .int .i64 a0_1, .int .i64 a0_2, .int .i64 a0_3, .int .i64 a0_4, .int .i64 a0_5] 34 ?_; intro gb101 hg w5 hbox hb; have BK101 := Aside0.mk (hbox); have GW101 := Aside0.mk (bz hg); have GE101 := Aside0.mk (bz hg); replace HB := Aside0.mk (below_step bh hb); clear hb hbox hg; obtain ⟨hcz6_0, hcz6_1, hcz6_2, hcz6_3, hcz6_4, hcz6_5⟩ := zcf6 BK101; obtain ⟨hfz6_0, hfz6_1, hfz6_2, hfz6_3, hfz6_4, hfz6_5⟩ := zff6 BK101) | ((with_reducible refine gate_callee (f := 41) rfl ?_); refine goesL_ (some 4) rfl rfl Tryd.func41 (by kernel_rfl) rfl #[.agg #[.int .i64 a0_0, .int .i64 a0_1, .int .i64 a0_2, .int .i64 a0_3, .int .i64 a0_4, .int .i64 a0_5]] rfl mc ?_; (with_reducible refine (impl_DateOk.calls k a0_0 a0_1 a0_2 a0_3 a0_4 a0_5 true _ A2.out).mono ?_); rintro e w7 ⟨rfl, hb⟩; refine ⟨_, rfl, ?_⟩; replace BK101 := bkb_ BK101 hb; replace HB := Aside0.mk (below_step bh hb); (try clear hb); (try clear hb2); (try clear hk); (try clear hi); obtain ⟨hcz8_0, hcz8_1, hcz8_2, hcz8_3, hcz8_4, hcz8_5⟩ := zcf6 BK101; obtain ⟨hfz8_0, hfz8_1, hfz8_2, hfz8_3, hfz8_4, hfz8_5⟩ := zff6 BK101) | ((with_reducible refine gate_callee (f := 52) rfl ?_); refine goesL_ (some 7) rfl rfl Tryd.func52 (by kernel_rfl) rfl #[.agg #[.int .i64 a0_0, .int .i64 a0_1, .int .i64 a0_2, .int .i64 a0_3, .int .i64 a0_4, .int .i64 a0_5]] rfl mc ?_; (with_reducible refine (impl_days.calls k a0_0 a0_1 a0_2 a0_3 a0_4 a0_5 t103 _ A4.out).mono ?_); rintro e w9 ⟨rfl, hb⟩; refine ⟨_, rfl, ?_⟩; replace BK101 := bkb_ BK101 hb; replace HB := Aside0.mk (below_step bh hb); (try clear hb); (try clear hb2); (try clear hk); (try clear hi)))
  go_ret
  exact ⟨er, bh⟩
 ·
  replace c3 := Bool.eq_false_iff.mpr c3
  subst c3
  have H1 : (some (-1)) = some r := by rw [if_neg (show ¬ (false = true) by decide)] at H; exact H
  clear H
  have H := H1
  clear H1
  obtain rfl := Option.some.inj H
  go_enter Tryd.func21, Tryd.ntmps21
  go_wp2_with (first | ((with_reducible refine gate_dst (N := 1) rfl ?_); refine bx 1 #[.int .i64 a0_0, .int .i64 a0_1, .int .i64 a0_2, .int .i64 a0_3, .int .i64 a0_4, .int .i64 a0_5] 34 ?_; intro gb101 hg w10 hbox hb; have BK101 := Aside0.mk (hbox); have GW101 := Aside0.mk (bz hg); have GE101 := Aside0.mk (bz hg); replace HB := Aside0.mk (below_step bh hb); clear hb hbox hg; obtain ⟨hcz11_0, hcz11_1, hcz11_2, hcz11_3, hcz11_4, hcz11_5⟩ := zcf6 BK101; obtain ⟨hfz11_0, hfz11_1, hfz11_2, hfz11_3, hfz11_4, hfz11_5⟩ := zff6 BK101) | ((with_reducible refine gate_callee (f := 41) rfl ?_); refine goesL_ (some 4) rfl rfl Tryd.func41 (by kernel_rfl) rfl #[.agg #[.int .i64 a0_0, .int .i64 a0_1, .int .i64 a0_2, .int .i64 a0_3, .int .i64 a0_4, .int .i64 a0_5]] rfl mc ?_; (with_reducible refine (impl_DateOk.calls k a0_0 a0_1 a0_2 a0_3 a0_4 a0_5 false _ A2.out).mono ?_); rintro e w12 ⟨rfl, hb⟩; refine ⟨_, rfl, ?_⟩; replace BK101 := bkb_ BK101 hb; replace HB := Aside0.mk (below_step bh hb); (try clear hb); (try clear hb2); (try clear hk); (try clear hi)))
  go_ret
  exact ⟨er, bh⟩
end Go.Proofs.YtkaknffeoeoajaaDoor.P
namespace Go.Proofs.YtkaknffeoeoajaaDoor.P
set_option linter.unusedVariables false
set_option linter.unusedSimpArgs false
open Go.RowKit Go.Lib Go.Proofs.YtkaknffeoeoajaaDoorW.PrintWords Go.Proofs.YtkaknffeoeoajaaDoorW.PrintLast Go.Proofs.YtkaknffeoeoajaaDoorW.PrintMore

def strings_Repeat.f (a0 : ByteArray) (a1 : Int) : Option ByteArray :=
  if a1 = 0 then some ⟨#[]⟩ else if a1 = 1 then some a0 else none
theorem strings_Repeat.calls (a0 : ByteArray) (a1 : Int) (r : ByteArray) (w : World) (h : strings_Repeat.f a0 a1 = some r) :
    Calls Tryd.prog 71 #[.string a0, .int .i64 a1] w fun e w' => e = .returned (.string r) ∧ Below w.heap.size w w' := by
  unfold strings_Repeat.f at h
  by_cases h0 : a1 = 0
  · subst h0
    rw [if_pos rfl] at h
    obtain rfl := Option.some.inj h
    refine (Tryd.strings_Repeat_zero a0 w).mono ?_
    rintro e w' ⟨rfl, rfl⟩
    exact ⟨rfl, Below.refl _ _⟩
  · rw [if_neg h0] at h
    by_cases h1 : a1 = 1
    · subst h1
      rw [if_pos rfl] at h
      obtain rfl := Option.some.inj h
      refine (Tryd.strings_Repeat_one a0 w).mono ?_
      rintro e w' ⟨rfl, rfl⟩
      exact ⟨rfl, Below.refl _ _⟩
    · rw [if_neg h1] at h
      cases h
end Go.Proofs.YtkaknffeoeoajaaDoor.P
namespace Go.Proofs.YtkaknffeoeoajaaDoor.P
set_option linter.unusedVariables false
set_option linter.unusedSimpArgs false
open Go.RowKit Go.Proofs.YtkaknffeoeoajaaDoorW.PrintWords Go.Proofs.YtkaknffeoeoajaaDoorW.PrintLast Go.Proofs.YtkaknffeoeoajaaDoorW.PrintMore

def strconv_FormatInt.f (a0 a1 : Int) : Option ByteArray :=
  if a1 = 10 ∧ -9223372036854775808 ≤ a0 ∧ a0 ≤ 9223372036854775807 then some ⟨(Lib.itoa a0).toArray⟩ else none
theorem strconv_FormatInt.calls (a0 a1 : Int) (r : ByteArray) (w : World) (hX : XW 6 w) (h : strconv_FormatInt.f a0 a1 = some r) :
    Calls Tryd.prog 94 #[.int .i64 a0, .int .i64 a1] w fun e w' => e = .returned (.string r) ∧ Below w.heap.size w w' := by
  unfold strconv_FormatInt.f at h
  split at h
  · rename_i hc
    obtain ⟨rfl, h0, h1⟩ := hc
    obtain rfl := Option.some.inj h
    refine (Tryd.strconv_FormatInt_10 a0 h0 h1 w (hX.pow10 rfl)).mono ?_
    rintro e w' ⟨rfl, k, os, rfl⟩
    exact ⟨rfl, below_grow k os⟩
  · cases h
end Go.Proofs.YtkaknffeoeoajaaDoor.P
namespace Go.Proofs.YtkaknffeoeoajaaDoor.P
open Go.RowKit Go.Proofs.YtkaknffeoeoajaaDoorW.PrintWords Go.Proofs.YtkaknffeoeoajaaDoorW.PrintLast Go.Proofs.YtkaknffeoeoajaaDoorW.PrintMore
attribute [local go_sem] max2_int min2_int max_two min_two max_three min_three max_four min_four   -- for this text's walks alone
set_option linter.unusedVariables false
set_option linter.unusedSimpArgs false

/-! ### impl_decimal: function 70 -/
def impl_decimal.f (a0 : Int) : Option (ByteArray) := (strconv_FormatInt.f a0 10).bind fun t101 => (some t101)
set_option maxHeartbeats 8000000 in
set_option maxRecDepth 100000 in
theorem impl_decimal.calls (a0 : Int) (r : ByteArray) (w : World) (hX : XW 6 w) (h : impl_decimal.f a0 = some r) :
  Calls Tryd.prog 70 #[.int .i64 a0] w fun e w' => e = .returned (.string r) ∧ Below w.heap.size w w' := by
 have HB := Aside0.mk (Below.refl w.heap.size w)
 have H : ((strconv_FormatInt.f a0 10).bind fun t101 => (some t101)) = some r := h
 clear h
 replace H := Option.bind_eq_some_iff.mp H
 obtain ⟨t101, A20, H⟩ := H
 replace H : (some t101) = some r := H
 have A2 := Aside0.mk A20
 clear A20
 obtain rfl := Option.some.inj H
 go_enter Tryd.func70, Tryd.ntmps70
 go_wp2_with (first | ((with_reducible refine gate_callee (f := 94) rfl ?_); refine goesL_ (some 4) rfl rfl Tryd.func94 (by kernel_rfl) rfl #[.int .i64 a0, .int .i64 10] rfl mc ?_; (with_reducible refine (strconv_FormatInt.calls a0 10 t101 _ ?side1 A2.out).mono ?_); (case side1 => exact XW.to (XW.stays hX bh) (by decide)); rintro e w3 ⟨rfl, hb⟩; refine ⟨_, rfl, ?_⟩; replace HB := Aside0.mk (below_step bh hb); (try clear hb); (try clear hb2); (try clear hk); (try clear hi)))
 go_ret
 exact ⟨er, bh⟩
/-! ### impl_padded: function 42 -/
def impl_padded.f (a0 : Int) (a1 : Int) : Option (ByteArray) := (impl_decimal.f a0).bind fun t101 => ((strings_Repeat.f (⟨#[48]⟩ : ByteArray) (mx 0 (wrap64 (a1 - (t101.size : Int))))).bind fun t102 => (if t102.size + t101.size ≤ 9223372036854775807 then (some (t102 ++ t101)) else (none)))
set_option maxHeartbeats 8000000 in
set_option maxRecDepth 100000 in
theorem impl_padded.calls (a0 : Int) (a1 : Int) (r : ByteArray) (w : World) (hX : XW 6 w) (h : impl_padded.f a0 a1 = some r) :
  Calls Tryd.prog 42 #[.int .i64 a0, .int .i64 a1] w fun e w' => e = .returned (.string r) ∧ Below w.heap.size w w' := by
 have HB := Aside0.mk (Below.refl w.heap.size w)
 have H : ((impl_decimal.f a0).bind fun t101 => ((strings_Repeat.f (⟨#[48]⟩ : ByteArray) (mx 0 (wrap64 (a1 - (t101.size : Int))))).bind fun t102 => (if t102.size + t101.size ≤ 9223372036854775807 then (some (t102 ++ t101)) else (none)))) = some r := h
 clear h
 obtain ⟨t101, A30, H⟩ := Option.bind_eq_some_iff.mp H
 try dsimp only at H
 have A3 := Aside0.mk A30
 clear A30
 obtain ⟨ji4, hji4⟩ : ∃ j_ : Int, (mx 0 (wrap64 (a1 - (t101.size : Int)))) = j_ := ⟨_, rfl⟩
 first | (rw [hji4] at H) | (simp only [hji4] at H)
 (try rw [hji4] at A3)
 (try (have hji4l : 0 ≤ ji4 := by (rw [← hji4]; unfold mx; (repeat' split) <;> omega)))
 (try (have hji4m : 0 ≤ ji4 := by omega))
 have hji4_ : (if 0 < (wrap64 (a1 - (t101.size : Int))) then (wrap64 (a1 - (t101.size : Int))) else 0) = ji4 := hji4
 obtain ⟨t102, A50, H⟩ := Option.bind_eq_some_iff.mp H
 try dsimp only at H
 have A5 := Aside0.mk A50
 clear A50
 by_cases c6 : t102.size + t101.size ≤ 9223372036854775807
 ·
  rw [if_pos c6] at H
  have c6b0 := eq_true c6
  have c6b1 : decide (t102.size + t101.size ≤ 9223372036854775807) = true := decide_eq_true c6
  try have c6b2 : (9223372036854775807 < t102.size + t101.size) = False := eq_false (Nat.not_lt.2 c6)
  obtain rfl := Option.some.inj H
  go_enter Tryd.func42, Tryd.ntmps42
  go_wp2_with (first | ((with_reducible refine gate_callee (f := 70) rfl ?_); refine goesL_ (some 7) rfl rfl Tryd.func70 (by kernel_rfl) rfl #[.int .i64 a0] rfl mc ?_; (with_reducible refine (impl_decimal.calls a0 t101 _ ?side1 A3.out).mono ?_); (case side1 => exact XW.to (XW.stays hX bh) (by decide)); rintro e w7 ⟨rfl, hb⟩; refine ⟨_, rfl, ?_⟩; replace HB := Aside0.mk (below_step bh hb); (try clear hb); (try clear hb2); (try clear hk); (try clear hi)) | ((with_reducible refine gate_callee (f := 71) rfl ?_); refine goesL_ (some 13) rfl rfl Tryd.func71 (by kernel_rfl) rfl #[.string (⟨#[48]⟩ : ByteArray), .int .i64 ji4] rfl (by (try simp only [List.map_toArray, List.map_cons, List.map_nil]); first | done | (simp only [hji4]; rfl) | rfl | (simp only [List.length_drop, List.length_take]; rfl)) ?_; (with_reducible refine (strings_Repeat.calls (⟨#[48]⟩ : ByteArray) ji4 t102 _ A5.out).mono ?_); rintro e w8 ⟨rfl, hb⟩; refine ⟨_, rfl, ?_⟩; replace HB := Aside0.mk (below_step bh hb); (try clear hb); (try clear hb2); (try clear hk); (try clear hi)))
  go_ret
  exact ⟨by first | rfl | (simp [errW_none, errW_some] <;> rfl) | (simp only [← hji4]; first | rfl | (simp [errW_none, errW_some] <;> rfl)) | (simp [*, errW_none, errW_some] <;> rfl), bh⟩
 ·
  rw [if_neg c6] at H
  exact absurd H (by simp)
/-! ### impl_ShowDate: function 17 -/
def impl_ShowDate.f (k : Nat) (a0_0 : Int) (a0_1 : Int) (a0_2 : Int) (a0_3 : Int) (a0_4 : Int) (a0_5 : Int) : Option (ByteArray) := (impl_DateOk.f k a0_0 a0_1 a0_2 a0_3 a0_4 a0_5).bind fun t102 => (if t102 = true then ((impl_Weekday.f k a0_0 a0_1 a0_2 a0_3 a0_4 a0_5).bind fun t103 => (if 0 ≤ (wrap64 (3 * t103)) then (if (wrap64 (3 * t103)) ≤ (wrap64 ((wrap64 (3 * t103)) + 3)) then (if (wrap64 ((wrap64 (3 * t103)) + 3)) ≤ 21 then (if ((⟨#[83, 117, 110, 77, 111, 110, 84, 117, 101, 87, 101, 100, 84, 104, 117, 70, 114, 105, 83, 97, 116]⟩ : ByteArray).extract ((wrap64 (3 * t103)) : Int).toNat ((wrap64 ((wrap64 (3 * t103)) + 3)) : Int).toNat).size + 2 ≤ 9223372036854775807 then ((impl_padded.f a0_2 2).bind fun t104 => (if (((⟨#[83, 117, 110, 77, 111, 110, 84, 117, 101, 87, 101, 100, 84, 104, 117, 70, 114, 105, 83, 97, 116]⟩ : ByteArray).extract ((wrap64 (3 * t103)) : Int).toNat ((wrap64 ((wrap64 (3 * t103)) + 3)) : Int).toNat) ++ (⟨#[44, 32]⟩ : ByteArray)).size + t104.size ≤ 9223372036854775807 then (if ((((⟨#[83, 117, 110, 77, 111, 110, 84, 117, 101, 87, 101, 100, 84, 104, 117, 70, 114, 105, 83, 97, 116]⟩ : ByteArray).extract ((wrap64 (3 * t103)) : Int).toNat ((wrap64 ((wrap64 (3 * t103)) + 3)) : Int).toNat) ++ (⟨#[44, 32]⟩ : ByteArray)) ++ t104).size + 1 ≤ 9223372036854775807 then (if 0 ≤ (wrap64 (3 * (wrap64 (a0_1 - 1)))) then (if (wrap64 (3 * (wrap64 (a0_1 - 1)))) ≤ (wrap64 ((wrap64 (3 * (wrap64 (a0_1 - 1)))) + 3)) then (if (wrap64 ((wrap64 (3 * (wrap64 (a0_1 - 1)))) + 3)) ≤ 36 then (if (((((⟨#[83, 117, 110, 77, 111, 110, 84, 117, 101, 87, 101, 100, 84, 104, 117, 70, 114, 105, 83, 97, 116]⟩ : ByteArray).extract ((wrap64 (3 * t103)) : Int).toNat ((wrap64 ((wrap64 (3 * t103)) + 3)) : Int).toNat) ++ (⟨#[44, 32]⟩ : ByteArray)) ++ t104) ++ (⟨#[32]⟩ : ByteArray)).size + ((⟨#[74, 97, 110, 70, 101, 98, 77, 97, 114, 65, 112, 114, 77, 97, 121, 74, 117, 110, 74, 117, 108, 65, 117, 103, 83, 101, 112, 79, 99, 116, 78, 111, 118, 68, 101, 99]⟩ : ByteArray).extract ((wrap64 (3 * (wrap64 (a0_1 - 1)))) : Int).toNat ((wrap64 ((wrap64 (3 * (wrap64 (a0_1 - 1)))) + 3)) : Int).toNat).size ≤ 9223372036854775807 then (if ((((((⟨#[83, 117, 110, 77, 111, 110, 84, 117, 101, 87, 101, 100, 84, 104, 117, 70, 114, 105, 83, 97, 116]⟩ : ByteArray).extract ((wrap64 (3 * t103)) : Int).toNat ((wrap64 ((wrap64 (3 * t103)) + 3)) : Int).toNat) ++ (⟨#[44, 32]⟩ : ByteArray)) ++ t104) ++ (⟨#[32]⟩ : ByteArray)) ++ ((⟨#[74, 97, 110, 70, 101, 98, 77, 97, 114, 65, 112, 114, 77, 97, 121, 74, 117, 110, 74, 117, 108, 65, 117, 103, 83, 101, 112, 79, 99, 116, 78, 111, 118, 68, 101, 99]⟩ : ByteArray).extract ((wrap64 (3 * (wrap64 (a0_1 - 1)))) : Int).toNat ((wrap64 ((wrap64 (3 * (wrap64 (a0_1 - 1)))) + 3)) : Int).toNat)).size + 1 ≤ 9223372036854775807 then ((impl_padded.f a0_0 4).bind fun t105 => (if (((((((⟨#[83, 117, 110, 77, 111, 110, 84, 117, 101, 87, 101, 100, 84, 104, 117, 70, 114, 105, 83, 97, 116]⟩ : ByteArray).extract ((wrap64 (3 * t103)) : Int).toNat ((wrap64 ((wrap64 (3 * t103)) + 3)) : Int).toNat) ++ (⟨#[44, 32]⟩ : ByteArray)) ++ t104) ++ (⟨#[32]⟩ : ByteArray)) ++ ((⟨#[74, 97, 110, 70, 101, 98, 77, 97, 114, 65, 112, 114, 77, 97, 121, 74, 117, 110, 74, 117, 108, 65, 117, 103, 83, 101, 112, 79, 99, 116, 78, 111, 118, 68, 101, 99]⟩ : ByteArray).extract ((wrap64 (3 * (wrap64 (a0_1 - 1)))) : Int).toNat ((wrap64 ((wrap64 (3 * (wrap64 (a0_1 - 1)))) + 3)) : Int).toNat)) ++ (⟨#[32]⟩ : ByteArray)).size + t105.size ≤ 9223372036854775807 then (if ((((((((⟨#[83, 117, 110, 77, 111, 110, 84, 117, 101, 87, 101, 100, 84, 104, 117, 70, 114, 105, 83, 97, 116]⟩ : ByteArray).extract ((wrap64 (3 * t103)) : Int).toNat ((wrap64 ((wrap64 (3 * t103)) + 3)) : Int).toNat) ++ (⟨#[44, 32]⟩ : ByteArray)) ++ t104) ++ (⟨#[32]⟩ : ByteArray)) ++ ((⟨#[74, 97, 110, 70, 101, 98, 77, 97, 114, 65, 112, 114, 77, 97, 121, 74, 117, 110, 74, 117, 108, 65, 117, 103, 83, 101, 112, 79, 99, 116, 78, 111, 118, 68, 101, 99]⟩ : ByteArray).extract ((wrap64 (3 * (wrap64 (a0_1 - 1)))) : Int).toNat ((wrap64 ((wrap64 (3 * (wrap64 (a0_1 - 1)))) + 3)) : Int).toNat)) ++ (⟨#[32]⟩ : ByteArray)) ++ t105).size + 1 ≤ 9223372036854775807 then ((impl_padded.f a0_3 2).bind fun t106 => (if (((((((((⟨#[83, 117, 110, 77, 111, 110, 84, 117, 101, 87, 101, 100, 84, 104, 117, 70, 114, 105, 83, 97, 116]⟩ : ByteArray).extract ((wrap64 (3 * t103)) : Int).toNat ((wrap64 ((wrap64 (3 * t103)) + 3)) : Int).toNat) ++ (⟨#[44, 32]⟩ : ByteArray)) ++ t104) ++ (⟨#[32]⟩ : ByteArray)) ++ ((⟨#[74, 97, 110, 70, 101, 98, 77, 97, 114, 65, 112, 114, 77, 97, 121, 74, 117, 110, 74, 117, 108, 65, 117, 103, 83, 101, 112, 79, 99, 116, 78, 111, 118, 68, 101, 99]⟩ : ByteArray).extract ((wrap64 (3 * (wrap64 (a0_1 - 1)))) : Int).toNat ((wrap64 ((wrap64 (3 * (wrap64 (a0_1 - 1)))) + 3)) : Int).toNat)) ++ (⟨#[32]⟩ : ByteArray)) ++ t105) ++ (⟨#[32]⟩ : ByteArray)).size + t106.size ≤ 9223372036854775807 then (if ((((((((((⟨#[83, 117, 110, 77, 111, 110, 84, 117, 101, 87, 101, 100, 84, 104, 117, 70, 114, 105, 83, 97, 116]⟩ : ByteArray).extract ((wrap64 (3 * t103)) : Int).toNat ((wrap64 ((wrap64 (3 * t103)) + 3)) : Int).toNat) ++ (⟨#[44, 32]⟩ : ByteArray)) ++ t104) ++ (⟨#[32]⟩ : ByteArray)) ++ ((⟨#[74, 97, 110, 70, 101, 98, 77, 97, 114, 65, 112, 114, 77, 97, 121, 74, 117, 110, 74, 117, 108, 65, 117, 103, 83, 101, 112, 79, 99, 116, 78, 111, 118, 68, 101, 99]⟩ : ByteArray).extract ((wrap64 (3 * (wrap64 (a0_1 - 1)))) : Int).toNat ((wrap64 ((wrap64 (3 * (wrap64 (a0_1 - 1)))) + 3)) : Int).toNat)) ++ (⟨#[32]⟩ : ByteArray)) ++ t105) ++ (⟨#[32]⟩ : ByteArray)) ++ t106).size + 1 ≤ 9223372036854775807 then ((impl_padded.f a0_4 2).bind fun t107 => (if (((((((((((⟨#[83, 117, 110, 77, 111, 110, 84, 117, 101, 87, 101, 100, 84, 104, 117, 70, 114, 105, 83, 97, 116]⟩ : ByteArray).extract ((wrap64 (3 * t103)) : Int).toNat ((wrap64 ((wrap64 (3 * t103)) + 3)) : Int).toNat) ++ (⟨#[44, 32]⟩ : ByteArray)) ++ t104) ++ (⟨#[32]⟩ : ByteArray)) ++ ((⟨#[74, 97, 110, 70, 101, 98, 77, 97, 114, 65, 112, 114, 77, 97, 121, 74, 117, 110, 74, 117, 108, 65, 117, 103, 83, 101, 112, 79, 99, 116, 78, 111, 118, 68, 101, 99]⟩ : ByteArray).extract ((wrap64 (3 * (wrap64 (a0_1 - 1)))) : Int).toNat ((wrap64 ((wrap64 (3 * (wrap64 (a0_1 - 1)))) + 3)) : Int).toNat)) ++ (⟨#[32]⟩ : ByteArray)) ++ t105) ++ (⟨#[32]⟩ : ByteArray)) ++ t106) ++ (⟨#[58]⟩ : ByteArray)).size + t107.size ≤ 9223372036854775807 then (if ((((((((((((⟨#[83, 117, 110, 77, 111, 110, 84, 117, 101, 87, 101, 100, 84, 104, 117, 70, 114, 105, 83, 97, 116]⟩ : ByteArray).extract ((wrap64 (3 * t103)) : Int).toNat ((wrap64 ((wrap64 (3 * t103)) + 3)) : Int).toNat) ++ (⟨#[44, 32]⟩ : ByteArray)) ++ t104) ++ (⟨#[32]⟩ : ByteArray)) ++ ((⟨#[74, 97, 110, 70, 101, 98, 77, 97, 114, 65, 112, 114, 77, 97, 121, 74, 117, 110, 74, 117, 108, 65, 117, 103, 83, 101, 112, 79, 99, 116, 78, 111, 118, 68, 101, 99]⟩ : ByteArray).extract ((wrap64 (3 * (wrap64 (a0_1 - 1)))) : Int).toNat ((wrap64 ((wrap64 (3 * (wrap64 (a0_1 - 1)))) + 3)) : Int).toNat)) ++ (⟨#[32]⟩ : ByteArray)) ++ t105) ++ (⟨#[32]⟩ : ByteArray)) ++ t106) ++ (⟨#[58]⟩ : ByteArray)) ++ t107).size + 1 ≤ 9223372036854775807 then ((impl_padded.f a0_5 2).bind fun t108 => (if (((((((((((((⟨#[83, 117, 110, 77, 111, 110, 84, 117, 101, 87, 101, 100, 84, 104, 117, 70, 114, 105, 83, 97, 116]⟩ : ByteArray).extract ((wrap64 (3 * t103)) : Int).toNat ((wrap64 ((wrap64 (3 * t103)) + 3)) : Int).toNat) ++ (⟨#[44, 32]⟩ : ByteArray)) ++ t104) ++ (⟨#[32]⟩ : ByteArray)) ++ ((⟨#[74, 97, 110, 70, 101, 98, 77, 97, 114, 65, 112, 114, 77, 97, 121, 74, 117, 110, 74, 117, 108, 65, 117, 103, 83, 101, 112, 79, 99, 116, 78, 111, 118, 68, 101, 99]⟩ : ByteArray).extract ((wrap64 (3 * (wrap64 (a0_1 - 1)))) : Int).toNat ((wrap64 ((wrap64 (3 * (wrap64 (a0_1 - 1)))) + 3)) : Int).toNat)) ++ (⟨#[32]⟩ : ByteArray)) ++ t105) ++ (⟨#[32]⟩ : ByteArray)) ++ t106) ++ (⟨#[58]⟩ : ByteArray)) ++ t107) ++ (⟨#[58]⟩ : ByteArray)).size + t108.size ≤ 9223372036854775807 then (if ((((((((((((((⟨#[83, 117, 110, 77, 111, 110, 84, 117, 101, 87, 101, 100, 84, 104, 117, 70, 114, 105, 83, 97, 116]⟩ : ByteArray).extract ((wrap64 (3 * t103)) : Int).toNat ((wrap64 ((wrap64 (3 * t103)) + 3)) : Int).toNat) ++ (⟨#[44, 32]⟩ : ByteArray)) ++ t104) ++ (⟨#[32]⟩ : ByteArray)) ++ ((⟨#[74, 97, 110, 70, 101, 98, 77, 97, 114, 65, 112, 114, 77, 97, 121, 74, 117, 110, 74, 117, 108, 65, 117, 103, 83, 101, 112, 79, 99, 116, 78, 111, 118, 68, 101, 99]⟩ : ByteArray).extract ((wrap64 (3 * (wrap64 (a0_1 - 1)))) : Int).toNat ((wrap64 ((wrap64 (3 * (wrap64 (a0_1 - 1)))) + 3)) : Int).toNat)) ++ (⟨#[32]⟩ : ByteArray)) ++ t105) ++ (⟨#[32]⟩ : ByteArray)) ++ t106) ++ (⟨#[58]⟩ : ByteArray)) ++ t107) ++ (⟨#[58]⟩ : ByteArray)) ++ t108).size + 4 ≤ 9223372036854775807 then (some (((((((((((((((⟨#[83, 117, 110, 77, 111, 110, 84, 117, 101, 87, 101, 100, 84, 104, 117, 70, 114, 105, 83, 97, 116]⟩ : ByteArray).extract ((wrap64 (3 * t103)) : Int).toNat ((wrap64 ((wrap64 (3 * t103)) + 3)) : Int).toNat) ++ (⟨#[44, 32]⟩ : ByteArray)) ++ t104) ++ (⟨#[32]⟩ : ByteArray)) ++ ((⟨#[74, 97, 110, 70, 101, 98, 77, 97, 114, 65, 112, 114, 77, 97, 121, 74, 117, 110, 74, 117, 108, 65, 117, 103, 83, 101, 112, 79, 99, 116, 78, 111, 118, 68, 101, 99]⟩ : ByteArray).extract ((wrap64 (3 * (wrap64 (a0_1 - 1)))) : Int).toNat ((wrap64 ((wrap64 (3 * (wrap64 (a0_1 - 1)))) + 3)) : Int).toNat)) ++ (⟨#[32]⟩ : ByteArray)) ++ t105) ++ (⟨#[32]⟩ : ByteArray)) ++ t106) ++ (⟨#[58]⟩ : ByteArray)) ++ t107) ++ (⟨#[58]⟩ : ByteArray)) ++ t108) ++ (⟨#[32, 71, 77, 84]⟩ : ByteArray))) else (none)) else (none))) else (none)) else (none))) else (none)) else (none))) else (none)) else (none))) else (none)) else (none)) else (none)) else (none)) else (none)) else (none)) else (none))) else (none)) else (none)) else (none)) else (none))) else (some (⟨#[]⟩ : ByteArray)))
theorem impl_ShowDate.mono : ∀ a0 a1 a2 a3 a4 a5 k, LeO (impl_ShowDate.f k a0 a1 a2 a3 a4 a5) (impl_ShowDate.f (k + 1) a0 a1 a2 a3 a4 a5) := by
 intro a0 a1 a2 a3 a4 a5 k
 unfold impl_ShowDate.f
 repeat' first
   | (with_reducible exact impl_DateOk.mono _ _ _ _ _ _ _)
   | (with_reducible exact impl_Weekday.mono _ _ _ _ _ _ _)
   | (with_reducible exact LeO.refl _)
   | (with_reducible exact LeO.none _)
   | (with_reducible refine LeO.ite ?_ ?_)
   | (with_reducible refine LeO.bind ?_ (fun _ => ?_))
   | exact impl_DateOk.mono _ _ _ _ _ _ _
   | exact impl_Weekday.mono _ _ _ _ _ _ _
   | exact LeO.none _
   | refine LeO.ite ?_ ?_
   | refine LeO.bind ?_ (fun _ => ?_)
def impl_ShowDate.T3 : Bool × List (List Nat × List Nat) := (true, [([], []), ([0], [0]), ([1], [1]), ([], []), ([3], [3]), ([4], [4]), ([5], [5]), ([2, 1, 0, 1, 2], [2]), ([6, 7, 0, 1, 2, 3, 4, 5, 6, 7], [6])])
def impl_ShowDate.B3 : List Nat := [0, 1, 3, 0, 8, 24, 56, 7, 255]
theorem impl_ShowDate.tab3 : rtab .any (opsOf Tryd.f17 3) = impl_ShowDate.T3 := by kernel_rfl
theorem impl_ShowDate.bits3 : waitsOk impl_ShowDate.T3.2 impl_ShowDate.B3 = true := by kernel_rfl
def impl_ShowDate.T4 : Bool × List (List Nat × List Nat) := (true, [([], []), ([], []), ([1], [1]), ([0, 2], [0, 2]), ([3], [3]), ([], []), ([5], [5]), ([6], [6]), ([4, 7], [4, 7]), ([8], [8]), ([], []), ([], []), ([11], [11]), ([10, 12], [10, 12]), ([9, 13], [9, 13]), ([14], [14]), ([], []), ([16], [16]), ([17, 7], [17]), ([15, 18], [15, 18]), ([19], [19]), ([], []), ([21], [21]), ([22, 18], [22]), ([20, 23], [20, 23]), ([24], [24]), ([], []), ([26], [26]), ([27, 23], [27]), ([25, 28], [25, 28]), ([29], [29]), ([], []), ([31], [31]), ([32, 28], [32]), ([30, 33], [30, 33]), ([34], [34]), ([35, 33, 0, 1, 2, 3, 4, 5, 6, 7, 8, 9, 10, 11, 12, 13, 14, 15, 16, 17, 18, 19, 20, 21, 22, 23, 24, 25, 26, 27, 28, 29, 30, 31, 32, 33, 34, 35], [35])])
def impl_ShowDate.B4 : List Nat := [0, 0, 2, 7, 15, 0, 32, 96, 255, 511, 0, 0, 2048, 7168, 16383, 32767, 0, 65536, 196832, 524287, 1048575, 0, 2097152, 6750432, 16777215, 33554431, 0, 67108864, 216465632, 536870911, 1073741823, 0, 2147483648, 6927352032, 17179869183, 34359738367, 68719476735]
theorem impl_ShowDate.tab4 : rtab .any (opsOf Tryd.f17 4) = impl_ShowDate.T4 := by kernel_rfl
theorem impl_ShowDate.bits4 : waitsOk impl_ShowDate.T4.2 impl_ShowDate.B4 = true := by kernel_rfl
set_option maxHeartbeats 8000000 in
set_option maxRecDepth 100000 in
theorem impl_ShowDate.calls (k : Nat) (a0_0 : Int) (a0_1 : Int) (a0_2 : Int) (a0_3 : Int) (a0_4 : Int) (a0_5 : Int) (r : ByteArray) (w : World) (hX : XW 6 w) (h : impl_ShowDate.f k a0_0 a0_1 a0_2 a0_3 a0_4 a0_5 = some r) :
  Calls Tryd.prog 17 #[.agg #[.int .i64 a0_0, .int .i64 a0_1, .int .i64 a0_2, .int .i64 a0_3, .int .i64 a0_4, .int .i64 a0_5]] w fun e w' => e = .returned (.string r) ∧ Below w.heap.size w w' := by
 have hu34 := Tryd.underlying34
 have HB := Aside0.mk (Below.refl w.heap.size w)
 have H := h
 unfold impl_ShowDate.f at H
 clear h
 obtain ⟨t102, A20, H⟩ := Option.bind_eq_some_iff.mp H
 try dsimp only at H
 have A2 := Aside0.mk A20
 clear A20
 by_cases c3 : t102 = true
 ·
  subst c3
  rw [if_pos rfl] at H
  obtain ⟨t103, A40, H⟩ := Option.bind_eq_some_iff.mp H
  try dsimp only at H
  have A4 := Aside0.mk A40
  clear A40
  obtain ⟨ji5, hji5⟩ : ∃ j_ : Int, (wrap64 (3 * t103)) = j_ := ⟨_, rfl⟩
  first | (rw [hji5] at H) | (simp only [hji5] at H)
  (try rw [hji5] at A2)
  (try rw [hji5] at A4)
  have hji5w : (IntKind.i64.wrap (3 * t103)) = ji5 := (i64_w _).trans hji5
  by_cases c6 : 0 ≤ (ji5)
  ·
   rw [if_pos c6] at H
   have c6b0 := eq_true c6
   have c6b1 : decide (0 ≤ (ji5)) = true := decide_eq_true c6
   clear c6
   by_cases c7 : (ji5) ≤ (wrap64 ((ji5) + 3))
   ·
    rw [if_pos c7] at H
    have c7b0 := eq_true c7
    have c7b1 : decide ((ji5) ≤ (wrap64 ((ji5) + 3))) = true := decide_eq_true c7
    by_cases c8 : (wrap64 ((ji5) + 3)) ≤ 21
    ·
     rw [if_pos c8] at H
     have c8b0 := eq_true c8
     have c8b1 : decide ((wrap64 ((ji5) + 3)) ≤ 21) = true := decide_eq_true c8
     obtain ⟨ex0, hex0⟩ : ∃ t_ : ByteArray, ((⟨#[83, 117, 110, 77, 111, 110, 84, 117, 101, 87, 101, 100, 84, 104, 117, 70, 114, 105, 83, 97, 116]⟩ : ByteArray).extract ((ji5) : Int).toNat ((wrap64 ((ji5) + 3)) : Int).toNat) = t_ := ⟨_, rfl⟩
     rw [hex0] at H
     by_cases c9 : (ex0).size + 2 ≤ 9223372036854775807
     ·
      rw [if_pos c9] at H
      have c9b0 := eq_true c9
      have c9b1 : decide ((ex0).size + 2 ≤ 9223372036854775807) = true := decide_eq_true c9
      try have c9b2 : (9223372036854775807 < (ex0).size + 2) = False := eq_false (Nat.not_lt.2 c9)
      obtain ⟨t104, A100, H⟩ := Option.bind_eq_some_iff.mp H
      try dsimp only at H
      have A10 := Aside0.mk A100
      clear A100
      by_cases c11 : ((ex0) ++ (⟨#[44, 32]⟩ : ByteArray)).size + t104.size ≤ 9223372036854775807
      ·
       rw [if_pos c11] at H
       have c11b0 := eq_true c11
       have c11b1 : decide (((ex0) ++ (⟨#[44, 32]⟩ : ByteArray)).size + t104.size ≤ 9223372036854775807) = true := decide_eq_true c11
       try have c11b2 : (9223372036854775807 < ((ex0) ++ (⟨#[44, 32]⟩ : ByteArray)).size + t104.size) = False := eq_false (Nat.not_lt.2 c11)
       try have c11n3 := by have z_ := c11b2; simp only [ByteArray.size_append', ByteArray.size_mk', List.size_toArray, List.length_cons, List.length_nil, Nat.zero_add, Nat.reduceAdd] at z_; exact z_
       by_cases c12 : (((ex0) ++ (⟨#[44, 32]⟩ : ByteArray)) ++ t104).size + 1 ≤ 9223372036854775807
       ·
        rw [if_pos c12] at H
        have c12b0 := eq_true c12
        have c12b1 : decide ((((ex0) ++ (⟨#[44, 32]⟩ : ByteArray)) ++ t104).size + 1 ≤ 9223372036854775807) = true := decide_eq_true c12
        try have c12b2 : (9223372036854775807 < (((ex0) ++ (⟨#[44, 32]⟩ : ByteArray)) ++ t104).size + 1) = False := eq_false (Nat.not_lt.2 c12)
        try have c12n3 := by have z_ := c12b2; simp only [ByteArray.size_append', ByteArray.size_mk', List.size_toArray, List.length_cons, List.length_nil, Nat.zero_add, Nat.reduceAdd] at z_; exact z_
        obtain ⟨ji13, hji13⟩ : ∃ j_ : Int, (wrap64 (3 * (wrap64 (a0_1 - 1)))) = j_ := ⟨_, rfl⟩
        first | (rw [hji13] at H) | (simp only [hji13] at H)
        (try rw [hji13] at A2)
        (try rw [hji13] at A4)
        (try rw [hji13] at A10)
        have hji13w : (IntKind.i64.wrap (3 * (wrap64 (a0_1 - 1)))) = ji13 := (i64_w _).trans hji13
        by_cases c14 : 0 ≤ (ji13)
        ·
         rw [if_pos c14] at H
         have c14b0 := eq_true c14
         have c14b1 : decide (0 ≤ (ji13)) = true := decide_eq_true c14
         clear c14
         by_cases c15 : (ji13) ≤ (wrap64 ((ji13) + 3))
         ·
          rw [if_pos c15] at H
          have c15b0 := eq_true c15
          have c15b1 : decide ((ji13) ≤ (wrap64 ((ji13) + 3))) = true := decide_eq_true c15
          by_cases c16 : (wrap64 ((ji13) + 3)) ≤ 36
          ·
           rw [if_pos c16] at H
           have c16b0 := eq_true c16
           have c16b1 : decide ((wrap64 ((ji13) + 3)) ≤ 36) = true := decide_eq_true c16
           obtain ⟨ex1, hex1⟩ : ∃ t_ : ByteArray, ((⟨#[74, 97, 110, 70, 101, 98, 77, 97, 114, 65, 112, 114, 77, 97, 121, 74, 117, 110, 74, 117, 108, 65, 117, 103, 83, 101, 112, 79, 99, 116, 78, 111, 118, 68, 101, 99]⟩ : ByteArray).extract ((ji13) : Int).toNat ((wrap64 ((ji13) + 3)) : Int).toNat) = t_ := ⟨_, rfl⟩
           rw [hex1] at H
           by_cases c17 : ((((ex0) ++ (⟨#[44, 32]⟩ : ByteArray)) ++ t104) ++ (⟨#[32]⟩ : ByteArray)).size + (ex1).size ≤ 9223372036854775807
           ·
            rw [if_pos c17] at H
            have c17b0 := eq_true c17
            have c17b1 : decide (((((ex0) ++ (⟨#[44, 32]⟩ : ByteArray)) ++ t104) ++ (⟨#[32]⟩ : ByteArray)).size + (ex1).size ≤ 9223372036854775807) = true := decide_eq_true c17
            try have c17b2 : (9223372036854775807 < ((((ex0) ++ (⟨#[44, 32]⟩ : ByteArray)) ++ t104) ++ (⟨#[32]⟩ : ByteArray)).size + (ex1).size) = False := eq_false (Nat.not_lt.2 c17)
            try have c17n3 := by have z_ := c17b2; simp only [ByteArray.size_append', ByteArray.size_mk', List.size_toArray, List.length_cons, List.length_nil, Nat.zero_add, Nat.reduceAdd] at z_; exact z_
            by_cases c18 : (((((ex0) ++ (⟨#[44, 32]⟩ : ByteArray)) ++ t104) ++ (⟨#[32]⟩ : ByteArray)) ++ (ex1)).size + 1 ≤ 9223372036854775807
            ·
             rw [if_pos c18] at H
             have c18b0 := eq_true c18
             have c18b1 : decide ((((((ex0) ++ (⟨#[44, 32]⟩ : ByteArray)) ++ t104) ++ (⟨#[32]⟩ : ByteArray)) ++ (ex1)).size + 1 ≤ 9223372036854775807) = true := decide_eq_true c18
             try have c18b2 : (9223372036854775807 < (((((ex0) ++ (⟨#[44, 32]⟩ : ByteArray)) ++ t104) ++ (⟨#[32]⟩ : ByteArray)) ++ (ex1)).size + 1) = False := eq_false (Nat.not_lt.2 c18)
             try have c18n3 := by have z_ := c18b2; simp only [ByteArray.size_append', ByteArray.size_mk', List.size_toArray, List.length_cons, List.length_nil, Nat.zero_add, Nat.reduceAdd] at z_; exact z_
             obtain ⟨t105, A190, H⟩ := Option.bind_eq_some_iff.mp H
             try dsimp only at H
             have A19 := Aside0.mk A190
             clear A190
             by_cases c20 : ((((((ex0) ++ (⟨#[44, 32]⟩ : ByteArray)) ++ t104) ++ (⟨#[32]⟩ : ByteArray)) ++ (ex1)) ++ (⟨#[32]⟩ : ByteArray)).size + t105.size ≤ 9223372036854775807
             ·
              rw [if_pos c20] at H
              have c20b0 := eq_true c20
              have c20b1 : decide (((((((ex0) ++ (⟨#[44, 32]⟩ : ByteArray)) ++ t104) ++ (⟨#[32]⟩ : ByteArray)) ++ (ex1)) ++ (⟨#[32]⟩ : ByteArray)).size + t105.size ≤ 9223372036854775807) = true := decide_eq_true c20
              try have c20b2 : (9223372036854775807 < ((((((ex0) ++ (⟨#[44, 32]⟩ : ByteArray)) ++ t104) ++ (⟨#[32]⟩ : ByteArray)) ++ (ex1)) ++ (⟨#[32]⟩ : ByteArray)).size + t105.size) = False := eq_false (Nat.not_lt.2 c20)
              try have c20n3 := by have z_ := c20b2; simp only [ByteArray.size_append', ByteArray.size_mk', List.size_toArray, List.length_cons, List.length_nil, Nat.zero_add, Nat.reduceAdd] at z_; exact z_
              by_cases c21 : (((((((ex0) ++ (⟨#[44, 32]⟩ : ByteArray)) ++ t104) ++ (⟨#[32]⟩ : ByteArray)) ++ (ex1)) ++ (⟨#[32]⟩ : ByteArray)) ++ t105).size + 1 ≤ 9223372036854775807
              ·
               rw [if_pos c21] at H
               have c21b0 := eq_true c21
               have c21b1 : decide ((((((((ex0) ++ (⟨#[44, 32]⟩ : ByteArray)) ++ t104) ++ (⟨#[32]⟩ : ByteArray)) ++ (ex1)) ++ (⟨#[32]⟩ : ByteArray)) ++ t105).size + 1 ≤ 9223372036854775807) = true := decide_eq_true c21
               try have c21b2 : (9223372036854775807 < (((((((ex0) ++ (⟨#[44, 32]⟩ : ByteArray)) ++ t104) ++ (⟨#[32]⟩ : ByteArray)) ++ (ex1)) ++ (⟨#[32]⟩ : ByteArray)) ++ t105).size + 1) = False := eq_false (Nat.not_lt.2 c21)
               try have c21n3 := by have z_ := c21b2; simp only [ByteArray.size_append', ByteArray.size_mk', List.size_toArray, List.length_cons, List.length_nil, Nat.zero_add, Nat.reduceAdd] at z_; exact z_
               obtain ⟨t106, A220, H⟩ := Option.bind_eq_some_iff.mp H
               try dsimp only at H
               have A22 := Aside0.mk A220
               clear A220
               by_cases c23 : ((((((((ex0) ++ (⟨#[44, 32]⟩ : ByteArray)) ++ t104) ++ (⟨#[32]⟩ : ByteArray)) ++ (ex1)) ++ (⟨#[32]⟩ : ByteArray)) ++ t105) ++ (⟨#[32]⟩ : ByteArray)).size + t106.size ≤ 9223372036854775807
               ·
                rw [if_pos c23] at H
                have c23b0 := eq_true c23
                have c23b1 : decide (((((((((ex0) ++ (⟨#[44, 32]⟩ : ByteArray)) ++ t104) ++ (⟨#[32]⟩ : ByteArray)) ++ (ex1)) ++ (⟨#[32]⟩ : ByteArray)) ++ t105) ++ (⟨#[32]⟩ : ByteArray)).size + t106.size ≤ 9223372036854775807) = true := decide_eq_true c23
                try have c23b2 : (9223372036854775807 < ((((((((ex0) ++ (⟨#[44, 32]⟩ : ByteArray)) ++ t104) ++ (⟨#[32]⟩ : ByteArray)) ++ (ex1)) ++ (⟨#[32]⟩ : ByteArray)) ++ t105) ++ (⟨#[32]⟩ : ByteArray)).size + t106.size) = False := eq_false (Nat.not_lt.2 c23)
                try have c23n3 := by have z_ := c23b2; simp only [ByteArray.size_append', ByteArray.size_mk', List.size_toArray, List.length_cons, List.length_nil, Nat.zero_add, Nat.reduceAdd] at z_; exact z_
                by_cases c24 : (((((((((ex0) ++ (⟨#[44, 32]⟩ : ByteArray)) ++ t104) ++ (⟨#[32]⟩ : ByteArray)) ++ (ex1)) ++ (⟨#[32]⟩ : ByteArray)) ++ t105) ++ (⟨#[32]⟩ : ByteArray)) ++ t106).size + 1 ≤ 9223372036854775807
                ·
                 rw [if_pos c24] at H
                 have c24b0 := eq_true c24
                 have c24b1 : decide ((((((((((ex0) ++ (⟨#[44, 32]⟩ : ByteArray)) ++ t104) ++ (⟨#[32]⟩ : ByteArray)) ++ (ex1)) ++ (⟨#[32]⟩ : ByteArray)) ++ t105) ++ (⟨#[32]⟩ : ByteArray)) ++ t106).size + 1 ≤ 9223372036854775807) = true := decide_eq_true c24
                 try have c24b2 : (9223372036854775807 < (((((((((ex0) ++ (⟨#[44, 32]⟩ : ByteArray)) ++ t104) ++ (⟨#[32]⟩ : ByteArray)) ++ (ex1)) ++ (⟨#[32]⟩ : ByteArray)) ++ t105) ++ (⟨#[32]⟩ : ByteArray)) ++ t106).size + 1) = False := eq_false (Nat.not_lt.2 c24)
                 try have c24n3 := by have z_ := c24b2; simp only [ByteArray.size_append', ByteArray.size_mk', List.size_toArray, List.length_cons, List.length_nil, Nat.zero_add, Nat.reduceAdd] at z_; exact z_
                 obtain ⟨t107, A250, H⟩ := Option.bind_eq_some_iff.mp H
                 try dsimp only at H
                 have A25 := Aside0.mk A250
                 clear A250
                 by_cases c26 : ((((((((((ex0) ++ (⟨#[44, 32]⟩ : ByteArray)) ++ t104) ++ (⟨#[32]⟩ : ByteArray)) ++ (ex1)) ++ (⟨#[32]⟩ : ByteArray)) ++ t105) ++ (⟨#[32]⟩ : ByteArray)) ++ t106) ++ (⟨#[58]⟩ : ByteArray)).size + t107.size ≤ 9223372036854775807
                 ·
                  rw [if_pos c26] at H
                  have c26b0 := eq_true c26
                  have c26b1 : decide (((((((((((ex0) ++ (⟨#[44, 32]⟩ : ByteArray)) ++ t104) ++ (⟨#[32]⟩ : ByteArray)) ++ (ex1)) ++ (⟨#[32]⟩ : ByteArray)) ++ t105) ++ (⟨#[32]⟩ : ByteArray)) ++ t106) ++ (⟨#[58]⟩ : ByteArray)).size + t107.size ≤ 9223372036854775807) = true := decide_eq_true c26
                  try have c26b2 : (9223372036854775807 < ((((((((((ex0) ++ (⟨#[44, 32]⟩ : ByteArray)) ++ t104) ++ (⟨#[32]⟩ : ByteArray)) ++ (ex1)) ++ (⟨#[32]⟩ : ByteArray)) ++ t105) ++ (⟨#[32]⟩ : ByteArray)) ++ t106) ++ (⟨#[58]⟩ : ByteArray)).size + t107.size) = False := eq_false (Nat.not_lt.2 c26)
                  try have c26n3 := by have z_ := c26b2; simp only [ByteArray.size_append', ByteArray.size_mk', List.size_toArray, List.length_cons, List.length_nil, Nat.zero_add, Nat.reduceAdd] at z_; exact z_
                  by_cases c27 : (((((((((((ex0) ++ (⟨#[44, 32]⟩ : ByteArray)) ++ t104) ++ (⟨#[32]⟩ : ByteArray)) ++ (ex1)) ++ (⟨#[32]⟩ : ByteArray)) ++ t105) ++ (⟨#[32]⟩ : ByteArray)) ++ t106) ++ (⟨#[58]⟩ : ByteArray)) ++ t107).size + 1 ≤ 9223372036854775807
                  ·
                   rw [if_pos c27] at H
                   have c27b0 := eq_true c27
                   have c27b1 : decide ((((((((((((ex0) ++ (⟨#[44, 32]⟩ : ByteArray)) ++ t104) ++ (⟨#[32]⟩ : ByteArray)) ++ (ex1)) ++ (⟨#[32]⟩ : ByteArray)) ++ t105) ++ (⟨#[32]⟩ : ByteArray)) ++ t106) ++ (⟨#[58]⟩ : ByteArray)) ++ t107).size + 1 ≤ 9223372036854775807) = true := decide_eq_true c27
                   try have c27b2 : (9223372036854775807 < (((((((((((ex0) ++ (⟨#[44, 32]⟩ : ByteArray)) ++ t104) ++ (⟨#[32]⟩ : ByteArray)) ++ (ex1)) ++ (⟨#[32]⟩ : ByteArray)) ++ t105) ++ (⟨#[32]⟩ : ByteArray)) ++ t106) ++ (⟨#[58]⟩ : ByteArray)) ++ t107).size + 1) = False := eq_false (Nat.not_lt.2 c27)
                   try have c27n3 := by have z_ := c27b2; simp only [ByteArray.size_append', ByteArray.size_mk', List.size_toArray, List.length_cons, List.length_nil, Nat.zero_add, Nat.reduceAdd] at z_; exact z_
                   obtain ⟨t108, A280, H⟩ := Option.bind_eq_some_iff.mp H
                   try dsimp only at H
                   have A28 := Aside0.mk A280
                   clear A280
                   by_cases c29 : ((((((((((((ex0) ++ (⟨#[44, 32]⟩ : ByteArray)) ++ t104) ++ (⟨#[32]⟩ : ByteArray)) ++ (ex1)) ++ (⟨#[32]⟩ : ByteArray)) ++ t105) ++ (⟨#[32]⟩ : ByteArray)) ++ t106) ++ (⟨#[58]⟩ : ByteArray)) ++ t107) ++ (⟨#[58]⟩ : ByteArray)).size + t108.size ≤ 9223372036854775807
                   ·
                    rw [if_pos c29] at H
                    have c29b0 := eq_true c29
                    have c29b1 : decide (((((((((((((ex0) ++ (⟨#[44, 32]⟩ : ByteArray)) ++ t104) ++ (⟨#[32]⟩ : ByteArray)) ++ (ex1)) ++ (⟨#[32]⟩ : ByteArray)) ++ t105) ++ (⟨#[32]⟩ : ByteArray)) ++ t106) ++ (⟨#[58]⟩ : ByteArray)) ++ t107) ++ (⟨#[58]⟩ : ByteArray)).size + t108.size ≤ 9223372036854775807) = true := decide_eq_true c29
                    try have c29b2 : (9223372036854775807 < ((((((((((((ex0) ++ (⟨#[44, 32]⟩ : ByteArray)) ++ t104) ++ (⟨#[32]⟩ : ByteArray)) ++ (ex1)) ++ (⟨#[32]⟩ : ByteArray)) ++ t105) ++ (⟨#[32]⟩ : ByteArray)) ++ t106) ++ (⟨#[58]⟩ : ByteArray)) ++ t107) ++ (⟨#[58]⟩ : ByteArray)).size + t108.size) = False := eq_false (Nat.not_lt.2 c29)
                    try have c29n3 := by have z_ := c29b2; simp only [ByteArray.size_append', ByteArray.size_mk', List.size_toArray, List.length_cons, List.length_nil, Nat.zero_add, Nat.reduceAdd] at z_; exact z_
                    by_cases c30 : (((((((((((((ex0) ++ (⟨#[44, 32]⟩ : ByteArray)) ++ t104) ++ (⟨#[32]⟩ : ByteArray)) ++ (ex1)) ++ (⟨#[32]⟩ : ByteArray)) ++ t105) ++ (⟨#[32]⟩ : ByteArray)) ++ t106) ++ (⟨#[58]⟩ : ByteArray)) ++ t107) ++ (⟨#[58]⟩ : ByteArray)) ++ t108).size + 4 ≤ 9223372036854775807
                    ·
                     rw [if_pos c30] at H
                     have c30b0 := eq_true c30
                     have c30b1 : decide ((((((((((((((ex0) ++ (⟨#[44, 32]⟩ : ByteArray)) ++ t104) ++ (⟨#[32]⟩ : ByteArray)) ++ (ex1)) ++ (⟨#[32]⟩ : ByteArray)) ++ t105) ++ (⟨#[32]⟩ : ByteArray)) ++ t106) ++ (⟨#[58]⟩ : ByteArray)) ++ t107) ++ (⟨#[58]⟩ : ByteArray)) ++ t108).size + 4 ≤ 9223372036854775807) = true := decide_eq_true c30
                     try have c30b2 : (9223372036854775807 < (((((((((((((ex0) ++ (⟨#[44, 32]⟩ : ByteArray)) ++ t104) ++ (⟨#[32]⟩ : ByteArray)) ++ (ex1)) ++ (⟨#[32]⟩ : ByteArray)) ++ t105) ++ (⟨#[32]⟩ : ByteArray)) ++ t106) ++ (⟨#[58]⟩ : ByteArray)) ++ t107) ++ (⟨#[58]⟩ : ByteArray)) ++ t108).size + 4) = False := eq_false (Nat.not_lt.2 c30)
                     try have c30n3 := by have z_ := c30b2; simp only [ByteArray.size_append', ByteArray.size_mk', List.size_toArray, List.length_cons, List.length_nil, Nat.zero_add, Nat.reduceAdd] at z_; exact z_
                     obtain rfl := Option.some.inj H
                     go_enter Tryd.func17, Tryd.ntmps17
                     try go_wp2_with (first | ((with_reducible refine gate_dst (N := 1) rfl ?_); refine bx 1 #[.int .i64 a0_0, .int .i64 a0_1, .int .i64 a0_2, .int .i64 a0_3, .int .i64 a0_4, .int .i64 a0_5] 34 ?_; intro gb101 hg w31 hbox hb; have BK101 := Aside0.mk (hbox); have GW101 := Aside0.mk (bz hg); have GE101 := Aside0.mk (bz hg); replace HB := Aside0.mk (below_step bh hb); clear hb hbox hg; obtain ⟨hcz32_0, hcz32_1, hcz32_2, hcz32_3, hcz32_4, hcz32_5⟩ := zcf6 BK101; obtain ⟨hfz32_0, hfz32_1, hfz32_2, hfz32_3, hfz32_4, hfz32_5⟩ := zff6 BK101) | ((with_reducible refine gate_callee (f := 41) rfl ?_); refine goesL_ (some 6) rfl rfl Tryd.func41 (by kernel_rfl) rfl #[.agg #[.int .i64 a0_0, .int .i64 a0_1, .int .i64 a0_2, .int .i64 a0_3, .int .i64 a0_4, .int .i64 a0_5]] rfl mc ?_; (with_reducible refine (impl_DateOk.calls k a0_0 a0_1 a0_2 a0_3 a0_4 a0_5 true _ A2.out).mono ?_); rintro e w33 ⟨rfl, hb⟩; refine ⟨_, rfl, ?_⟩; replace BK101 := bkb_ BK101 hb; replace HB := Aside0.mk (below_step bh hb); (try clear hb); (try clear hb2); (try clear hk); (try clear hi)))
                     replace BK101 := Aside0.mk (blk_drew BK101.out)
                     replace HB := Aside0.mk (below_drew1 HB.out)
                     refine start_ (n := 9) (S := fun w' => w'.cell? ⟨gb101, 0, none⟩ = some (.int .i64 a0_0) ∧ w'.cell? ⟨gb101, 1, none⟩ = some (.int .i64 a0_1) ∧ w'.cell? ⟨gb101, 2, none⟩ = some (.int .i64 a0_2) ∧ w'.cell? ⟨gb101, 3, none⟩ = some (.int .i64 a0_3) ∧ w'.cell? ⟨gb101, 4, none⟩ = some (.int .i64 a0_4) ∧ w'.cell? ⟨gb101, 5, none⟩ = some (.int .i64 a0_5)) (ds := []) #[false, false, false, false, false, false, false, false, false] (by kernel_rfl) rfl rfl ⟨bc BK101 0, bc BK101 1, bc BK101 2, bc BK101 3, bc BK101 4, bc BK101 5⟩ (fun hHeld => ?_); refine with_tabW impl_ShowDate.tab3 impl_ShowDate.bits3 (fun HT_ HW_ => ?_)
                     generalize w33.drew = w34 at BK101 HB hHeld ⊢
                     refine pu 3 11 #[false, false, false, true, false, false, false, false, false] HT_ ?_
                     refine tk 0 8 #[true, false, false, true, false, false, false, false, false] HT_ HW_ hHeld ?_
                     refine tk 4 12 #[true, false, false, true, true, false, false, false, false] HT_ HW_ hHeld ?_
                     refine pu 5 13 #[true, false, false, true, true, true, false, false, false] HT_ ?_
                     refine pu 6 14 #[true, false, false, true, true, true, true, false, false] HT_ ?_
                     refine onx 1 9 #[true, true, false, true, true, true, true, false, false] HT_ (fun K hK => ?_)
                     refine gs Tryd.func21 #[.agg #[.int .i64 a0_0, .int .i64 a0_1, .int .i64 a0_2, .int .i64 a0_3, .int .i64 a0_4, .int .i64 a0_5]] ?_
                     with_reducible refine (impl_Weekday.calls k a0_0 a0_1 a0_2 a0_3 a0_4 a0_5 t103 _ A4.out).mono ?_
                     rintro e w35 ⟨rfl, hb⟩
                     refine ⟨_, rfl, ?_⟩
                     replace BK101 := bkb_ BK101 hb
                     replace HB := Aside0.mk (below_step bh hb)
                     (try clear hb)
                     (try clear hb2)
                     (try clear hk)
                     (try clear hi)
                     refine hK.out _ _ ⟨bc BK101 0, bc BK101 1, bc BK101 2, bc BK101 3, bc BK101 4, bc BK101 5⟩ (fun hHeld => ?_)
                     clear hK K
                     refine nm 9 ?_
                     refine pu 2 10 #[true, true, true, true, true, true, true, false, false] HT_ ?_
                     refine pu 7 3 #[true, true, true, true, true, true, true, true, false] HT_ ?_
                     refine pu 8 4 #[true, true, true, true, true, true, true, true, true] HT_ ?_
                     refine dn HT_ ?_
                     try go_wp2
                     replace BK101 := Aside0.mk (blk_drew BK101.out)
                     replace HB := Aside0.mk (below_drew1 HB.out)
                     refine start_ (n := 37) (S := fun w' => w'.cell? ⟨gb101, 0, none⟩ = some (.int .i64 a0_0) ∧ w'.cell? ⟨gb101, 1, none⟩ = some (.int .i64 a0_1) ∧ w'.cell? ⟨gb101, 2, none⟩ = some (.int .i64 a0_2) ∧ w'.cell? ⟨gb101, 3, none⟩ = some (.int .i64 a0_3) ∧ w'.cell? ⟨gb101, 4, none⟩ = some (.int .i64 a0_4) ∧ w'.cell? ⟨gb101, 5, none⟩ = some (.int .i64 a0_5)) (ds := []) #[false, false, false, false, false, false, false, false, false, false, false, false, false, false, false, false, false, false, false, false, false, false, false, false, false, false, false, false, false, false, false, false, false, false, false, false, false] (by kernel_rfl) rfl rfl ⟨bc BK101 0, bc BK101 1, bc BK101 2, bc BK101 3, bc BK101 4, bc BK101 5⟩ (fun hHeld => ?_); refine with_tabW impl_ShowDate.tab4 impl_ShowDate.bits4 (fun HT_ HW_ => ?_)
                     generalize w35.drew = w36 at BK101 HB hHeld ⊢
                     refine pu 0 15 #[true, false, false, false, false, false, false, false, false, false, false, false, false, false, false, false, false, false, false, false, false, false, false, false, false, false, false, false, false, false, false, false, false, false, false, false, false] HT_ ?_
                     refine pu 1 16 #[true, true, false, false, false, false, false, false, false, false, false, false, false, false, false, false, false, false, false, false, false, false, false, false, false, false, false, false, false, false, false, false, false, false, false, false, false] HT_ ?_
                     refine pu 2 17 #[true, true, true, false, false, false, false, false, false, false, false, false, false, false, false, false, false, false, false, false, false, false, false, false, false, false, false, false, false, false, false, false, false, false, false, false, false] HT_ ?_
                     refine pu 3 18 #[true, true, true, true, false, false, false, false, false, false, false, false, false, false, false, false, false, false, false, false, false, false, false, false, false, false, false, false, false, false, false, false, false, false, false, false, false] HT_ ?_
                     refine pu 4 19 #[true, true, true, true, true, false, false, false, false, false, false, false, false, false, false, false, false, false, false, false, false, false, false, false, false, false, false, false, false, false, false, false, false, false, false, false, false] HT_ ?_
                     refine pu 5 20 #[true, true, true, true, true, true, false, false, false, false, false, false, false, false, false, false, false, false, false, false, false, false, false, false, false, false, false, false, false, false, false, false, false, false, false, false, false] HT_ ?_
                     refine pu 10 25 #[true, true, true, true, true, true, false, false, false, false, true, false, false, false, false, false, false, false, false, false, false, false, false, false, false, false, false, false, false, false, false, false, false, false, false, false, false] HT_ ?_
                     refine pu 11 26 #[true, true, true, true, true, true, false, false, false, false, true, true, false, false, false, false, false, false, false, false, false, false, false, false, false, false, false, false, false, false, false, false, false, false, false, false, false] HT_ ?_
                     refine pu 12 27 #[true, true, true, true, true, true, false, false, false, false, true, true, true, false, false, false, false, false, false, false, false, false, false, false, false, false, false, false, false, false, false, false, false, false, false, false, false] HT_ ?_
                     refine pu 13 28 #[true, true, true, true, true, true, false, false, false, false, true, true, true, true, false, false, false, false, false, false, false, false, false, false, false, false, false, false, false, false, false, false, false, false, false, false, false] HT_ ?_
                     refine pu 16 31 #[true, true, true, true, true, true, false, false, false, false, true, true, true, true, false, false, true, false, false, false, false, false, false, false, false, false, false, false, false, false, false, false, false, false, false, false, false] HT_ ?_
                     refine pu 21 36 #[true, true, true, true, true, true, false, false, false, false, true, true, true, true, false, false, true, false, false, false, false, true, false, false, false, false, false, false, false, false, false, false, false, false, false, false, false] HT_ ?_
                     refine pu 26 41 #[true, true, true, true, true, true, false, false, false, false, true, true, true, true, false, false, true, false, false, false, false, true, false, false, false, false, true, false, false, false, false, false, false, false, false, false, false] HT_ ?_
                     refine pu 31 46 #[true, true, true, true, true, true, false, false, false, false, true, true, true, true, false, false, true, false, false, false, false, true, false, false, false, false, true, false, false, false, false, true, false, false, false, false, false] HT_ ?_
                     refine tk 6 21 #[true, true, true, true, true, true, true, false, false, false, true, true, true, true, false, false, true, false, false, false, false, true, false, false, false, false, true, false, false, false, false, true, false, false, false, false, false] HT_ HW_ hHeld ?_
                     refine tk 17 32 #[true, true, true, true, true, true, true, false, false, false, true, true, true, true, false, false, true, true, false, false, false, true, false, false, false, false, true, false, false, false, false, true, false, false, false, false, false] HT_ HW_ hHeld ?_
                     refine tk 22 37 #[true, true, true, true, true, true, true, false, false, false, true, true, true, true, false, false, true, true, false, false, false, true, true, false, false, false, true, false, false, false, false, true, false, false, false, false, false] HT_ HW_ hHeld ?_
                     refine tk 27 42 #[true, true, true, true, true, true, true, false, false, false, true, true, true, true, false, false, true, true, false, false, false, true, true, false, false, false, true, true, false, false, false, true, false, false, false, false, false] HT_ HW_ hHeld ?_
                     refine tk 32 47 #[true, true, true, true, true, true, true, false, false, false, true, true, true, true, false, false, true, true, false, false, false, true, true, false, false, false, true, true, false, false, false, true, true, false, false, false, false] HT_ HW_ hHeld ?_
                     refine onx 7 22 #[true, true, true, true, true, true, true, true, false, false, true, true, true, true, false, false, true, true, false, false, false, true, true, false, false, false, true, true, false, false, false, true, true, false, false, false, false] HT_ (fun K hK => ?_)
                     refine gs Tryd.func42 #[.int .i64 a0_2, .int .i64 2] ?_
                     with_reducible refine (impl_padded.calls a0_2 2 t104 _ ?side1 A10.out).mono ?_
                     (case side1 => exact XW.to (XW.stays hX bh) (by decide))
                     rintro e w37 ⟨rfl, hb⟩
                     refine ⟨_, rfl, ?_⟩
                     replace BK101 := bkb_ BK101 hb
                     replace HB := Aside0.mk (below_step bh hb)
                     (try clear hb)
                     (try clear hb2)
                     (try clear hk)
                     (try clear hi)
                     refine hK.out _ _ ⟨bc BK101 0, bc BK101 1, bc BK101 2, bc BK101 3, bc BK101 4, bc BK101 5⟩ (fun hHeld => ?_)
                     clear hK K
                     refine nm 22 ?_
                     refine pu 8 23 #[true, true, true, true, true, true, true, true, true, false, true, true, true, true, false, false, true, true, false, false, false, true, true, false, false, false, true, true, false, false, false, true, true, false, false, false, false] HT_ ?_
                     refine pu 9 24 #[true, true, true, true, true, true, true, true, true, true, true, true, true, true, false, false, true, true, false, false, false, true, true, false, false, false, true, true, false, false, false, true, true, false, false, false, false] HT_ ?_
                     refine pu 14 29 #[true, true, true, true, true, true, true, true, true, true, true, true, true, true, true, false, true, true, false, false, false, true, true, false, false, false, true, true, false, false, false, true, true, false, false, false, false] HT_ ?_
                     refine pu 15 30 #[true, true, true, true, true, true, true, true, true, true, true, true, true, true, true, true, true, true, false, false, false, true, true, false, false, false, true, true, false, false, false, true, true, false, false, false, false] HT_ ?_
                     refine onx 18 33 #[true, true, true, true, true, true, true, true, true, true, true, true, true, true, true, true, true, true, true, false, false, true, true, false, false, false, true, true, false, false, false, true, true, false, false, false, false] HT_ (fun K hK => ?_)
                     refine gs Tryd.func42 #[.int .i64 a0_0, .int .i64 4] ?_
                     with_reducible refine (impl_padded.calls a0_0 4 t105 _ ?side1 A19.out).mono ?_
                     (case side1 => exact XW.to (XW.stays hX bh) (by decide))
                     rintro e w38 ⟨rfl, hb⟩
                     refine ⟨_, rfl, ?_⟩
                     replace BK101 := bkb_ BK101 hb
                     replace HB := Aside0.mk (below_step bh hb)
                     (try clear hb)
                     (try clear hb2)
                     (try clear hk)
                     (try clear hi)
                     refine hK.out _ _ ⟨bc BK101 0, bc BK101 1, bc BK101 2, bc BK101 3, bc BK101 4, bc BK101 5⟩ (fun hHeld => ?_)
                     clear hK K
                     refine nm 33 ?_
                     refine pu 19 34 #[true, true, true, true, true, true, true, true, true, true, true, true, true, true, true, true, true, true, true, true, false, true, true, false, false, false, true, true, false, false, false, true, true, false, false, false, false] HT_ ?_
                     refine pu 20 35 #[true, true, true, true, true, true, true, true, true, true, true, true, true, true, true, true, true, true, true, true, true, true, true, false, false, false, true, true, false, false, false, true, true, false, false, false, false] HT_ ?_
                     refine onx 23 38 #[true, true, true, true, true, true, true, true, true, true, true, true, true, true, true, true, true, true, true, true, true, true, true, true, false, false, true, true, false, false, false, true, true, false, false, false, false] HT_ (fun K hK => ?_)
                     refine gs Tryd.func42 #[.int .i64 a0_3, .int .i64 2] ?_
                     with_reducible refine (impl_padded.calls a0_3 2 t106 _ ?side1 A22.out).mono ?_
                     (case side1 => exact XW.to (XW.stays hX bh) (by decide))
                     rintro e w39 ⟨rfl, hb⟩
                     refine ⟨_, rfl, ?_⟩
                     replace BK101 := bkb_ BK101 hb
                     replace HB := Aside0.mk (below_step bh hb)
                     (try clear hb)
                     (try clear hb2)
                     (try clear hk)
                     (try clear hi)
                     refine hK.out _ _ ⟨bc BK101 0, bc BK101 1, bc BK101 2, bc BK101 3, bc BK101 4, bc BK101 5⟩ (fun hHeld => ?_)
                     clear hK K
                     refine nm 38 ?_
                     refine pu 24 39 #[true, true, true, true, true, true, true, true, true, true, true, true, true, true, true, true, true, true, true, true, true, true, true, true, true, false, true, true, false, false, false, true, true, false, false, false, false] HT_ ?_
                     refine pu 25 40 #[true, true, true, true, true, true, true, true, true, true, true, true, true, true, true, true, true, true, true, true, true, true, true, true, true, true, true, true, false, false, false, true, true, false, false, false, false] HT_ ?_
                     refine onx 28 43 #[true, true, true, true, true, true, true, true, true, true, true, true, true, true, true, true, true, true, true, true, true, true, true, true, true, true, true, true, true, false, false, true, true, false, false, false, false] HT_ (fun K hK => ?_)
                     refine gs Tryd.func42 #[.int .i64 a0_4, .int .i64 2] ?_
                     with_reducible refine (impl_padded.calls a0_4 2 t107 _ ?side1 A25.out).mono ?_
                     (case side1 => exact XW.to (XW.stays hX bh) (by decide))
                     rintro e w40 ⟨rfl, hb⟩
                     refine ⟨_, rfl, ?_⟩
                     replace BK101 := bkb_ BK101 hb
                     replace HB := Aside0.mk (below_step bh hb)
                     (try clear hb)
                     (try clear hb2)
                     (try clear hk)
                     (try clear hi)
                     refine hK.out _ _ ⟨bc BK101 0, bc BK101 1, bc BK101 2, bc BK101 3, bc BK101 4, bc BK101 5⟩ (fun hHeld => ?_)
                     clear hK K
                     refine nm 43 ?_
                     refine pu 29 44 #[true, true, true, true, true, true, true, true, true, true, true, true, true, true, true, true, true, true, true, true, true, true, true, true, true, true, true, true, true, true, false, true, true, false, false, false, false] HT_ ?_
                     refine pu 30 45 #[true, true, true, true, true, true, true, true, true, true, true, true, true, true, true, true, true, true, true, true, true, true, true, true, true, true, true, true, true, true, true, true, true, false, false, false, false] HT_ ?_
                     refine onx 33 48 #[true, true, true, true, true, true, true, true, true, true, true, true, true, true, true, true, true, true, true, true, true, true, true, true, true, true, true, true, true, true, true, true, true, true, false, false, false] HT_ (fun K hK => ?_)
                     refine gs Tryd.func42 #[.int .i64 a0_5, .int .i64 2] ?_
                     with_reducible refine (impl_padded.calls a0_5 2 t108 _ ?side1 A28.out).mono ?_
                     (case side1 => exact XW.to (XW.stays hX bh) (by decide))
                     rintro e w41 ⟨rfl, hb⟩
                     refine ⟨_, rfl, ?_⟩
                     replace BK101 := bkb_ BK101 hb
                     replace HB := Aside0.mk (below_step bh hb)
                     (try clear hb)
                     (try clear hb2)
                     (try clear hk)
                     (try clear hi)
                     refine hK.out _ _ ⟨bc BK101 0, bc BK101 1, bc BK101 2, bc BK101 3, bc BK101 4, bc BK101 5⟩ (fun hHeld => ?_)
                     clear hK K
                     refine nm 48 ?_
                     refine pu 34 49 #[true, true, true, true, true, true, true, true, true, true, true, true, true, true, true, true, true, true, true, true, true, true, true, true, true, true, true, true, true, true, true, true, true, true, true, false, false] HT_ ?_
                     refine pu 35 50 #[true, true, true, true, true, true, true, true, true, true, true, true, true, true, true, true, true, true, true, true, true, true, true, true, true, true, true, true, true, true, true, true, true, true, true, true, false] HT_ ?_
                     refine pu 36 2 #[true, true, true, true, true, true, true, true, true, true, true, true, true, true, true, true, true, true, true, true, true, true, true, true, true, true, true, true, true, true, true, true, true, true, true, true, true] HT_ ?_
                     refine dn HT_ ?_
                     try go_wp2
                     go_ret
                     exact ⟨by first | rfl | (simp [errW_none, errW_some] <;> rfl) | (simp only [← hji5, ← hji13]; first | rfl | (simp [errW_none, errW_some] <;> rfl)) | (simp [*, errW_none, errW_some] <;> rfl), bh⟩
                    ·
                     rw [if_neg c30] at H
                     exact absurd H (by simp)
                   ·
                    rw [if_neg c29] at H
                    exact absurd H (by simp)
                  ·
                   rw [if_neg c27] at H
                   exact absurd H (by simp)
                 ·
                  rw [if_neg c26] at H
                  exact absurd H (by simp)
                ·
                 rw [if_neg c24] at H
                 exact absurd H (by simp)
               ·
                rw [if_neg c23] at H
                exact absurd H (by simp)
              ·
               rw [if_neg c21] at H
               exact absurd H (by simp)
             ·
              rw [if_neg c20] at H
              exact absurd H (by simp)
            ·
             rw [if_neg c18] at H
             exact absurd H (by simp)
           ·
            rw [if_neg c17] at H
            exact absurd H (by simp)
          ·
           rw [if_neg c16] at H
           exact absurd H (by simp)
         ·
          rw [if_neg c15] at H
          exact absurd H (by simp)
        ·
         rw [if_neg c14] at H
         exact absurd H (by simp)
       ·
        rw [if_neg c12] at H
        exact absurd H (by simp)
      ·
       rw [if_neg c11] at H
       exact absurd H (by simp)
     ·
      rw [if_neg c9] at H
      exact absurd H (by simp)
    ·
     rw [if_neg c8] at H
     exact absurd H (by simp)
   ·
    rw [if_neg c7] at H
    exact absurd H (by simp)
  ·
   rw [if_neg c6] at H
   exact absurd H (by simp)
 ·
  replace c3 := Bool.eq_false_iff.mpr c3
  subst c3
  have H1 : (some (⟨#[]⟩ : ByteArray)) = some r := by rw [if_neg (show ¬ (false = true) by decide)] at H; exact H
  clear H
  have H := H1
  clear H1
  obtain rfl := Option.some.inj H
  go_enter Tryd.func17, Tryd.ntmps17
  go_wp2_with (first | ((with_reducible refine gate_dst (N := 1) rfl ?_); refine bx 1 #[.int .i64 a0_0, .int .i64 a0_1, .int .i64 a0_2, .int .i64 a0_3, .int .i64 a0_4, .int .i64 a0_5] 34 ?_; intro gb101 hg w42 hbox hb; have BK101 := Aside0.mk (hbox); have GW101 := Aside0.mk (bz hg); have GE101 := Aside0.mk (bz hg); replace HB := Aside0.mk (below_step bh hb); clear hb hbox hg; obtain ⟨hcz43_0, hcz43_1, hcz43_2, hcz43_3, hcz43_4, hcz43_5⟩ := zcf6 BK101; obtain ⟨hfz43_0, hfz43_1, hfz43_2, hfz43_3, hfz43_4, hfz43_5⟩ := zff6 BK101) | ((with_reducible refine gate_callee (f := 41) rfl ?_); refine goesL_ (some 6) rfl rfl Tryd.func41 (by kernel_rfl) rfl #[.agg #[.int .i64 a0_0, .int .i64 a0_1, .int .i64 a0_2, .int .i64 a0_3, .int .i64 a0_4, .int .i64 a0_5]] rfl mc ?_; (with_reducible refine (impl_DateOk.calls k a0_0 a0_1 a0_2 a0_3 a0_4 a0_5 false _ A2.out).mono ?_); rintro e w44 ⟨rfl, hb⟩; refine ⟨_, rfl, ?_⟩; replace BK101 := bkb_ BK101 hb; replace HB := Aside0.mk (below_step bh hb); (try clear hb); (try clear hb2); (try clear hk); (try clear hi)))
  go_ret
  exact ⟨er, bh⟩
end Go.Proofs.YtkaknffeoeoajaaDoor.P
namespace Go.Proofs.YtkaknffeoeoajaaDoor.P
set_option linter.unusedVariables false
set_option linter.unusedSimpArgs false
open Go.RowKit Go.Lib Go.Proofs.YtkaknffeoeoajaaDoorW.PrintWords Go.Proofs.YtkaknffeoeoajaaDoorW.PrintLast Go.Proofs.YtkaknffeoeoajaaDoorW.PrintMore
attribute [local go_sem] max2_int min2_int max_two min_two max_three min_three max_four min_four

abbrev rdA0 : Array Bool := #[true, true, true, true, false, false, false, true, false, true, false, true, false, true, false, false, true, false]
abbrev rdA1 : Array Bool := #[true, true, true, true, true, false, false, true, false, true, false, true, false, true, false, false, true, false]
abbrev rdA2 : Array Bool := #[true, true, true, true, true, true, false, true, false, true, false, true, false, true, false, false, true, false]
abbrev rdA3 : Array Bool := #[true, true, true, true, true, true, true, true, false, true, false, true, false, true, false, false, true, false]
abbrev rdA4 : Array Bool := #[true, true, true, true, true, true, true, true, true, true, false, true, false, true, false, false, true, false]
abbrev rdA5 : Array Bool := #[true, true, true, true, true, true, true, true, true, true, true, true, false, true, false, false, true, false]
abbrev rdA6 : Array Bool := #[true, true, true, true, true, true, true, true, true, true, true, true, true, true, false, false, true, false]
abbrev rdA7 : Array Bool := #[true, true, true, true, true, true, true, true, true, true, true, true, true, true, true, false, true, false]
abbrev rdA8 : Array Bool := #[true, true, true, true, true, true, true, true, true, true, true, true, true, true, true, true, true, false]
abbrev rdA9 : Array Bool := #[true, true, true, true, true, true, true, true, true, true, true, true, true, true, true, true, true, true]
def monthsB : ByteArray := ⟨#[74, 97, 110, 70, 101, 98, 77, 97, 114, 65, 112, 114, 77, 97, 121, 74, 117, 110, 74, 117, 108, 65, 117, 103, 83, 101, 112, 79, 99, 116, 78, 111, 118, 68, 101, 99]⟩
/-- What the number at a place comes to: -1 where there is none. -/
def atF (s : ByteArray) (i j : Nat) : Option Int := (impl_Digits.f (s.extract i j)).map fun p => if p.2 = true then p.1 else -1
def monthF (s : ByteArray) : Int := wrap64 (wrap64 (Int.tdiv (Lib.index monthsB.data.toList (s.extract 8 11).data.toList) 3) + 1)
def impl_ReadDate.f (s : ByteArray) : Option (Int × Int × Int × Int × Int × Int × Bool) :=
  if s.size = 29 then
    (atF s 5 7).bind fun d => (atF s 12 16).bind fun y => (atF s 17 19).bind fun h => (atF s 20 22).bind fun n => (atF s 23 25).bind fun c =>
      (impl_DateOk.f 16 y (monthF s) d h n c).bind fun ok =>
        if ok = true then (impl_ShowDate.f 16 y (monthF s) d h n c).bind fun t => if t.toList = s.toList then some (y, monthF s, d, h, n, c, true) else some (0, 0, 0, 0, 0, 0, false)
        else some (0, 0, 0, 0, 0, 0, false)
  else some (0, 0, 0, 0, 0, 0, false)

set_option maxHeartbeats 2000000 in
set_option maxRecDepth 100000 in
/-- The number at a place of the text, as the closure answers it. -/
theorem readDate_at (g : Nat) (s : ByteArray) (i j : Int) (r : Int) (w : World) (hc : w.cell? ⟨g, 0, none⟩ = some (.string s)) (hi : 0 ≤ i) (hij : i ≤ j) (hj : j ≤ (s.size : Int)) (h : atF s i.toNat j.toNat = some r) :
    Calls Tryd.prog 49 #[.int .i64 i, .int .i64 j, .pointer (some ⟨g, 0, none⟩)] w fun e w' => e = .returned (.int .i64 r) ∧ Below w.heap.size w w' := by
  unfold atF at h
  obtain ⟨⟨n, ok⟩, hd, hr⟩ := Option.map_eq_some_iff.1 h
  have hcs := fun W => impl_Digits.calls (s.extract i.toNat j.toNat) n ok W hd
  clear h hd
  cases ok with
  | true =>
    simp only [if_true] at hr
    subst hr
    go_enter Tryd.func49, Tryd.ntmps49
    go_wp2_with (go_at_call 50; refine (hcs _).mono ?_; rintro e w1 ⟨rfl, hb⟩)
    go_ret
    exact ⟨rfl, hb⟩
  | false =>
    simp only [Bool.false_eq_true, if_false] at hr
    subst hr
    go_enter Tryd.func49, Tryd.ntmps49
    go_wp2_with (go_at_call 50; refine (hcs _).mono ?_; rintro e w1 ⟨rfl, hb⟩)
    go_ret
    exact ⟨rfl, hb⟩

section
variable {P : Program} {ops : Array Oper} {Q : Exit → Act → World → Prop}
/-- A call of a function value that catches variables. -/
theorem goesC_ {oi : Oper} {N : Option Tmp} {a : Act} {w : World} {K : Act → World → Prop} {f : FuncId} {fn : Func} {ars : Array Operand} {ts : Array TypeId} {cv : Operand} (hf : P.funcs[f]? = some fn) (hname : (fn.name == "runtime.NumGoroutine") = false) (hb : fn.body.isSome = true) (args bound : Array Value)
    (hw : Region.wanted oi (yielded ops a.tmps) = true) (hN : oi.dst = N) (hop : oi.op = .call { callee := .value cv, args := ars, argTypes := ts }) (hcv : a.eval cv = .func (.func f) #[] bound) (hargs : ars.map a.eval = args)
    (h : Calls P f (args ++ bound) w fun e w' => ∃ v, e = .returned v ∧ K (a.put N v) w') : if Region.wanted oi (yielded ops a.tmps) = true then Oper.wp P oi a w K Q else K (a.put N undef) w := by
  refine call_ f (args ++ bound) hw hN ?_ h
  have he := enters_ hf hname hb (args ++ bound) w
  unfold execOp
  simp [hop, resolve, Deferred.ofValue, invoke, hcv, hargs, he]
end
theorem date_store {oi : Oper} {a : Act} {W : World} {g : Nat} {y m d h n c : Int} (p x : Operand) (ho : oi.op = .store 34 p x) (hp : a.eval p = .pointer (some ⟨g, 0, none⟩)) (hx : a.eval x = .agg #[.int .i64 y, .int .i64 m, .int .i64 d, .int .i64 h, .int .i64 n, .int .i64 c])
    (hz : W.heap[g]? = some (.cells #[.int .i64 0, .int .i64 0, .int .i64 0, .int .i64 0, .int .i64 0, .int .i64 0] 34 (0, 0))) :
    (execOp a.eval oi).run Tryd.prog W = .ok .skip (W.setCells g 0 [.int .i64 y, .int .i64 m, .int .i64 d, .int .i64 h, .int .i64 n, .int .i64 c]) := by
  have hr := run_store_run (P := Tryd.prog) (w := W) (o := 0) 34 (.agg #[.int .i64 y, .int .i64 m, .int .i64 d, .int .i64 h, .int .i64 n, .int .i64 c]) [.int .i64 y, .int .i64 m, .int .i64 d, .int .i64 h, .int .i64 n, .int .i64 c] hz rfl (by kernel_rfl) (show 0 + 6 ≤ 6 by decide) (by
    intro q hq
    simp only [List.mem_cons, List.not_mem_nil, or_false] at hq
    rcases hq with rfl | rfl | rfl | rfl | rfl | rfl <;> rfl)
  unfold execOp
  simp only [ho, hp, hx, Sem.run_bind, Sem.run_pure, hr, Result.andThen_ok]
theorem date_put {W : World} {g : Nat} {y m d h n c : Int} (hz : W.heap[g]? = some (.cells #[.int .i64 0, .int .i64 0, .int .i64 0, .int .i64 0, .int .i64 0, .int .i64 0] 34 (0, 0))) :
    (W.setCells g 0 [.int .i64 y, .int .i64 m, .int .i64 d, .int .i64 h, .int .i64 n, .int .i64 c]).heap[g]? = some (.cells #[.int .i64 y, .int .i64 m, .int .i64 d, .int .i64 h, .int .i64 n, .int .i64 c] 34 (0, 0)) := by
  obtain ⟨cur, h1, h2, h3⟩ := setCells_row [.int .i64 y, .int .i64 m, .int .i64 d, .int .i64 h, .int .i64 n, .int .i64 c] 0 W _ hz (show 0 + 6 ≤ 6 by decide)
  have e : cur = #[.int .i64 y, .int .i64 m, .int .i64 d, .int .i64 h, .int .i64 n, .int .i64 c] := Array.toList_inj.1 (h3.trans rfl)
  rw [h1, e]

/-- What holds in the worlds of the walk: the box of the text, the row of the result, and what was there ahead. -/
structure RdW (w : World) (s : ByteArray) (W : World) : Prop where
  box : W.heap[w.heap.size]? = some (.cells #[.string s] 9 (0, 0))
  res : W.heap[w.heap.size + 1]? = some (.cells #[.int .i64 0, .int .i64 0, .int .i64 0, .int .i64 0, .int .i64 0, .int .i64 0] 34 (0, 0))
  big : w.heap.size + 2 ≤ W.heap.size
  bel : Below w.heap.size w W
theorem RdW.step {w W W' : World} {s : ByteArray} (h : RdW w s W) (hb : Below W.heap.size W W') : RdW w s W' :=
  ⟨(hb.block _ (by have := h.big; omega)).trans h.box, (hb.block _ (by have := h.big; omega)).trans h.res, Nat.le_trans h.big hb.size, below_step h.bel hb⟩
theorem RdW.drew {w W : World} {s : ByteArray} (h : RdW w s W) : RdW w s W.drew := ⟨h.box, h.res, h.big, below_drew1 h.bel⟩
theorem RdW.alloc {w W : World} {s : ByteArray} (h : RdW w s W) (o : Obj) : RdW w s (W.alloc o) := h.step (below_alloc (Below.refl _ _) _)
theorem RdW.cell {w W : World} {s : ByteArray} (h : RdW w s W) : W.cell? ⟨w.heap.size, 0, none⟩ = some (.string s) := (blk_cell h.box 0).trans rfl
theorem below_sets {B g : Nat} {a : World} (hg : B ≤ g) : ∀ (vs : List Value) (o : Nat) (W : World), Below B a W → Below B a (W.setCells g o vs)
  | [], _, _, h => h
  | v :: vs, o, W, h => below_sets hg vs (o + 1) _ (h.setCell (p := ⟨g, o, none⟩) hg v)
theorem RdW.set {w W : World} {s : ByteArray} {g : Nat} (h : RdW w s W) (hg : w.heap.size + 2 ≤ g) (vs : List Value) : RdW w s (W.setCells g 0 vs) :=
  ⟨(setCells_far vs 0 _ (by omega)).trans h.box, (setCells_far vs 0 _ (by omega)).trans h.res, by rw [(setCells_same g vs 0 W).2.2.2]; exact h.big, below_sets (by omega) vs 0 _ h.bel⟩

/-- The same, and the date that was made. -/
structure RdD (w : World) (s : ByteArray) (g : Nat) (y m d h n c : Int) (W : World) : Prop where
  r : RdW w s W
  b : W.heap[g]? = some (.cells #[.int .i64 y, .int .i64 m, .int .i64 d, .int .i64 h, .int .i64 n, .int .i64 c] 34 (0, 0))
theorem RdD.step {w W W' : World} {s : ByteArray} {g : Nat} {y m d h n c : Int} (q : RdD w s g y m d h n c W) (hb : Below W.heap.size W W') : RdD w s g y m d h n c W' := ⟨q.r.step hb, blk_below q.b hb⟩
theorem RdD.held {w W : World} {s : ByteArray} {g : Nat} {y m d h n c : Int} (q : RdD w s g y m d h n c W) :
    W.cell? ⟨w.heap.size, 0, none⟩ = some (.string s) ∧ W.cell? ⟨g, 0, none⟩ = some (.int .i64 y) ∧ W.cell? ⟨g, 1, none⟩ = some (.int .i64 m) ∧ W.cell? ⟨g, 2, none⟩ = some (.int .i64 d) ∧ W.cell? ⟨g, 3, none⟩ = some (.int .i64 h) ∧ W.cell? ⟨g, 4, none⟩ = some (.int .i64 n) ∧ W.cell? ⟨g, 5, none⟩ = some (.int .i64 c) ∧ RdD w s g y m d h n c W :=
  ⟨q.r.cell, (blk_cell q.b 0).trans rfl, (blk_cell q.b 1).trans rfl, (blk_cell q.b 2).trans rfl, (blk_cell q.b 3).trans rfl, (blk_cell q.b 4).trans rfl, (blk_cell q.b 5).trans rfl, q⟩

set_option maxHeartbeats 8000000 in
set_option maxRecDepth 100000 in
theorem readDate_walk (s : ByteArray) (w : World) (hX : XW 7 w) (h29 : s.size = 29) (y d h n c : Int) (hd : atF s 5 7 = some d) (hy : atF s 12 16 = some y) (hh : atF s 17 19 = some h) (hn : atF s 20 22 = some n) (hc : atF s 23 25 = some c)
    (ok : Bool) (hok : impl_DateOk.f 16 y (monthF s) d h n c = some ok) (t : ByteArray) (ht : ok = true → impl_ShowDate.f 16 y (monthF s) d h n c = some t)
    (out : Value) (hA : ok = true → t.toList = s.toList → out = .tuple #[.agg #[.int .i64 y, .int .i64 (monthF s), .int .i64 d, .int .i64 h, .int .i64 n, .int .i64 c], .bool true]) (hB : ¬ (ok = true ∧ t.toList = s.toList) → out = .tuple #[.agg #[.int .i64 0, .int .i64 0, .int .i64 0, .int .i64 0, .int .i64 0, .int .i64 0], .bool false]) :
    Calls Tryd.prog 20 #[.string s] w fun e w' => e = .returned out ∧ Below w.heap.size w w' := by
  have hat : ∀ (i j r : Int), 0 ≤ i → i ≤ j → j ≤ (s.size : Int) → atF s i.toNat j.toNat = some r → ∀ W, RdW w s W → Calls Tryd.prog 49 #[.int .i64 i, .int .i64 j, .pointer (some ⟨w.heap.size, 0, none⟩)] W fun e w' => e = .returned (.int .i64 r) ∧ RdW w s w' ∧ Below W.heap.size W w' :=
    fun i j r h0 h1 h2 h3 W hW => (readDate_at w.heap.size s i j r W hW.cell h0 h1 h2 h3).mono fun e w' q => ⟨q.1, hW.step q.2, q.2⟩
  have A1 := Aside0.mk (hat 5 7 d (by decide) (by decide) (by omega) hd)
  have A2 := Aside0.mk (hat 12 16 y (by decide) (by decide) (by omega) hy)
  have A3 := Aside0.mk (hat 17 19 h (by decide) (by decide) (by omega) hh)
  have A4 := Aside0.mk (hat 20 22 n (by decide) (by decide) (by omega) hn)
  have A5 := Aside0.mk (hat 23 25 c (by decide) (by decide) (by omega) hc)
  obtain ⟨ix, hix⟩ : ∃ q, Lib.index monthsB.data.toList (s.extract 8 11).data.toList = q := ⟨_, rfl⟩
  have hmi : ∀ W, RdW w s W → Calls Tryd.prog 51 #[.string monthsB, .string (s.extract 8 11)] W fun e w' => e = .returned (.int .i64 ix) ∧ RdW w s w' ∧ Below W.heap.size W w' := by
    intro W hW
    obtain ⟨v, hv⟩ := (hX.stays hW.bel).maxLen rfl
    refine (Tryd.strings_Index monthsB (s.extract 8 11) v W (by decide) hv).mono ?_
    rintro e w' ⟨rfl, rfl⟩
    exact ⟨by rw [hix], hW, Below.refl _ _⟩
  have A6 := Aside0.mk hmi
  have hmf : monthF s = wrap64 (wrap64 (Int.tdiv ix 3) + 1) := by unfold monthF; rw [hix]
  rw [hmf] at hok ht hA
  obtain ⟨m1, hm1⟩ : ∃ q, wrap64 (Int.tdiv ix 3) = q := ⟨_, rfl⟩
  rw [hm1] at hok ht hA
  have hm1w : IntKind.i64.wrap (Int.tdiv ix 3) = m1 := (i64_w _).trans hm1
  obtain ⟨m, hm⟩ : ∃ q, wrap64 (m1 + 1) = q := ⟨_, rfl⟩
  rw [hm] at hok ht hA
  have hmw : IntKind.i64.wrap (m1 + 1) = m := (i64_w _).trans hm
  have HOK := Aside0.mk (fun W => impl_DateOk.calls 16 y m d h n c ok W hok)
  have HT := Aside0.mk (fun W (hW : XW 6 W) q => impl_ShowDate.calls 16 y m d h n c t W hW (ht q))
  have HX := Aside0.mk (hX.to (m' := 6) (by decide))
  have s1 : (11 : Int) ≤ (s.size : Int) := by omega
  have s2 : ((s.size : Int) != 29) = false := by rw [h29]; rfl
  have hR0 : RdW w s ((w.alloc (.cells #[.string s] 9)).alloc (.cells #[.int .i64 0, .int .i64 0, .int .i64 0, .int .i64 0, .int .i64 0, .int .i64 0] 34)) := by
    refine ⟨?_, ?_, by simp, below_alloc (below_alloc (Below.refl _ _) _) _⟩
    · rw [Lib.alloc_old _ _ _ (by simp)]
      exact blk_new w _
    · have := blk_new (w.alloc (.cells #[.string s] 9)) (.cells #[.int .i64 0, .int .i64 0, .int .i64 0, .int .i64 0, .int .i64 0, .int .i64 0] 34)
      simpa using this
  have hR1 := hR0.drew
  have HA := Aside0.mk hA
  have HBo := Aside0.mk hB
  clear hA hB hR0 hat hmi hok ht hX hd hy hh hn hc hix hmf hm1 hm
  go_enter Tryd.func20, Tryd.ntmps20
  go_upto_region 4 with (fail)
  go_cut [5] (fun v5 wc => ∃ g : Nat, v5 = .pointer (some ⟨g, 0, none⟩) ∧ Aside0 (RdW w s wc) ∧ Aside0 (wc.heap[g]? = some (.cells #[.int .i64 y, .int .i64 m, .int .i64 d, .int .i64 h, .int .i64 n, .int .i64 c] 34 (0, 0))))
  case first =>
    refine start_ (n := 18) (S := fun W => W.cell? ⟨w.heap.size, 0, none⟩ = some (.string s) ∧ RdW w s W) (ds := [17]) #[false, false, false, false, false, false, false, false, false, false, false, false, false, false, false, false, false, false] (by kernel_rfl) rfl rfl ⟨hR1.cell, hR1⟩ (fun hHeld => ?_)
    generalize World.drew _ = w0 at hR1 hHeld ⊢
    refine pu0 0 11 #[true, false, false, false, false, false, false, false, false, false, false, false, false, false, false, false, false, false] ?_
    refine pu0 7 18 #[true, false, false, false, false, false, false, true, false, false, false, false, false, false, false, false, false, false] ?_
    refine pu0 9 20 #[true, false, false, false, false, false, false, true, false, true, false, false, false, false, false, false, false, false] ?_
    refine pu0 11 22 #[true, false, false, false, false, false, false, true, false, true, false, true, false, false, false, false, false, false] ?_
    refine pu0 13 24 #[true, false, false, false, false, false, false, true, false, true, false, true, false, true, false, false, false, false] ?_
    refine take_ (i := 2) (N := some 13) (v := ?_) (a' := ?_) #[true, false, true, false, false, false, false, true, false, true, false, true, false, true, false, false, false, false] rfl rfl (by kernel_rfl) (fun _ _ _ h => h) (Or.inl ⟨by rfl, ?_⟩) hHeld ?_ ?_
    rotate_left
    · rintro w' ⟨s0, s1⟩
      go_simp
      with_reducible rfl
    rotate_left
    · simp only [Act.put, List.setIfInBounds_toArray, List.set_cons_zero, List.set_cons_succ, i64_w, i32_w]
      rfl
    refine pu0 3 14 #[true, false, true, true, false, false, false, true, false, true, false, true, false, true, false, false, false, false] ?_
    refine two_ (i := 1) (j := 16) (Ni := some 12) (Nj := some 5) #[true, true, true, true, false, false, false, true, false, true, false, true, false, true, false, false, false, false] #[true, false, true, true, false, false, false, true, false, true, false, true, false, true, false, false, true, false] rfl rfl rfl rfl (by kernel_rfl) (by decide) (by decide) (fun K hK => ?_) (fun K hK => ?_)
    rotate_left
    · skip
      refine value_ (w1 := w0.alloc (.cells #[.int .i64 0, .int .i64 0, .int .i64 0, .int .i64 0, .int .i64 0, .int .i64 0] 34)) (v := .pointer (some ⟨w0.heap.size, 0, none⟩)) (by rfl) rfl (by go_simp) ?_
      have hqa := hR1.alloc (.cells #[.int .i64 0, .int .i64 0, .int .i64 0, .int .i64 0, .int .i64 0, .int .i64 0] 34)
      have hgb := hR1.big
      have hz := blk_new w0 (.cells #[.int .i64 0, .int .i64 0, .int .i64 0, .int .i64 0, .int .i64 0, .int .i64 0] 34)
      refine hK.out _ _ ⟨hqa.cell, hqa⟩ (fun hHeld => ?_)
      clear hK K
      generalize w0.alloc (.cells #[.int .i64 0, .int .i64 0, .int .i64 0, .int .i64 0, .int .i64 0, .int .i64 0] 34) = wa at hqa hz hHeld ⊢
      generalize w0.heap.size = g at hz hgb ⊢
      refine nm 5 ?_
      refine on0 1 12 rdA0 (fun K hK => ?_)
      refine goesC_ Tryd.func49 (by kernel_rfl) rfl #[.int .i64 5, .int .i64 7] #[.pointer (some ⟨w.heap.size, 0, none⟩)] (by rfl) rfl rfl (by rfl) (by (try simp only [List.map_toArray, List.map_cons, List.map_nil]); first | done | rfl) ?_
      refine (A1.out _ hqa).mono ?_
      rintro e w1 ⟨rfl, hq1, hb1⟩
      refine ⟨_, rfl, ?_⟩
      have hz1 := blk_below hz hb1
      refine hK.out _ _ ⟨hq1.cell, hq1⟩ (fun hHeld => ?_)
      clear hK K
      refine nm 12 ?_
      refine on0 4 15 rdA1 (fun K hK => ?_)
      refine goes_ Tryd.func51 (by kernel_rfl) rfl #[.string monthsB, .string (s.extract 8 11)] (by rfl) rfl rfl (by (try simp only [List.map_toArray, List.map_cons, List.map_nil]); first | done | rfl) ?_
      refine (A6.out _ hq1).mono ?_
      rintro e w2 ⟨rfl, hq2, hb2⟩
      refine ⟨_, rfl, ?_⟩
      have hz2 := blk_below hz1 hb2
      refine hK.out _ _ ⟨hq2.cell, hq2⟩ (fun hHeld => ?_)
      clear hK K
      refine nm 15 ?_
      refine pu0 5 16 rdA2 ?_
      refine pu0 6 17 rdA3 ?_
      refine on0 8 19 rdA4 (fun K hK => ?_)
      refine goesC_ Tryd.func49 (by kernel_rfl) rfl #[.int .i64 12, .int .i64 16] #[.pointer (some ⟨w.heap.size, 0, none⟩)] (by rfl) rfl rfl (by rfl) (by (try simp only [List.map_toArray, List.map_cons, List.map_nil]); first | done | rfl) ?_
      refine (A2.out _ hq2).mono ?_
      rintro e w3 ⟨rfl, hq3, hb3⟩
      refine ⟨_, rfl, ?_⟩
      have hz3 := blk_below hz2 hb3
      refine hK.out _ _ ⟨hq3.cell, hq3⟩ (fun hHeld => ?_)
      clear hK K
      refine nm 19 ?_
      refine on0 10 21 rdA5 (fun K hK => ?_)
      refine goesC_ Tryd.func49 (by kernel_rfl) rfl #[.int .i64 17, .int .i64 19] #[.pointer (some ⟨w.heap.size, 0, none⟩)] (by rfl) rfl rfl (by rfl) (by (try simp only [List.map_toArray, List.map_cons, List.map_nil]); first | done | rfl) ?_
      refine (A3.out _ hq3).mono ?_
      rintro e w4 ⟨rfl, hq4, hb4⟩
      refine ⟨_, rfl, ?_⟩
      have hz4 := blk_below hz3 hb4
      refine hK.out _ _ ⟨hq4.cell, hq4⟩ (fun hHeld => ?_)
      clear hK K
      refine nm 21 ?_
      refine on0 12 23 rdA6 (fun K hK => ?_)
      refine goesC_ Tryd.func49 (by kernel_rfl) rfl #[.int .i64 20, .int .i64 22] #[.pointer (some ⟨w.heap.size, 0, none⟩)] (by rfl) rfl rfl (by rfl) (by (try simp only [List.map_toArray, List.map_cons, List.map_nil]); first | done | rfl) ?_
      refine (A4.out _ hq4).mono ?_
      rintro e w5 ⟨rfl, hq5, hb5⟩
      refine ⟨_, rfl, ?_⟩
      have hz5 := blk_below hz4 hb5
      refine hK.out _ _ ⟨hq5.cell, hq5⟩ (fun hHeld => ?_)
      clear hK K
      refine nm 23 ?_
      refine on0 14 25 rdA7 (fun K hK => ?_)
      refine goesC_ Tryd.func49 (by kernel_rfl) rfl #[.int .i64 23, .int .i64 25] #[.pointer (some ⟨w.heap.size, 0, none⟩)] (by rfl) rfl rfl (by rfl) (by (try simp only [List.map_toArray, List.map_cons, List.map_nil]); first | done | rfl) ?_
      refine (A5.out _ hq5).mono ?_
      rintro e w6 ⟨rfl, hq6, hb6⟩
      refine ⟨_, rfl, ?_⟩
      have hz6 := blk_below hz5 hb6
      refine hK.out _ _ ⟨hq6.cell, hq6⟩ (fun hHeld => ?_)
      clear hK K
      refine nm 25 ?_
      refine pu0 15 26 rdA8 ?_
      refine last_ (i := 17) (N := none) rdA9 rfl rfl (by kernel_rfl) (by decide) (fun K hK => ?_)
      refine skip_ (by rfl) rfl (date_store (.tmp 5) (.tmp 26) rfl (by rfl) (by rfl) hz6) ?_
      refine hK.out _ _ ?_
      clear hK K
      refine done_ (by kernel_rfl) ?_
      have hqs := hq6.set hgb [.int .i64 y, .int .i64 m, .int .i64 d, .int .i64 h, .int .i64 n, .int .i64 c]
      try go_wp2
      go_meet
      case rel => exact ⟨_, rfl, ⟨hqs⟩, ⟨date_put hz6⟩⟩
    refine goesC_ Tryd.func49 (by kernel_rfl) rfl #[.int .i64 5, .int .i64 7] #[.pointer (some ⟨w.heap.size, 0, none⟩)] (by rfl) rfl rfl (by rfl) (by (try simp only [List.map_toArray, List.map_cons, List.map_nil]); first | done | rfl) ?_
    refine (A1.out _ hR1).mono ?_
    rintro e w1 ⟨rfl, hq1, hb1⟩
    refine ⟨_, rfl, ?_⟩
    refine hK.out _ _ ⟨hq1.cell, hq1⟩ (fun hHeld => ?_)
    clear hK K
    refine nm 12 ?_
    refine two_ (i := 4) (j := 16) (Ni := some 15) (Nj := some 5) #[true, true, true, true, true, false, false, true, false, true, false, true, false, true, false, false, false, false] rdA0 rfl rfl rfl rfl (by kernel_rfl) (by decide) (by decide) (fun K hK => ?_) (fun K hK => ?_)
    rotate_left
    · skip
      refine value_ (w1 := w1.alloc (.cells #[.int .i64 0, .int .i64 0, .int .i64 0, .int .i64 0, .int .i64 0, .int .i64 0] 34)) (v := .pointer (some ⟨w1.heap.size, 0, none⟩)) (by rfl) rfl (by go_simp) ?_
      have hqa := hq1.alloc (.cells #[.int .i64 0, .int .i64 0, .int .i64 0, .int .i64 0, .int .i64 0, .int .i64 0] 34)
      have hgb := hq1.big
      have hz := blk_new w1 (.cells #[.int .i64 0, .int .i64 0, .int .i64 0, .int .i64 0, .int .i64 0, .int .i64 0] 34)
      refine hK.out _ _ ⟨hqa.cell, hqa⟩ (fun hHeld => ?_)
      clear hK K
      generalize w1.alloc (.cells #[.int .i64 0, .int .i64 0, .int .i64 0, .int .i64 0, .int .i64 0, .int .i64 0] 34) = wa at hqa hz hHeld ⊢
      generalize w1.heap.size = g at hz hgb ⊢
      refine nm 5 ?_
      refine on0 4 15 rdA1 (fun K hK => ?_)
      refine goes_ Tryd.func51 (by kernel_rfl) rfl #[.string monthsB, .string (s.extract 8 11)] (by rfl) rfl rfl (by (try simp only [List.map_toArray, List.map_cons, List.map_nil]); first | done | rfl) ?_
      refine (A6.out _ hqa).mono ?_
      rintro e w2 ⟨rfl, hq2, hb2⟩
      refine ⟨_, rfl, ?_⟩
      have hz2 := blk_below hz hb2
      refine hK.out _ _ ⟨hq2.cell, hq2⟩ (fun hHeld => ?_)
      clear hK K
      refine nm 15 ?_
      refine pu0 5 16 rdA2 ?_
      refine pu0 6 17 rdA3 ?_
      refine on0 8 19 rdA4 (fun K hK => ?_)
      refine goesC_ Tryd.func49 (by kernel_rfl) rfl #[.int .i64 12, .int .i64 16] #[.pointer (some ⟨w.heap.size, 0, none⟩)] (by rfl) rfl rfl (by rfl) (by (try simp only [List.map_toArray, List.map_cons, List.map_nil]); first | done | rfl) ?_
      refine (A2.out _ hq2).mono ?_
      rintro e w3 ⟨rfl, hq3, hb3⟩
      refine ⟨_, rfl, ?_⟩
      have hz3 := blk_below hz2 hb3
      refine hK.out _ _ ⟨hq3.cell, hq3⟩ (fun hHeld => ?_)
      clear hK K
      refine nm 19 ?_
      refine on0 10 21 rdA5 (fun K hK => ?_)
      refine goesC_ Tryd.func49 (by kernel_rfl) rfl #[.int .i64 17, .int .i64 19] #[.pointer (some ⟨w.heap.size, 0, none⟩)] (by rfl) rfl rfl (by rfl) (by (try simp only [List.map_toArray, List.map_cons, List.map_nil]); first | done | rfl) ?_
      refine (A3.out _ hq3).mono ?_
      rintro e w4 ⟨rfl, hq4, hb4⟩
      refine ⟨_, rfl, ?_⟩
      have hz4 := blk_below hz3 hb4
      refine hK.out _ _ ⟨hq4.cell, hq4⟩ (fun hHeld => ?_)
      clear hK K
      refine nm 21 ?_
      refine on0 12 23 rdA6 (fun K hK => ?_)
      refine goesC_ Tryd.func49 (by kernel_rfl) rfl #[.int .i64 20, .int .i64 22] #[.pointer (some ⟨w.heap.size, 0, none⟩)] (by rfl) rfl rfl (by rfl) (by (try simp only [List.map_toArray, List.map_cons, List.map_nil]); first | done | rfl) ?_
      refine (A4.out _ hq4).mono ?_
      rintro e w5 ⟨rfl, hq5, hb5⟩
      refine ⟨_, rfl, ?_⟩
      have hz5 := blk_below hz4 hb5
      refine hK.out _ _ ⟨hq5.cell, hq5⟩ (fun hHeld => ?_)
      clear hK K
      refine nm 23 ?_
      refine on0 14 25 rdA7 (fun K hK => ?_)
      refine goesC_ Tryd.func49 (by kernel_rfl) rfl #[.int .i64 23, .int .i64 25] #[.pointer (some ⟨w.heap.size, 0, none⟩)] (by rfl) rfl rfl (by rfl) (by (try simp only [List.map_toArray, List.map_cons, List.map_nil]); first | done | rfl) ?_
      refine (A5.out _ hq5).mono ?_
      rintro e w6 ⟨rfl, hq6, hb6⟩
      refine ⟨_, rfl, ?_⟩
      have hz6 := blk_below hz5 hb6
      refine hK.out _ _ ⟨hq6.cell, hq6⟩ (fun hHeld => ?_)
      clear hK K
      refine nm 25 ?_
      refine pu0 15 26 rdA8 ?_
      refine last_ (i := 17) (N := none) rdA9 rfl rfl (by kernel_rfl) (by decide) (fun K hK => ?_)
      refine skip_ (by rfl) rfl (date_store (.tmp 5) (.tmp 26) rfl (by rfl) (by rfl) hz6) ?_
      refine hK.out _ _ ?_
      clear hK K
      refine done_ (by kernel_rfl) ?_
      have hqs := hq6.set hgb [.int .i64 y, .int .i64 m, .int .i64 d, .int .i64 h, .int .i64 n, .int .i64 c]
      try go_wp2
      go_meet
      case rel => exact ⟨_, rfl, ⟨hqs⟩, ⟨date_put hz6⟩⟩
    refine goes_ Tryd.func51 (by kernel_rfl) rfl #[.string monthsB, .string (s.extract 8 11)] (by rfl) rfl rfl (by (try simp only [List.map_toArray, List.map_cons, List.map_nil]); first | done | rfl) ?_
    refine (A6.out _ hq1).mono ?_
    rintro e w2 ⟨rfl, hq2, hb2⟩
    refine ⟨_, rfl, ?_⟩
    refine hK.out _ _ ⟨hq2.cell, hq2⟩ (fun hHeld => ?_)
    clear hK K
    refine nm 15 ?_
    refine pu0 5 16 #[true, true, true, true, true, true, false, true, false, true, false, true, false, true, false, false, false, false] ?_
    refine pu0 6 17 #[true, true, true, true, true, true, true, true, false, true, false, true, false, true, false, false, false, false] ?_
    refine two_ (i := 8) (j := 16) (Ni := some 19) (Nj := some 5) #[true, true, true, true, true, true, true, true, true, true, false, true, false, true, false, false, false, false] rdA3 rfl rfl rfl rfl (by kernel_rfl) (by decide) (by decide) (fun K hK => ?_) (fun K hK => ?_)
    rotate_left
    · skip
      refine value_ (w1 := w2.alloc (.cells #[.int .i64 0, .int .i64 0, .int .i64 0, .int .i64 0, .int .i64 0, .int .i64 0] 34)) (v := .pointer (some ⟨w2.heap.size, 0, none⟩)) (by rfl) rfl (by go_simp) ?_
      have hqa := hq2.alloc (.cells #[.int .i64 0, .int .i64 0, .int .i64 0, .int .i64 0, .int .i64 0, .int .i64 0] 34)
      have hgb := hq2.big
      have hz := blk_new w2 (.cells #[.int .i64 0, .int .i64 0, .int .i64 0, .int .i64 0, .int .i64 0, .int .i64 0] 34)
      refine hK.out _ _ ⟨hqa.cell, hqa⟩ (fun hHeld => ?_)
      clear hK K
      generalize w2.alloc (.cells #[.int .i64 0, .int .i64 0, .int .i64 0, .int .i64 0, .int .i64 0, .int .i64 0] 34) = wa at hqa hz hHeld ⊢
      generalize w2.heap.size = g at hz hgb ⊢
      refine nm 5 ?_
      refine on0 8 19 rdA4 (fun K hK => ?_)
      refine goesC_ Tryd.func49 (by kernel_rfl) rfl #[.int .i64 12, .int .i64 16] #[.pointer (some ⟨w.heap.size, 0, none⟩)] (by rfl) rfl rfl (by rfl) (by (try simp only [List.map_toArray, List.map_cons, List.map_nil]); first | done | rfl) ?_
      refine (A2.out _ hqa).mono ?_
      rintro e w3 ⟨rfl, hq3, hb3⟩
      refine ⟨_, rfl, ?_⟩
      have hz3 := blk_below hz hb3
      refine hK.out _ _ ⟨hq3.cell, hq3⟩ (fun hHeld => ?_)
      clear hK K
      refine nm 19 ?_
      refine on0 10 21 rdA5 (fun K hK => ?_)
      refine goesC_ Tryd.func49 (by kernel_rfl) rfl #[.int .i64 17, .int .i64 19] #[.pointer (some ⟨w.heap.size, 0, none⟩)] (by rfl) rfl rfl (by rfl) (by (try simp only [List.map_toArray, List.map_cons, List.map_nil]); first | done | rfl) ?_
      refine (A3.out _ hq3).mono ?_
      rintro e w4 ⟨rfl, hq4, hb4⟩
      refine ⟨_, rfl, ?_⟩
      have hz4 := blk_below hz3 hb4
      refine hK.out _ _ ⟨hq4.cell, hq4⟩ (fun hHeld => ?_)
      clear hK K
      refine nm 21 ?_
      refine on0 12 23 rdA6 (fun K hK => ?_)
      refine goesC_ Tryd.func49 (by kernel_rfl) rfl #[.int .i64 20, .int .i64 22] #[.pointer (some ⟨w.heap.size, 0, none⟩)] (by rfl) rfl rfl (by rfl) (by (try simp only [List.map_toArray, List.map_cons, List.map_nil]); first | done | rfl) ?_
      refine (A4.out _ hq4).mono ?_
      rintro e w5 ⟨rfl, hq5, hb5⟩
      refine ⟨_, rfl, ?_⟩
      have hz5 := blk_below hz4 hb5
      refine hK.out _ _ ⟨hq5.cell, hq5⟩ (fun hHeld => ?_)
      clear hK K
      refine nm 23 ?_
      refine on0 14 25 rdA7 (fun K hK => ?_)
      refine goesC_ Tryd.func49 (by kernel_rfl) rfl #[.int .i64 23, .int .i64 25] #[.pointer (some ⟨w.heap.size, 0, none⟩)] (by rfl) rfl rfl (by rfl) (by (try simp only [List.map_toArray, List.map_cons, List.map_nil]); first | done | rfl) ?_
      refine (A5.out _ hq5).mono ?_
      rintro e w6 ⟨rfl, hq6, hb6⟩
      refine ⟨_, rfl, ?_⟩
      have hz6 := blk_below hz5 hb6
      refine hK.out _ _ ⟨hq6.cell, hq6⟩ (fun hHeld => ?_)
      clear hK K
      refine nm 25 ?_
      refine pu0 15 26 rdA8 ?_
      refine last_ (i := 17) (N := none) rdA9 rfl rfl (by kernel_rfl) (by decide) (fun K hK => ?_)
      refine skip_ (by rfl) rfl (date_store (.tmp 5) (.tmp 26) rfl (by rfl) (by rfl) hz6) ?_
      refine hK.out _ _ ?_
      clear hK K
      refine done_ (by kernel_rfl) ?_
      have hqs := hq6.set hgb [.int .i64 y, .int .i64 m, .int .i64 d, .int .i64 h, .int .i64 n, .int .i64 c]
      try go_wp2
      go_meet
      case rel => exact ⟨_, rfl, ⟨hqs⟩, ⟨date_put hz6⟩⟩
    refine goesC_ Tryd.func49 (by kernel_rfl) rfl #[.int .i64 12, .int .i64 16] #[.pointer (some ⟨w.heap.size, 0, none⟩)] (by rfl) rfl rfl (by rfl) (by (try simp only [List.map_toArray, List.map_cons, List.map_nil]); first | done | rfl) ?_
    refine (A2.out _ hq2).mono ?_
    rintro e w3 ⟨rfl, hq3, hb3⟩
    refine ⟨_, rfl, ?_⟩
    refine hK.out _ _ ⟨hq3.cell, hq3⟩ (fun hHeld => ?_)
    clear hK K
    refine nm 19 ?_
    refine two_ (i := 10) (j := 16) (Ni := some 21) (Nj := some 5) #[true, true, true, true, true, true, true, true, true, true, true, true, false, true, false, false, false, false] rdA4 rfl rfl rfl rfl (by kernel_rfl) (by decide) (by decide) (fun K hK => ?_) (fun K hK => ?_)
    rotate_left
    · skip
      refine value_ (w1 := w3.alloc (.cells #[.int .i64 0, .int .i64 0, .int .i64 0, .int .i64 0, .int .i64 0, .int .i64 0] 34)) (v := .pointer (some ⟨w3.heap.size, 0, none⟩)) (by rfl) rfl (by go_simp) ?_
      have hqa := hq3.alloc (.cells #[.int .i64 0, .int .i64 0, .int .i64 0, .int .i64 0, .int .i64 0, .int .i64 0] 34)
      have hgb := hq3.big
      have hz := blk_new w3 (.cells #[.int .i64 0, .int .i64 0, .int .i64 0, .int .i64 0, .int .i64 0, .int .i64 0] 34)
      refine hK.out _ _ ⟨hqa.cell, hqa⟩ (fun hHeld => ?_)
      clear hK K
      generalize w3.alloc (.cells #[.int .i64 0, .int .i64 0, .int .i64 0, .int .i64 0, .int .i64 0, .int .i64 0] 34) = wa at hqa hz hHeld ⊢
      generalize w3.heap.size = g at hz hgb ⊢
      refine nm 5 ?_
      refine on0 10 21 rdA5 (fun K hK => ?_)
      refine goesC_ Tryd.func49 (by kernel_rfl) rfl #[.int .i64 17, .int .i64 19] #[.pointer (some ⟨w.heap.size, 0, none⟩)] (by rfl) rfl rfl (by rfl) (by (try simp only [List.map_toArray, List.map_cons, List.map_nil]); first | done | rfl) ?_
      refine (A3.out _ hqa).mono ?_
      rintro e w4 ⟨rfl, hq4, hb4⟩
      refine ⟨_, rfl, ?_⟩
      have hz4 := blk_below hz hb4
      refine hK.out _ _ ⟨hq4.cell, hq4⟩ (fun hHeld => ?_)
      clear hK K
      refine nm 21 ?_
      refine on0 12 23 rdA6 (fun K hK => ?_)
      refine goesC_ Tryd.func49 (by kernel_rfl) rfl #[.int .i64 20, .int .i64 22] #[.pointer (some ⟨w.heap.size, 0, none⟩)] (by rfl) rfl rfl (by rfl) (by (try simp only [List.map_toArray, List.map_cons, List.map_nil]); first | done | rfl) ?_
      refine (A4.out _ hq4).mono ?_
      rintro e w5 ⟨rfl, hq5, hb5⟩
      refine ⟨_, rfl, ?_⟩
      have hz5 := blk_below hz4 hb5
      refine hK.out _ _ ⟨hq5.cell, hq5⟩ (fun hHeld => ?_)
      clear hK K
      refine nm 23 ?_
      refine on0 14 25 rdA7 (fun K hK => ?_)
      refine goesC_ Tryd.func49 (by kernel_rfl) rfl #[.int .i64 23, .int .i64 25] #[.pointer (some ⟨w.heap.size, 0, none⟩)] (by rfl) rfl rfl (by rfl) (by (try simp only [List.map_toArray, List.map_cons, List.map_nil]); first | done | rfl) ?_
      refine (A5.out _ hq5).mono ?_
      rintro e w6 ⟨rfl, hq6, hb6⟩
      refine ⟨_, rfl, ?_⟩
      have hz6 := blk_below hz5 hb6
      refine hK.out _ _ ⟨hq6.cell, hq6⟩ (fun hHeld => ?_)
      clear hK K
      refine nm 25 ?_
      refine pu0 15 26 rdA8 ?_
      refine last_ (i := 17) (N := none) rdA9 rfl rfl (by kernel_rfl) (by decide) (fun K hK => ?_)
      refine skip_ (by rfl) rfl (date_store (.tmp 5) (.tmp 26) rfl (by rfl) (by rfl) hz6) ?_
      refine hK.out _ _ ?_
      clear hK K
      refine done_ (by kernel_rfl) ?_
      have hqs := hq6.set hgb [.int .i64 y, .int .i64 m, .int .i64 d, .int .i64 h, .int .i64 n, .int .i64 c]
      try go_wp2
      go_meet
      case rel => exact ⟨_, rfl, ⟨hqs⟩, ⟨date_put hz6⟩⟩
    refine goesC_ Tryd.func49 (by kernel_rfl) rfl #[.int .i64 17, .int .i64 19] #[.pointer (some ⟨w.heap.size, 0, none⟩)] (by rfl) rfl rfl (by rfl) (by (try simp only [List.map_toArray, List.map_cons, List.map_nil]); first | done | rfl) ?_
    refine (A3.out _ hq3).mono ?_
    rintro e w4 ⟨rfl, hq4, hb4⟩
    refine ⟨_, rfl, ?_⟩
    refine hK.out _ _ ⟨hq4.cell, hq4⟩ (fun hHeld => ?_)
    clear hK K
    refine nm 21 ?_
    refine two_ (i := 12) (j := 16) (Ni := some 23) (Nj := some 5) #[true, true, true, true, true, true, true, true, true, true, true, true, true, true, false, false, false, false] rdA5 rfl rfl rfl rfl (by kernel_rfl) (by decide) (by decide) (fun K hK => ?_) (fun K hK => ?_)
    rotate_left
    · skip
      refine value_ (w1 := w4.alloc (.cells #[.int .i64 0, .int .i64 0, .int .i64 0, .int .i64 0, .int .i64 0, .int .i64 0] 34)) (v := .pointer (some ⟨w4.heap.size, 0, none⟩)) (by rfl) rfl (by go_simp) ?_
      have hqa := hq4.alloc (.cells #[.int .i64 0, .int .i64 0, .int .i64 0, .int .i64 0, .int .i64 0, .int .i64 0] 34)
      have hgb := hq4.big
      have hz := blk_new w4 (.cells #[.int .i64 0, .int .i64 0, .int .i64 0, .int .i64 0, .int .i64 0, .int .i64 0] 34)
      refine hK.out _ _ ⟨hqa.cell, hqa⟩ (fun hHeld => ?_)
      clear hK K
      generalize w4.alloc (.cells #[.int .i64 0, .int .i64 0, .int .i64 0, .int .i64 0, .int .i64 0, .int .i64 0] 34) = wa at hqa hz hHeld ⊢
      generalize w4.heap.size = g at hz hgb ⊢
      refine nm 5 ?_
      refine on0 12 23 rdA6 (fun K hK => ?_)
      refine goesC_ Tryd.func49 (by kernel_rfl) rfl #[.int .i64 20, .int .i64 22] #[.pointer (some ⟨w.heap.size, 0, none⟩)] (by rfl) rfl rfl (by rfl) (by (try simp only [List.map_toArray, List.map_cons, List.map_nil]); first | done | rfl) ?_
      refine (A4.out _ hqa).mono ?_
      rintro e w5 ⟨rfl, hq5, hb5⟩
      refine ⟨_, rfl, ?_⟩
      have hz5 := blk_below hz hb5
      refine hK.out _ _ ⟨hq5.cell, hq5⟩ (fun hHeld => ?_)
      clear hK K
      refine nm 23 ?_
      refine on0 14 25 rdA7 (fun K hK => ?_)
      refine goesC_ Tryd.func49 (by kernel_rfl) rfl #[.int .i64 23, .int .i64 25] #[.pointer (some ⟨w.heap.size, 0, none⟩)] (by rfl) rfl rfl (by rfl) (by (try simp only [List.map_toArray, List.map_cons, List.map_nil]); first | done | rfl) ?_
      refine (A5.out _ hq5).mono ?_
      rintro e w6 ⟨rfl, hq6, hb6⟩
      refine ⟨_, rfl, ?_⟩
      have hz6 := blk_below hz5 hb6
      refine hK.out _ _ ⟨hq6.cell, hq6⟩ (fun hHeld => ?_)
      clear hK K
      refine nm 25 ?_
      refine pu0 15 26 rdA8 ?_
      refine last_ (i := 17) (N := none) rdA9 rfl rfl (by kernel_rfl) (by decide) (fun K hK => ?_)
      refine skip_ (by rfl) rfl (date_store (.tmp 5) (.tmp 26) rfl (by rfl) (by rfl) hz6) ?_
      refine hK.out _ _ ?_
      clear hK K
      refine done_ (by kernel_rfl) ?_
      have hqs := hq6.set hgb [.int .i64 y, .int .i64 m, .int .i64 d, .int .i64 h, .int .i64 n, .int .i64 c]
      try go_wp2
      go_meet
      case rel => exact ⟨_, rfl, ⟨hqs⟩, ⟨date_put hz6⟩⟩
    refine goesC_ Tryd.func49 (by kernel_rfl) rfl #[.int .i64 20, .int .i64 22] #[.pointer (some ⟨w.heap.size, 0, none⟩)] (by rfl) rfl rfl (by rfl) (by (try simp only [List.map_toArray, List.map_cons, List.map_nil]); first | done | rfl) ?_
    refine (A4.out _ hq4).mono ?_
    rintro e w5 ⟨rfl, hq5, hb5⟩
    refine ⟨_, rfl, ?_⟩
    refine hK.out _ _ ⟨hq5.cell, hq5⟩ (fun hHeld => ?_)
    clear hK K
    refine nm 23 ?_
    refine two_ (i := 14) (j := 16) (Ni := some 25) (Nj := some 5) #[true, true, true, true, true, true, true, true, true, true, true, true, true, true, true, false, false, false] rdA6 rfl rfl rfl rfl (by kernel_rfl) (by decide) (by decide) (fun K hK => ?_) (fun K hK => ?_)
    rotate_left
    · skip
      refine value_ (w1 := w5.alloc (.cells #[.int .i64 0, .int .i64 0, .int .i64 0, .int .i64 0, .int .i64 0, .int .i64 0] 34)) (v := .pointer (some ⟨w5.heap.size, 0, none⟩)) (by rfl) rfl (by go_simp) ?_
      have hqa := hq5.alloc (.cells #[.int .i64 0, .int .i64 0, .int .i64 0, .int .i64 0, .int .i64 0, .int .i64 0] 34)
      have hgb := hq5.big
      have hz := blk_new w5 (.cells #[.int .i64 0, .int .i64 0, .int .i64 0, .int .i64 0, .int .i64 0, .int .i64 0] 34)
      refine hK.out _ _ ⟨hqa.cell, hqa⟩ (fun hHeld => ?_)
      clear hK K
      generalize w5.alloc (.cells #[.int .i64 0, .int .i64 0, .int .i64 0, .int .i64 0, .int .i64 0, .int .i64 0] 34) = wa at hqa hz hHeld ⊢
      generalize w5.heap.size = g at hz hgb ⊢
      refine nm 5 ?_
      refine on0 14 25 rdA7 (fun K hK => ?_)
      refine goesC_ Tryd.func49 (by kernel_rfl) rfl #[.int .i64 23, .int .i64 25] #[.pointer (some ⟨w.heap.size, 0, none⟩)] (by rfl) rfl rfl (by rfl) (by (try simp only [List.map_toArray, List.map_cons, List.map_nil]); first | done | rfl) ?_
      refine (A5.out _ hqa).mono ?_
      rintro e w6 ⟨rfl, hq6, hb6⟩
      refine ⟨_, rfl, ?_⟩
      have hz6 := blk_below hz hb6
      refine hK.out _ _ ⟨hq6.cell, hq6⟩ (fun hHeld => ?_)
      clear hK K
      refine nm 25 ?_
      refine pu0 15 26 rdA8 ?_
      refine last_ (i := 17) (N := none) rdA9 rfl rfl (by kernel_rfl) (by decide) (fun K hK => ?_)
      refine skip_ (by rfl) rfl (date_store (.tmp 5) (.tmp 26) rfl (by rfl) (by rfl) hz6) ?_
      refine hK.out _ _ ?_
      clear hK K
      refine done_ (by kernel_rfl) ?_
      have hqs := hq6.set hgb [.int .i64 y, .int .i64 m, .int .i64 d, .int .i64 h, .int .i64 n, .int .i64 c]
      try go_wp2
      go_meet
      case rel => exact ⟨_, rfl, ⟨hqs⟩, ⟨date_put hz6⟩⟩
    refine goesC_ Tryd.func49 (by kernel_rfl) rfl #[.int .i64 23, .int .i64 25] #[.pointer (some ⟨w.heap.size, 0, none⟩)] (by rfl) rfl rfl (by rfl) (by (try simp only [List.map_toArray, List.map_cons, List.map_nil]); first | done | rfl) ?_
    refine (A5.out _ hq5).mono ?_
    rintro e w6 ⟨rfl, hq6, hb6⟩
    refine ⟨_, rfl, ?_⟩
    refine hK.out _ _ ⟨hq6.cell, hq6⟩ (fun hHeld => ?_)
    clear hK K
    refine nm 25 ?_
    refine pu0 15 26 #[true, true, true, true, true, true, true, true, true, true, true, true, true, true, true, true, false, false] ?_
    refine on0 16 5 rdA8 (fun K hK => ?_)
    refine value_ (w1 := w6.alloc (.cells #[.int .i64 0, .int .i64 0, .int .i64 0, .int .i64 0, .int .i64 0, .int .i64 0] 34)) (v := .pointer (some ⟨w6.heap.size, 0, none⟩)) (by rfl) rfl (by go_simp) ?_
    have hqa := hq6.alloc (.cells #[.int .i64 0, .int .i64 0, .int .i64 0, .int .i64 0, .int .i64 0, .int .i64 0] 34)
    have hgb := hq6.big
    have hz := blk_new w6 (.cells #[.int .i64 0, .int .i64 0, .int .i64 0, .int .i64 0, .int .i64 0, .int .i64 0] 34)
    refine hK.out _ _ ⟨hqa.cell, hqa⟩ (fun hHeld => ?_)
    clear hK K
    generalize w6.alloc (.cells #[.int .i64 0, .int .i64 0, .int .i64 0, .int .i64 0, .int .i64 0, .int .i64 0] 34) = wa at hqa hz hHeld ⊢
    generalize w6.heap.size = g at hz hgb ⊢
    refine nm 5 ?_
    refine last_ (i := 17) (N := none) rdA9 rfl rfl (by kernel_rfl) (by decide) (fun K hK => ?_)
    refine skip_ (by rfl) rfl (date_store (.tmp 5) (.tmp 26) rfl (by rfl) (by rfl) hz) ?_
    refine hK.out _ _ ?_
    clear hK K
    refine done_ (by kernel_rfl) ?_
    have hqs := hqa.set hgb [.int .i64 y, .int .i64 m, .int .i64 d, .int .i64 h, .int .i64 n, .int .i64 c]
    try go_wp2
    go_meet
    case rel => exact ⟨_, rfl, ⟨hqs⟩, ⟨date_put hz⟩⟩
  case rest =>
    obtain ⟨g, rfl, R, BK⟩ := hcut
    have D : RdD w s g y m d h n c wc.drew := ⟨R.out.drew, BK.out⟩
    clear R BK A1 A2 A3 A4 A5 A6
    go_wp2
    cases ok with
    | false =>
      have hout := HBo.out (fun q => Bool.noConfusion q.1)
      refine start_ (n := 9) (S := (fun W => W.cell? ⟨w.heap.size, 0, none⟩ = some (.string s) ∧ W.cell? ⟨g, 0, none⟩ = some (.int .i64 y) ∧ W.cell? ⟨g, 1, none⟩ = some (.int .i64 m) ∧ W.cell? ⟨g, 2, none⟩ = some (.int .i64 d) ∧ W.cell? ⟨g, 3, none⟩ = some (.int .i64 h) ∧ W.cell? ⟨g, 4, none⟩ = some (.int .i64 n) ∧ W.cell? ⟨g, 5, none⟩ = some (.int .i64 c) ∧ RdD w s g y m d h n c W)) (ds := []) #[false, false, false, false, false, false, false, false, false] (by kernel_rfl) rfl rfl (RdD.held D) (fun hHeld => ?_)
      generalize World.drew _ = w0 at D hHeld ⊢
      refine take_ (i := 0) (N := some 27) (v := ?_) (a' := ?_) #[true, false, false, false, false, false, false, false, false] rfl rfl (by kernel_rfl) (fun _ _ _ h => h) (Or.inl ⟨by rfl, ?_⟩) hHeld ?_ ?_
      rotate_left
      · rintro w' ⟨s0, s1, s2, s3, s4, s5, s6, s7⟩
        go_simp
        with_reducible rfl
      rotate_left
      · simp only [Act.put, List.setIfInBounds_toArray, List.set_cons_zero, List.set_cons_succ, i64_w, i32_w]
        rfl
      refine on0 1 28 #[true, true, false, false, false, false, false, false, false] (fun K hK => ?_)
      refine goes_ Tryd.func41 (by kernel_rfl) rfl #[.agg #[.int .i64 y, .int .i64 m, .int .i64 d, .int .i64 h, .int .i64 n, .int .i64 c]] (by rfl) rfl rfl (by (try simp only [List.map_toArray, List.map_cons, List.map_nil]); first | done | rfl) ?_
      refine (HOK.out _).mono ?_
      rintro e w7 ⟨rfl, hb7⟩
      refine ⟨_, rfl, ?_⟩
      have D7 := D.step hb7
      refine hK.out _ _ (RdD.held D7) (fun hHeld => ?_)
      clear hK K
      refine nm 28 ?_
      refine pu0 2 29 #[true, true, true, false, false, false, false, false, false] ?_
      refine pu0 3 30 #[true, true, true, true, false, false, false, false, false] ?_
      refine un0 4 31 #[true, true, true, true, true, false, false, false, false] ?_
      refine un0 6 33 #[true, true, true, true, true, false, true, false, false] ?_
      refine un0 5 32 #[true, true, true, true, true, true, true, false, false] ?_
      refine un0 7 34 #[true, true, true, true, true, true, true, true, false] ?_
      refine pu0 8 35 #[true, true, true, true, true, true, true, true, true] ?_
      refine done_ (by kernel_rfl) ?_
      have hbel := D7.r.bel
      have z0 : w7.cell? ⟨w.heap.size + 1, 0, none⟩ = some (.int .i64 0) := (blk_cell D7.r.res 0).trans rfl
      have f0 := blk_frozen D7.r.res 0
      have z1 : w7.cell? ⟨w.heap.size + 1, 1, none⟩ = some (.int .i64 0) := (blk_cell D7.r.res 1).trans rfl
      have f1 := blk_frozen D7.r.res 1
      have z2 : w7.cell? ⟨w.heap.size + 1, 2, none⟩ = some (.int .i64 0) := (blk_cell D7.r.res 2).trans rfl
      have f2 := blk_frozen D7.r.res 2
      have z3 : w7.cell? ⟨w.heap.size + 1, 3, none⟩ = some (.int .i64 0) := (blk_cell D7.r.res 3).trans rfl
      have f3 := blk_frozen D7.r.res 3
      have z4 : w7.cell? ⟨w.heap.size + 1, 4, none⟩ = some (.int .i64 0) := (blk_cell D7.r.res 4).trans rfl
      have f4 := blk_frozen D7.r.res 4
      have z5 : w7.cell? ⟨w.heap.size + 1, 5, none⟩ = some (.int .i64 0) := (blk_cell D7.r.res 5).trans rfl
      have f5 := blk_frozen D7.r.res 5
      go_wp2
      refine bodyPost_ret (results_ct rfl _ _ (w.heap.size + 1) 34 #[.int .i64 0, .int .i64 0, .int .i64 0, .int .i64 0, .int .i64 0, .int .i64 0] (0, 0) _ rfl (by refine blk_put (cs := #[.int .i64 0, .int .i64 0, .int .i64 0, .int .i64 0, .int .i64 0, .int .i64 0]) ?_ 5 _ rfl; refine blk_put (cs := #[.int .i64 0, .int .i64 0, .int .i64 0, .int .i64 0, .int .i64 0, .int .i64 0]) ?_ 4 _ rfl; refine blk_put (cs := #[.int .i64 0, .int .i64 0, .int .i64 0, .int .i64 0, .int .i64 0, .int .i64 0]) ?_ 3 _ rfl; refine blk_put (cs := #[.int .i64 0, .int .i64 0, .int .i64 0, .int .i64 0, .int .i64 0, .int .i64 0]) ?_ 2 _ rfl; refine blk_put (cs := #[.int .i64 0, .int .i64 0, .int .i64 0, .int .i64 0, .int .i64 0, .int .i64 0]) ?_ 1 _ rfl; refine blk_put (cs := #[.int .i64 0, .int .i64 0, .int .i64 0, .int .i64 0, .int .i64 0, .int .i64 0]) ?_ 0 _ rfl; exact D7.r.res) Tryd.underlying34 rfl (by kernel_rfl)) rfl ?_
      exact ⟨by rw [hout]; rfl, below_set (below_set (below_set (below_set (below_set (below_set hbel (Nat.le_succ _)) (Nat.le_succ _)) (Nat.le_succ _)) (Nat.le_succ _)) (Nat.le_succ _)) (Nat.le_succ _)⟩
    | true =>
      have HT2 := Aside0.mk (fun W hW => HT.out W hW rfl)
      clear HT
      by_cases htt : t.toList = s.toList
      · have hout := HA.out rfl htt
        have e0 : (t.toList == s.toList) = true := beq_iff_eq.mpr htt
        have e1 : (t.toList != s.toList) = false := bne_eq_false_iff_eq.mpr htt
        clear HA HBo htt
        go_region_held3 (fun W => W.cell? ⟨w.heap.size, 0, none⟩ = some (.string s) ∧ W.cell? ⟨g, 0, none⟩ = some (.int .i64 y) ∧ W.cell? ⟨g, 1, none⟩ = some (.int .i64 m) ∧ W.cell? ⟨g, 2, none⟩ = some (.int .i64 d) ∧ W.cell? ⟨g, 3, none⟩ = some (.int .i64 h) ∧ W.cell? ⟨g, 4, none⟩ = some (.int .i64 n) ∧ W.cell? ⟨g, 5, none⟩ = some (.int .i64 c) ∧ RdD w s g y m d h n c W) (exact RdD.held (by assumption)) (first | (go_at_call 41; refine (HOK.out _).mono ?_; rintro e w7 ⟨rfl, hb7⟩; have D7 := D.step hb7) | (go_at_call 17; refine (HT2.out _ ?_).mono ?_; (exact HX.out.stays D7.r.bel); rintro e w8 ⟨rfl, hb8⟩; have D8 := D7.step hb8))
        have hbel := D8.r.bel
        have z0 : w8.cell? ⟨w.heap.size + 1, 0, none⟩ = some (.int .i64 0) := (blk_cell D8.r.res 0).trans rfl
        have f0 := blk_frozen D8.r.res 0
        have z1 : w8.cell? ⟨w.heap.size + 1, 1, none⟩ = some (.int .i64 0) := (blk_cell D8.r.res 1).trans rfl
        have f1 := blk_frozen D8.r.res 1
        have z2 : w8.cell? ⟨w.heap.size + 1, 2, none⟩ = some (.int .i64 0) := (blk_cell D8.r.res 2).trans rfl
        have f2 := blk_frozen D8.r.res 2
        have z3 : w8.cell? ⟨w.heap.size + 1, 3, none⟩ = some (.int .i64 0) := (blk_cell D8.r.res 3).trans rfl
        have f3 := blk_frozen D8.r.res 3
        have z4 : w8.cell? ⟨w.heap.size + 1, 4, none⟩ = some (.int .i64 0) := (blk_cell D8.r.res 4).trans rfl
        have f4 := blk_frozen D8.r.res 4
        have z5 : w8.cell? ⟨w.heap.size + 1, 5, none⟩ = some (.int .i64 0) := (blk_cell D8.r.res 5).trans rfl
        have f5 := blk_frozen D8.r.res 5
        go_wp2
        refine bodyPost_ret (results_ct rfl _ _ (w.heap.size + 1) 34 #[.int .i64 y, .int .i64 m, .int .i64 d, .int .i64 h, .int .i64 n, .int .i64 c] (0, 0) _ rfl (by refine blk_put (cs := #[.int .i64 y, .int .i64 m, .int .i64 d, .int .i64 h, .int .i64 n, .int .i64 0]) ?_ 5 _ rfl; refine blk_put (cs := #[.int .i64 y, .int .i64 m, .int .i64 d, .int .i64 h, .int .i64 0, .int .i64 0]) ?_ 4 _ rfl; refine blk_put (cs := #[.int .i64 y, .int .i64 m, .int .i64 d, .int .i64 0, .int .i64 0, .int .i64 0]) ?_ 3 _ rfl; refine blk_put (cs := #[.int .i64 y, .int .i64 m, .int .i64 0, .int .i64 0, .int .i64 0, .int .i64 0]) ?_ 2 _ rfl; refine blk_put (cs := #[.int .i64 y, .int .i64 0, .int .i64 0, .int .i64 0, .int .i64 0, .int .i64 0]) ?_ 1 _ rfl; refine blk_put (cs := #[.int .i64 0, .int .i64 0, .int .i64 0, .int .i64 0, .int .i64 0, .int .i64 0]) ?_ 0 _ rfl; exact D8.r.res) Tryd.underlying34 rfl (by kernel_rfl)) rfl ?_
        exact ⟨by rw [hout]; rfl, below_set (below_set (below_set (below_set (below_set (below_set hbel (Nat.le_succ _)) (Nat.le_succ _)) (Nat.le_succ _)) (Nat.le_succ _)) (Nat.le_succ _)) (Nat.le_succ _)⟩
      · have hout := HBo.out (fun q => htt q.2)
        have e0 : (t.toList == s.toList) = false := beq_eq_false_iff_ne.mpr htt
        have e1 : (t.toList != s.toList) = true := bne_iff_ne.mpr htt
        clear HA HBo htt
        go_region_held3 (fun W => W.cell? ⟨w.heap.size, 0, none⟩ = some (.string s) ∧ W.cell? ⟨g, 0, none⟩ = some (.int .i64 y) ∧ W.cell? ⟨g, 1, none⟩ = some (.int .i64 m) ∧ W.cell? ⟨g, 2, none⟩ = some (.int .i64 d) ∧ W.cell? ⟨g, 3, none⟩ = some (.int .i64 h) ∧ W.cell? ⟨g, 4, none⟩ = some (.int .i64 n) ∧ W.cell? ⟨g, 5, none⟩ = some (.int .i64 c) ∧ RdD w s g y m d h n c W) (exact RdD.held (by assumption)) (first | (go_at_call 41; refine (HOK.out _).mono ?_; rintro e w7 ⟨rfl, hb7⟩; have D7 := D.step hb7) | (go_at_call 17; refine (HT2.out _ ?_).mono ?_; (exact HX.out.stays D7.r.bel); rintro e w8 ⟨rfl, hb8⟩; have D8 := D7.step hb8))
        have hbel := D8.r.bel
        have z0 : w8.cell? ⟨w.heap.size + 1, 0, none⟩ = some (.int .i64 0) := (blk_cell D8.r.res 0).trans rfl
        have f0 := blk_frozen D8.r.res 0
        have z1 : w8.cell? ⟨w.heap.size + 1, 1, none⟩ = some (.int .i64 0) := (blk_cell D8.r.res 1).trans rfl
        have f1 := blk_frozen D8.r.res 1
        have z2 : w8.cell? ⟨w.heap.size + 1, 2, none⟩ = some (.int .i64 0) := (blk_cell D8.r.res 2).trans rfl
        have f2 := blk_frozen D8.r.res 2
        have z3 : w8.cell? ⟨w.heap.size + 1, 3, none⟩ = some (.int .i64 0) := (blk_cell D8.r.res 3).trans rfl
        have f3 := blk_frozen D8.r.res 3
        have z4 : w8.cell? ⟨w.heap.size + 1, 4, none⟩ = some (.int .i64 0) := (blk_cell D8.r.res 4).trans rfl
        have f4 := blk_frozen D8.r.res 4
        have z5 : w8.cell? ⟨w.heap.size + 1, 5, none⟩ = some (.int .i64 0) := (blk_cell D8.r.res 5).trans rfl
        have f5 := blk_frozen D8.r.res 5
        go_wp2
        refine bodyPost_ret (results_ct rfl _ _ (w.heap.size + 1) 34 #[.int .i64 0, .int .i64 0, .int .i64 0, .int .i64 0, .int .i64 0, .int .i64 0] (0, 0) _ rfl (by refine blk_put (cs := #[.int .i64 0, .int .i64 0, .int .i64 0, .int .i64 0, .int .i64 0, .int .i64 0]) ?_ 5 _ rfl; refine blk_put (cs := #[.int .i64 0, .int .i64 0, .int .i64 0, .int .i64 0, .int .i64 0, .int .i64 0]) ?_ 4 _ rfl; refine blk_put (cs := #[.int .i64 0, .int .i64 0, .int .i64 0, .int .i64 0, .int .i64 0, .int .i64 0]) ?_ 3 _ rfl; refine blk_put (cs := #[.int .i64 0, .int .i64 0, .int .i64 0, .int .i64 0, .int .i64 0, .int .i64 0]) ?_ 2 _ rfl; refine blk_put (cs := #[.int .i64 0, .int .i64 0, .int .i64 0, .int .i64 0, .int .i64 0, .int .i64 0]) ?_ 1 _ rfl; refine blk_put (cs := #[.int .i64 0, .int .i64 0, .int .i64 0, .int .i64 0, .int .i64 0, .int .i64 0]) ?_ 0 _ rfl; exact D8.r.res) Tryd.underlying34 rfl (by kernel_rfl)) rfl ?_
        exact ⟨by rw [hout]; rfl, below_set (below_set (below_set (below_set (below_set (below_set hbel (Nat.le_succ _)) (Nat.le_succ _)) (Nat.le_succ _)) (Nat.le_succ _)) (Nat.le_succ _)) (Nat.le_succ _)⟩

set_option maxHeartbeats 4000000 in
set_option maxRecDepth 100000 in
theorem readDate_short (s : ByteArray) (w : World) (h29 : s.size ≠ 29) :
    Calls Tryd.prog 20 #[.string s] w fun e w' => e = .returned (.tuple #[.agg #[.int .i64 0, .int .i64 0, .int .i64 0, .int .i64 0, .int .i64 0, .int .i64 0], .bool false]) ∧ Below w.heap.size w w' := by
  have s2 : ((s.size : Int) != 29) = true := by
    rw [bne_iff_ne]
    omega
  have s3 : ¬ (s.size : Int) = 29 := by omega
  go_enter Tryd.func20, Tryd.ntmps20
  go_wp2
  refine bodyPost_ret (results_ct rfl _ _ (w.heap.size + 1) 34 #[.int .i64 0, .int .i64 0, .int .i64 0, .int .i64 0, .int .i64 0, .int .i64 0] (0, 0) _ rfl (by simpa using blk_new (w.alloc (.cells #[.string s] 9)) (.cells #[.int .i64 0, .int .i64 0, .int .i64 0, .int .i64 0, .int .i64 0, .int .i64 0] 34)) Tryd.underlying34 rfl (by kernel_rfl)) rfl ?_
  exact ⟨rfl, below_alloc (below_alloc (Below.refl _ _) _) _⟩

theorem impl_ReadDate.calls (a0 : ByteArray) (r1 : Int) (r2 : Int) (r3 : Int) (r4 : Int) (r5 : Int) (r6 : Int) (r7 : Bool) (w : World) (hX : XW 7 w) (h : impl_ReadDate.f a0 = some (r1, r2, r3, r4, r5, r6, r7)) :
    Calls Tryd.prog 20 #[.string a0] w fun e w' => e = .returned (.tuple #[.agg #[.int .i64 r1, .int .i64 r2, .int .i64 r3, .int .i64 r4, .int .i64 r5, .int .i64 r6], .bool r7]) ∧ Below w.heap.size w w' := by
  unfold impl_ReadDate.f at h
  by_cases h29 : a0.size = 29
  · rw [if_pos h29] at h
    obtain ⟨d, hd, h⟩ := Option.bind_eq_some_iff.mp h
    obtain ⟨y, hy, h⟩ := Option.bind_eq_some_iff.mp h
    obtain ⟨hh, hhh, h⟩ := Option.bind_eq_some_iff.mp h
    obtain ⟨n, hn, h⟩ := Option.bind_eq_some_iff.mp h
    obtain ⟨c, hc, h⟩ := Option.bind_eq_some_iff.mp h
    obtain ⟨ok, hok, h⟩ := Option.bind_eq_some_iff.mp h
    cases ok with
    | false =>
      rw [if_neg (by decide)] at h
      simp only [Option.some.injEq, Prod.mk.injEq] at h
      obtain ⟨rfl, rfl, rfl, rfl, rfl, rfl, rfl⟩ := h
      exact readDate_walk a0 w hX h29 y d hh n c hd hy hhh hn hc false hok ⟨#[]⟩ (fun q => Bool.noConfusion q) _ (fun q => Bool.noConfusion q) (fun _ => rfl)
    | true =>
      rw [if_pos rfl] at h
      obtain ⟨t, ht, h⟩ := Option.bind_eq_some_iff.mp h
      by_cases htt : t.toList = a0.toList
      · rw [if_pos htt] at h
        simp only [Option.some.injEq, Prod.mk.injEq] at h
        obtain ⟨rfl, rfl, rfl, rfl, rfl, rfl, rfl⟩ := h
        exact readDate_walk a0 w hX h29 y d hh n c hd hy hhh hn hc true hok t (fun _ => ht) _ (fun _ _ => rfl) (fun q => absurd ⟨rfl, htt⟩ q)
      · rw [if_neg htt] at h
        simp only [Option.some.injEq, Prod.mk.injEq] at h
        obtain ⟨rfl, rfl, rfl, rfl, rfl, rfl, rfl⟩ := h
        exact readDate_walk a0 w hX h29 y d hh n c hd hy hhh hn hc true hok t (fun _ => ht) _ (fun _ q => absurd q htt) (fun _ => rfl)
  · rw [if_neg h29] at h
    simp only [Option.some.injEq, Prod.mk.injEq] at h
    obtain ⟨rfl, rfl, rfl, rfl, rfl, rfl, rfl⟩ := h
    exact readDate_short a0 w h29
end Go.Proofs.YtkaknffeoeoajaaDoor.P
namespace Go.Proofs.YtkaknffeoeoajaaDoor.P
open Go.RowKit Go.Proofs.YtkaknffeoeoajaaDoorW.PrintWords Go.Proofs.YtkaknffeoeoajaaDoorW.PrintLast Go.Proofs.YtkaknffeoeoajaaDoorW.PrintMore
attribute [local go_sem] max2_int min2_int max_two min_two max_three min_three max_four min_four   -- for this text's walks alone
set_option linter.unusedVariables false
set_option linter.unusedSimpArgs false

theorem eqA34 (d : Nat) (w : World) (x0 y0 : Int) (x1 y1 : Int) (x2 y2 : Int) (x3 y3 : Int) (x4 y4 : Int) (x5 y5 : Int) :
    (Op.equalIn (d + 2) 34 (.agg #[.int .i64 x0, .int .i64 x1, .int .i64 x2, .int .i64 x3, .int .i64 x4, .int .i64 x5]) (.agg #[.int .i64 y0, .int .i64 y1, .int .i64 y2, .int .i64 y3, .int .i64 y4, .int .i64 y5])).run Tryd.prog w = .ok (x0 == y0 && (x1 == y1 && (x2 == y2 && (x3 == y3 && (x4 == y4 && (x5 == y5)))))) w := by
  refine eqA_of Tryd.underlying34 (by kernel_rfl) ?_
  refine eqf_cons (by rfl) (by go_simp; rfl) (by go_simp; rfl) (by go_simp) ?_
  refine eqf_cons (by rfl) (by go_simp; rfl) (by go_simp; rfl) (by go_simp) ?_
  refine eqf_cons (by rfl) (by go_simp; rfl) (by go_simp; rfl) (by go_simp) ?_
  refine eqf_cons (by rfl) (by go_simp; rfl) (by go_simp; rfl) (by go_simp) ?_
  refine eqf_cons (by rfl) (by go_simp; rfl) (by go_simp; rfl) (by go_simp) ?_
  exact eqf_last (by rfl) (by go_simp; rfl) (by go_simp; rfl) (by go_simp)
/-! ### laws_big: function 5 -/
def laws_big.f (l0 : List Int) : Option (Bool) := some (decide ((l0.length : Int) > 4096))
set_option maxHeartbeats 8000000 in
set_option maxRecDepth 100000 in
theorem laws_big.calls (A0 : Option Addr) (c0 : Nat) (l0 : List Int) (r : Bool) (w : World) (hr0 : Kd.C (Kd.int .u8) w A0 l0.length l0) (hc0 : l0.length ≤ c0) (h : laws_big.f l0 = some r) :
  Calls Tryd.prog 5 #[.slice A0 l0.length c0] w fun e w' => e = .returned (.bool r) ∧ Drawn0 w w' := by
 have HR0 := Aside0.mk hr0
 have HC0 := Aside0.mk hc0
 clear hr0 hc0
 have H : (some (decide ((l0.length : Int) > 4096))) = some r := h
 clear h
 obtain rfl := Option.some.inj H
 go_enter Tryd.func5, Tryd.ntmps5
 go_wp2
 go_ret
 exact ⟨by first | rfl | (simp; done) | (simp [*]; done), by repeat (first | exact Drawn0.refl _ | apply Drawn0.step)⟩
end Go.Proofs.YtkaknffeoeoajaaDoor.P
namespace Go.Proofs.YtkaknffeoeoajaaDoor.P
set_option linter.unusedVariables false
set_option linter.unusedSimpArgs false
open Go.RowKit Go.Lib Go.Proofs.YtkaknffeoeoajaaDoorW.PrintWords Go.Proofs.YtkaknffeoeoajaaDoorW.PrintLast Go.Proofs.YtkaknffeoeoajaaDoorW.PrintMore
attribute [local go_sem] max2_int min2_int max_two min_two max_three min_three max_four min_four

/-- A row of bytes that the call may read, write and cut: one that it made, or a conversion's, which is stamped behind its end. -/
def BRow (b0 : Nat) (W : World) (v : Value) (xs : List Int) : Prop :=
  xs.length ≤ 140737488355328 ∧ ∃ A cap, v = .slice A xs.length cap ∧ xs.length ≤ cap ∧
    (0 < xs.length → ∃ B cur fz, A = some ⟨B, 0, none⟩ ∧ b0 ≤ B ∧ W.heap[B]? = some (.cells cur 5 fz) ∧ (fz = (0, 0) ∨ cur.size ≤ fz.1) ∧ ∀ (i : Nat) (x : Int), xs[i]? = some x → cur[i]? = some (.int .u8 x))
section
variable {b0 : Nat} {W W' : World} {v : Value} {xs : List Int}
theorem BRow.le (h : BRow b0 W v xs) : xs.length ≤ 140737488355328 := h.1
theorem BRow.slice (h : BRow b0 W v xs) : ∃ A c, v = .slice A xs.length c ∧ xs.length ≤ c := by
  obtain ⟨_, A, c, e, hc, _⟩ := h
  exact ⟨A, c, e, hc⟩
theorem BRow.move (h : BRow b0 W v xs) (hm : ∀ k cur fz, v.ownBlock = some k → b0 ≤ k → W.heap[k]? = some (.cells cur 5 fz) → W'.heap[k]? = W.heap[k]?) : BRow b0 W' v xs := by
  obtain ⟨hl, A, cap, rfl, hc, hr⟩ := h
  refine ⟨hl, A, cap, rfl, hc, fun hn => ?_⟩
  obtain ⟨B, cur, fz, rfl, hB, hh, hf, hx⟩ := hr hn
  exact ⟨B, cur, fz, rfl, hB, (hm B cur fz (by simp [Value.ownBlock]) hB hh).trans hh, hf, hx⟩
theorem BRow.below (h : BRow b0 W v xs) (hb : Below W.heap.size W W') : BRow b0 W' v xs := h.move fun k cur fz _ _ hh => hb.block k (blk_lt hh)
theorem BRow.grown {row : Option Nat} (h : BRow b0 W v xs) (hg : W.grownBy W' row) (hne : ∀ k, v.ownBlock = some k → some k ≠ row) : BRow b0 W' v xs := h.move fun k cur fz hk _ hh => hg.block k (blk_lt hh) (hne k hk)
theorem BRow.keep {w0 : World} {g : Nat} {f0 : List Int} {f1 f2 : Int} (h : BRow b0 W v xs) (hI : IsS79 w0 W g f0 f1 f2) (hk : KeepBut W W' g none) : BRow b0 W' v xs :=
  h.move fun k cur fz _ _ hh => hk.2 k (blk_lt hh) (fun e => IsS79.ne_blk hI hh (by decide) e.symm) (by simp)
theorem BRow.of_R {ok : Nat → Prop} (h : (Kd.int .u8).R 5 W b0 ok v xs) (hl : xs.length ≤ 140737488355328) : BRow b0 W v xs := by
  have ho := Kd.own_of_R h
  rcases ho.2 with ⟨rfl, hn⟩ | ⟨B, cap, cur, rfl, hB, hh, hc, _, hs, ht⟩
  · refine ⟨hl, none, 0, by rw [hn], by omega, fun h0 => absurd hn (by omega)⟩
  · refine ⟨hl, _, cap, rfl, hc, fun _ => ⟨B, cur, (0, 0), rfl, hB, hh, .inl rfl, fun i x hx => ?_⟩⟩
    have hi := (List.getElem?_eq_some_iff.1 hx).1
    have h1 : (encs (Value.int .u8) xs)[i]? = some (.int .u8 x) := by simp [encs, hx]
    rw [← ht, List.getElem?_take_of_lt (by omega), Array.getElem?_toList] at h1
    exact h1
theorem BRow.cell {A : Option Addr} {n c : Nat} (h : BRow b0 W (.slice A n c) xs) (i : Int) (h0 : 0 ≤ i) (hi : i < n) :
    ∃ B, A = some ⟨B, 0, none⟩ ∧ b0 ≤ B ∧ B < W.heap.size ∧ W.cell? ⟨B, i.toNat, none⟩ = some (.int .u8 (rdOf 0 xs i)) ∧ W.frozen? ⟨B, i.toNat, none⟩ = false ∧ ∃ cur fz, W.heap[B]? = some (.cells cur 5 fz) := by
  obtain ⟨hl, A2, cap, e, hc, hr⟩ := h
  injection e with e1 e2 e3
  subst e1 e2 e3
  obtain ⟨B, cur, fz, rfl, hB, hh, hf, hx⟩ := hr (by omega)
  have hlt : i.toNat < xs.length := by omega
  have hcu := hx i.toNat _ (List.getElem?_eq_getElem hlt)
  have hrd : rdOf 0 xs i = xs[i.toNat] := by simp [rdOf, List.getD_eq_getElem?_getD, hlt]
  have hsz : i.toNat < cur.size := (Array.getElem?_eq_some_iff.1 hcu).1
  refine ⟨B, rfl, hB, blk_lt hh, by rw [cell_of_row W B i.toNat cur _ fz hh, hrd]; exact hcu, ?_, cur, fz, hh⟩
  obtain ⟨lo, hi2⟩ := fz
  simp only [World.frozen?, hh, Bool.and_eq_false_iff, decide_eq_false_iff_not]
  rcases hf with hf | hf
  · right
    have : hi2 = 0 := by injection hf
    omega
  · left
    simp only at hf
    omega
theorem BRow.set {B n c : Nat} (h : BRow b0 W (.slice (some ⟨B, 0, none⟩) n c) xs) (i : Int) (x : Int) : BRow b0 (W.setCell ⟨B, i.toNat, none⟩ (.int .u8 x)) (.slice (some ⟨B, 0, none⟩) n c) (xs.set i.toNat x) := by
  obtain ⟨hl, A2, cap, e, hc, hr⟩ := h
  injection e with e1 e2 e3
  subst e1 e2 e3
  refine ⟨by rw [List.length_set]; exact hl, _, _, by rw [List.length_set], by rw [List.length_set]; exact hc, fun hn => ?_⟩
  rw [List.length_set] at hn
  obtain ⟨B2, cur, fz, e, hB, hh, hf, hx⟩ := hr hn
  have : B = B2 := by injection e with e; injection e
  subst this
  refine ⟨B, cur.setIfInBounds i.toNat (.int .u8 x), fz, rfl, hB, _root_.Go.Lib.heap_setCell_same hh _, by rw [Array.size_setIfInBounds]; exact hf, fun j y hy => ?_⟩
  rw [List.getElem?_set] at hy
  by_cases hj : i.toNat = j
  · rw [if_pos hj] at hy
    subst hj
    by_cases hlt : i.toNat < xs.length
    · rw [if_pos hlt] at hy
      obtain rfl := Option.some.inj hy
      have hcu := hx i.toNat _ (List.getElem?_eq_getElem hlt)
      have hsz : i.toNat < cur.size := (Array.getElem?_eq_some_iff.1 hcu).1
      rw [Array.getElem?_setIfInBounds_self_of_lt hsz]
    · rw [if_neg hlt] at hy
      cases hy
  · rw [if_neg hj] at hy
    rw [Array.getElem?_setIfInBounds_ne hj]
    exact hx j y hy
theorem BRow.take {A : Option Addr} {n c m : Nat} (h : BRow b0 W (.slice A n c) xs) (hm : m ≤ n) : BRow b0 W (.slice A m c) (xs.take m) := by
  obtain ⟨hl, A2, cap, e, hc, hr⟩ := h
  injection e with e1 e2 e3
  subst e1 e2 e3
  have hlt : (xs.take m).length = m := by rw [List.length_take]; omega
  refine ⟨by omega, _, _, by rw [hlt], by omega, fun hn => ?_⟩
  obtain ⟨B, cur, fz, rfl, hB, hh, hf, hx⟩ := hr (by omega)
  refine ⟨B, cur, fz, rfl, hB, hh, hf, fun i x hi => hx i x ?_⟩
  have hlt2 := (List.getElem?_eq_some_iff.1 hi).1
  rw [List.getElem?_take_of_lt (by omega)] at hi
  exact hi
theorem BRow.reads {A : Option Addr} {n c : Nat} (h : BRow b0 W (.slice A n c) xs) : n = xs.length ∧ n ≤ c ∧ Kd.C (Kd.int .u8) W A xs.length xs := by
  have h2 := h
  obtain ⟨hl, A2, cap, e, hc, hr⟩ := h2
  injection e with e1 e2 e3
  subst e1 e2 e3
  refine ⟨rfl, hc, Kd.C_of_reads (enc := Value.int .u8) (d := (0 : Int)) (h1 := fun _ => rfl) ⟨rfl, by omega, fun hn => ?_⟩⟩
  obtain ⟨B, cur, fz, rfl, hB, hh, hf, hx⟩ := hr hn
  refine ⟨_, rfl, fun j hj => ?_⟩
  have ha : (⟨B, 0, none⟩ : Addr).add j = ⟨B, j, none⟩ := by unfold Addr.add; split <;> simp_all
  rw [ha, cell_of_row W B j cur _ fz hh, hx j _ (List.getElem?_eq_getElem hj)]
  simp [List.getD_eq_getElem?_getD, hj]
end
theorem BRow.conv (b0 : Nat) (W : World) (s : ByteArray) (hb : b0 ≤ W.heap.size) (hs : s.size ≤ 140737488355328) : BRow b0 (Lib.bytesWorld W 5 s) (.slice (some ⟨W.heap.size, 0, none⟩) s.size (grownCap W s.size 0 5)) (bytesOf s) := by
  have hl := bytesOf_length s
  refine ⟨by omega, _, _, by rw [hl], by rw [hl]; exact grownCap_ge _ _ _ _, fun hn => ⟨W.heap.size, Lib.bytesCells W 5 s, _, rfl, hb, Lib.bytesWorld_at_new W _ s, .inr (Nat.le_refl _), fun i x hx => ?_⟩⟩
  have hi := (List.getElem?_eq_some_iff.1 hx).1
  have hi2 : i < s.size := by omega
  unfold bytesOf at hx
  unfold Lib.bytesCells
  rw [Array.getElem?_append_left (by simpa using hi2)]
  simp only [List.getElem?_map, Option.map_eq_some_iff] at hx
  obtain ⟨y, hy, rfl⟩ := hx
  simp only [Array.getElem?_toList] at hy
  simp [hy]
end Go.Proofs.YtkaknffeoeoajaaDoor.P
namespace Go.Proofs.YtkaknffeoeoajaaDoor.P
set_option linter.unusedVariables false
set_option linter.unusedSimpArgs false
open Go.RowKit Go.Lib Go.Proofs.YtkaknffeoeoajaaDoorW.PrintWords Go.Proofs.YtkaknffeoeoajaaDoorW.PrintLast Go.Proofs.YtkaknffeoeoajaaDoorW.PrintMore
attribute [local go_sem] max2_int min2_int max_two min_two max_three min_three max_four min_four

def bendL (s : ByteArray) (b : List Int) : Nat → List Int → Int → Int → Int → Option (ByteArray × Int × Int)
  | 0, _, _, _, _ => none
  | k + 1, x, n, i, h =>
    if n > 0 ∧ 0 < x.length then
      (spec_l1Below.f b i h (x.length : Int)).bind fun r1 => (spec_l1Below.f b r1.2.1 r1.2.2 4).bind fun r2 =>
        if 0 ≤ r1.1 ∧ r1.1 < (x.length : Int) ∧ x.length < 1000000000 then
          if r2.1 = 0 then (spec_l1Below.f b r2.2.1 r2.2.2 (s.size : Int)).bind fun r3 => if 0 ≤ r3.1 ∧ r3.1 < (s.size : Int) then bendL s b k (x.set r1.1.toNat (bt s r3.1)) (wrap64 (n - 1)) r3.2.1 r3.2.2 else none
          else if r2.1 = 1 then bendL s b k (x.take r1.1.toNat) (wrap64 (n - 1)) r2.2.1 r2.2.2
          else if r2.1 = 2 then bendL s b k (x.take r1.1.toNat ++ x.drop (r1.1 + 1).toNat) (wrap64 (n - 1)) r2.2.1 r2.2.2
          else if r2.1 = 3 then (spec_l1Below.f b r2.2.1 r2.2.2 (s.size : Int)).bind fun r3 => if 0 ≤ r3.1 ∧ r3.1 < (s.size : Int) then bendL s b k (x.take r1.1.toNat ++ [bt s r3.1] ++ x.drop r1.1.toNat) (wrap64 (n - 1)) r3.2.1 r3.2.2 else none
          else bendL s b k x (wrap64 (n - 1)) r2.2.1 r2.2.2
        else none
    else some (strOfNums x, i, h)
theorem bendL_mono (s : ByteArray) (b : List Int) : ∀ (k : Nat) (x : List Int) (n i h : Int), LeO (bendL s b k x n i h) (bendL s b (k + 1) x n i h) := by
  intro k
  induction k with
  | zero => intro x n i h; exact LeO.none _
  | succ k ih =>
    intro x n i h
    rw [bendL, bendL]
    refine LeO.ite (LeO.bind (LeO.refl _) fun r1 => LeO.bind (LeO.refl _) fun r2 => LeO.ite ?_ (LeO.none _)) (LeO.refl _)
    refine LeO.ite (LeO.bind (LeO.refl _) fun r3 => LeO.ite (ih _ _ _ _) (LeO.none _)) (LeO.ite (ih _ _ _ _) (LeO.ite (ih _ _ _ _) (LeO.ite (LeO.bind (LeO.refl _) fun r3 => LeO.ite (ih _ _ _ _) (LeO.none _)) (ih _ _ _ _))))
def spec_l1Bend.f (k : Nat) (s0_0 : List Int) (s0_1 : Int) (s0_2 : Int) (a1 : ByteArray) (a2 : ByteArray) : Option (ByteArray × Int × Int) :=
  if a1.size < 1000000000 then (spec_l1Below.f s0_0 s0_1 s0_2 3).bind fun r => bendL a2 s0_0 k (bytesOf a1) r.1 r.2.1 r.2.2 else none
theorem spec_l1Bend.mono : ∀ a0 a1 a2 a3 a4 k, LeO (spec_l1Bend.f k a0 a1 a2 a3 a4) (spec_l1Bend.f (k + 1) a0 a1 a2 a3 a4) := by
  intro a0 a1 a2 a3 a4 k
  unfold spec_l1Bend.f
  exact LeO.ite (LeO.bind (LeO.refl _) fun r => bendL_mono _ _ _ _ _ _ _) (LeO.none _)

/-- What stands at a round: the cursor, the world of the caller, the row. -/
def BendAt (w0 w : World) (g : Nat) (b : List Int) (i h : Int) (v : Value) (x : List Int) (W : World) : Prop :=
  IsS79 w0 W g b i h ∧ KeepBut w W g none ∧ Below w0.heap.size w0 W ∧ BRow w.heap.size W v x
section
variable {w0 w W W' : World} {g : Nat} {b x : List Int} {i h : Int} {v : Value}
theorem BendAt.below (q : BendAt w0 w g b i h v x W) (hb : Below W.heap.size W W') (hL : w0.heap.size ≤ w.heap.size) : BendAt w0 w g b i h v x W' :=
  ⟨IsS79.below q.1 hb, KeepBut.trans q.2.1 (KeepBut.of_below hb g none) (.inl rfl), below_weaken q.2.2.1 (Nat.le_trans hL q.2.1.1) hb, q.2.2.2.below hb⟩
theorem bend_below (q : BendAt w0 w g b i h v x W) (n t i2 h2 : Int) (A : spec_l1Below.f b i h n = some (t, i2, h2)) :
    Calls Tryd.prog 64 #[.pointer (some ⟨g, 0, none⟩), .int .i64 n] W fun e W' => e = .returned (.int .i64 t) ∧ BendAt w0 w g b i2 h2 v x W' ∧ KeepBut W W' g none :=
  (spec_l1Below.calls g b i h n t i2 h2 w0 W q.1 q.2.2.1 A).mono fun e W' ⟨he, hi, hb, hk⟩ => ⟨he, ⟨hi, KeepBut.trans q.2.1 hk (.inl rfl), hb, q.2.2.2.keep q.1 hk⟩, hk⟩
theorem BendAt.store {B n c : Nat} (q : BendAt w0 w g b i h (.slice (some ⟨B, 0, none⟩) n c) x W) (hL : w0.heap.size ≤ w.heap.size) (hB : w.heap.size ≤ B) (hcur : ∃ cur fz, W.heap[B]? = some (.cells cur 5 fz)) (j : Int) (y : Int) :
    BendAt w0 w g b i h (.slice (some ⟨B, 0, none⟩) n c) (x.set j.toNat y) (W.setCell ⟨B, j.toNat, none⟩ (.int .u8 y)) := by
  obtain ⟨cur, fz, hh⟩ := hcur
  refine ⟨IsS79.far q.1 (IsS79.ne_blk q.1 hh (by decide)) _, ⟨by simpa [World.setCell] using q.2.1.1, fun k hk hg hr => ?_⟩, below_set q.2.2.1 (Nat.le_trans hL hB), q.2.2.2.set j y⟩
  exact (Below.heap_setCell W ⟨B, j.toNat, none⟩ _ k (by show k ≠ B; omega)).trans (q.2.1.2 k hk hg hr)
theorem BendAt.cell {B n c : Nat} (q : BendAt w0 w g b i h (.slice (some ⟨B, 0, none⟩) n c) x W) (j : Int) (h0 : 0 ≤ j) (h1 : j < n) :
    w.heap.size ≤ B ∧ W.cell? ⟨B, j.toNat, none⟩ = some (.int .u8 (rdOf 0 x j)) ∧ W.frozen? ⟨B, j.toNat, none⟩ = false ∧ ∃ cur fz, W.heap[B]? = some (.cells cur 5 fz) := by
  obtain ⟨B2, e, hB, _, hc, hf, hcur⟩ := q.2.2.2.cell j h0 h1
  have : B = B2 := by injection e with e; injection e
  subst this
  exact ⟨hB, hc, hf, hcur⟩
theorem BendAt.take {A : Option Addr} {n c m : Nat} (q : BendAt w0 w g b i h (.slice A n c) x W) (hm : m ≤ n) : BendAt w0 w g b i h (.slice A m c) (x.take m) W := ⟨q.1, q.2.1, q.2.2.1, q.2.2.2.take hm⟩
theorem BendAt.alloc (q : BendAt w0 w g b i h v x W) (hL : w0.heap.size ≤ w.heap.size) (o : Obj) : BendAt w0 w g b i h v x (W.alloc o) := q.below (below_alloc (Below.refl _ _) o) hL
theorem BendAt.drew (q : BendAt w0 w g b i h v x W) (hL : w0.heap.size ≤ w.heap.size) : BendAt w0 w g b i h v x W.drew := q.below (below_drew (Below.refl _ _)) hL
theorem BendAt.grown {row : Option Nat} (q : BendAt w0 w g b i h v x W) (hL : w0.heap.size ≤ w.heap.size) (hg : W.grownBy W' row) (hne : ∀ k, row = some k → w.heap.size ≤ k ∧ k ≠ g ∧ v.ownBlock ≠ some k) (hb : Below w.heap.size W W') : BendAt w0 w g b i h v x W' :=
  ⟨IsS79.grown q.1 hg (fun e => (hne g e.symm).2.1 rfl), KeepBut.trans q.2.1 (KeepBut.of_grown hg g) (by
    cases hr : row with
    | none => exact .inl rfl
    | some k => exact .inr ⟨k, rfl, (hne k hr).1⟩), below_weaken q.2.2.1 hL hb, q.2.2.2.grown hg (fun k hk e => (hne k e.symm).2.2 hk)⟩
theorem BendAt.fresh {v1 : Value} {ys : List Int} {ok : Nat → Prop} (q : BendAt w0 w g b i h v x W) (hO : Kd.R (Kd.int .u8) 5 W w.heap.size ok v1 ys) (hl : ys.length ≤ 140737488355328) : BendAt w0 w g b i h v1 ys W := ⟨q.1, q.2.1, q.2.2.1, BRow.of_R hO hl⟩
theorem BendAt.lt {B n c : Nat} (q : BendAt w0 w g b i h (.slice (some ⟨B, 0, none⟩) n c) x W) (hn : 0 < n) : B < W.heap.size := by
  obtain ⟨B2, e, _, hlt, _⟩ := q.2.2.2.cell 0 (Int.le_refl 0) (by omega)
  have : B = B2 := by injection e with e; injection e
  omega
theorem BendAt.readC {A : Option Addr} {n c m : Nat} (q : BendAt w0 w g b i h (.slice A n c) x W) (hm : m ≤ n) : Kd.C (Kd.int .u8) W A m (x.take m) := by
  obtain ⟨e, _, hc⟩ := BRow.reads (q.take hm).2.2.2
  rw [← e] at hc
  exact hc
theorem BendAt.readD {A : Option Addr} {n c m : Nat} (q : BendAt w0 w g b i h (.slice A n c) x W) (hm : m ≤ n) : Kd.C (Kd.int .u8) W (if c = m then A else A.map (·.add (m * 1))) (n - m) (x.drop m) := by
  obtain ⟨e, e2, hc⟩ := BRow.reads q.2.2.2
  have := Kd.C_drop (c := c) (m := m) hc (by omega) (by omega)
  rw [List.length_drop, ← e] at this
  exact this
theorem BendAt.readB {B n c m : Nat} (q : BendAt w0 w g b i h (.slice (some ⟨B, 0, none⟩) n c) x W) (hm : m ≤ n) : Kd.C (Kd.int .u8) W (if c = m then some ⟨B, 0, none⟩ else some ⟨B, m, none⟩) (n - m) (x.drop m) := by
  have := q.readD hm
  have e : (⟨B, 0, none⟩ : Addr).add (m * 1) = ⟨B, m, none⟩ := by
    unfold Addr.add
    split <;> simp_all
  rw [Option.map_some, e] at this
  exact this
theorem lit_C (W : World) (y : Int) : Kd.C (Kd.int .u8) (W.alloc (.cells #[.int .u8 y] 5)) (some ⟨W.heap.size, 0, none⟩) 1 [y] :=
  Kd.C_of_reads (enc := Value.int .u8) (d := (0 : Int)) (h1 := fun _ => rfl) ⟨rfl, by decide, fun _ => ⟨_, rfl, fun j hj => by
    have : j = 0 := by omega
    subst this
    exact (blk_cell (blk_new W _) 0).trans rfl⟩⟩
/-- An empty row of the call's own. -/
theorem R_empty {base D : Nat} {ok : Nat → Prop} (hh : W.heap[D]? = some (.cells #[] 5 (0, 0))) (hb : base ≤ D) (ho : ok D) : Kd.R (Kd.int .u8) 5 W base ok (.slice (some ⟨D, 0, none⟩) 0 0) [] :=
  ⟨fun k hk => by
    have : D = k := by simpa [Value.ownBlock] using hk
    subst this
    exact ho, [], ⟨rfl, .inr ⟨D, 0, #[], rfl, hb, hh, Nat.le_refl _, Nat.zero_le _, rfl, rfl⟩⟩, Reps.none _ _⟩
end
section
variable {ops : Array Oper} {o : Oper} {a : Act} {Q : Exit → Act → World → Prop} {Kc : Act → World → Prop} {w0 w W : World} {g : Nat} {b x : List Int} {i h : Int} {bv : Value}
/-- Bytes put behind a row of the call's own, in a region that draws its order. -/
theorem bend_append {P : Program} (ht : P.underlying 22 = some (.slice 5)) (hi : (P.info? 5).map (fun i => (i.zero, i.size, i.bytes)) = some (some (.int .u8 0), 1, 1)) (hw : Region.wanted o (yielded ops a.tmps) = true) (s y : Operand)
    (ho : o.op = .call { callee := .builtin .append, args := #[s, y], argTypes := #[22, 22] }) (v : Value) (ys zs : List Int) (A : Option Addr) (m c : Nat) (ok : Nat → Prop) (hs : a.eval s = v) (hy : a.eval y = .slice A m c)
    (q : BendAt w0 w g b i h bv x W) (hL : w0.heap.size ≤ w.heap.size) (hO : Kd.R (Kd.int .u8) 5 W w.heap.size ok v ys) (hok : ∀ k, ok k → bv.ownBlock ≠ some k) (hfresh : ∀ k, W.heap.size ≤ k → ok k) (hR : Kd.C (Kd.int .u8) W A m zs) (hl : ys.length + m ≤ 140737488355328)
    (hK : ∀ v1 W1, Kd.R (Kd.int .u8) 5 W1 w.heap.size ok v1 (ys ++ zs) → BendAt w0 w g b i h bv x W1 → W.grownBy W1 v.ownBlock → Kc (a.put o.dst v1) W1) :
    if Region.wanted o (yielded ops a.tmps) = true then Oper.wp P o a W Kc Q else Kc (a.put o.dst undef) W := by
  refine Kd.R_append_rows_step (Kd.int .u8) (w0 := W) w.heap.size hw s y 22 5 (.int .u8 0) 1 ho ht hi rfl (by decide) (by omega) v ys zs A m c ok (fun _ => False) hs hy hO hR (fun _ _ h => h) (fun _ h => h.elim) hfresh (Below.refl _ _) q.2.1.1 (by omega) ?_
  intro v1 W1 hr hb hg _
  refine hK v1 W1 hr (q.grown hL hg (fun k hk => ⟨Kd.R_base hO k hk, fun e => IsS79.own_ne q.1 hO (by decide) (by rw [hk, e]), hok k (hO.1 k hk)⟩) hb) hg
end
set_option maxHeartbeats 8000000 in
set_option maxRecDepth 100000 in
theorem spec_l1Bend.calls (k : Nat) (g : Nat) (s0_0 : List Int) (s0_1 : Int) (s0_2 : Int) (a1 : ByteArray) (a2 : ByteArray) (r1 : ByteArray) (r2 : Int) (r3 : Int) (w0 w : World) (hI : IsS79 w0 w g s0_0 s0_1 s0_2) (hB : Below w0.heap.size w0 w) (h : spec_l1Bend.f k s0_0 s0_1 s0_2 a1 a2 = some (r1, r2, r3)) :
    Calls Tryd.prog 37 #[.pointer (some ⟨g, 0, none⟩), .string a1, .string a2] w fun e w' => e = .returned (.string r1) ∧ IsS79 w0 w' g s0_0 r2 r3 ∧ Below w0.heap.size w0 w' ∧ KeepBut w w' g none := by
  unfold spec_l1Bend.f at h
  by_cases hs : a1.size < 1000000000
  · rw [if_pos hs] at h
    obtain ⟨⟨n0, i0, h0⟩, hn0, h⟩ := Option.bind_eq_some_iff.mp h
    have HA := Aside0.mk (show bendL a2 s0_0 k (bytesOf a1) n0 i0 h0 = some (r1, r2, r3) from h)
    have A0 := Aside0.mk hn0
    have HL := Aside0.mk hB.size
    have hbw : Below w.heap.size w (Lib.bytesWorld w 5 a1) := ⟨by simp [Lib.bytesWorld, World.freeze]; rfl, by simp [Lib.bytesWorld, World.freeze], by simp [Lib.bytesWorld, World.freeze]; rfl, by rw [Lib.bytesWorld_size]; omega, fun j hj => Lib.bytesWorld_at_old w _ a1 j hj⟩
    have Q0 := Aside0.mk (show BendAt w0 w g s0_0 s0_1 s0_2 (.slice (some ⟨w.heap.size, 0, none⟩) a1.size (grownCap w a1.size 0 5)) (bytesOf a1) (Lib.bytesWorld w 5 a1) from
      ⟨IsS79.below hI hbw, KeepBut.of_below hbw g none, below_weaken hB hB.size hbw, BRow.conv w.heap.size w a1 (Nat.le_refl _) (by omega)⟩)
    have hcv1 := Lib.run_convert_string_bytes (P := Tryd.prog) w 9 22 5 a1 Tryd.underlying9 Tryd.underlying22 Tryd.underlying5
    clear h hn0 hI hB hs hbw
    go_enter Tryd.func37, Tryd.ntmps37
    go_wp2_with (go_at_call 64; with_reducible refine (bend_below Q0.out 3 n0 i0 h0 A0.out).mono ?_; rintro e w1 ⟨rfl, q1, _⟩; have Q1 := Aside0.mk q1; clear q1)
    clear hcv1
    generalize grownCap w a1.size 0 5 = c0 at *
    go_loopg [7, 8, 9] k (fun kq v7 v8 v9 W => ∃ (x : List Int) (n i h : Int), v8 = .int .i64 n ∧ Aside0 (bendL a2 s0_0 kq x n i h = some (r1, r2, r3)) ∧ Aside0 (kq ≤ k) ∧ Aside0 (BendAt w0 w g s0_0 i h v7 x W))
    case atStart => exact ⟨bytesOf a1, n0, i0, h0, rfl, HA, ⟨Nat.le_refl _⟩, Q1⟩
    case round =>
      clear HA A0 Q0 Q1
      obtain ⟨x, n, i, h, rfl, HA, HK, HQ⟩ := hrel
      cases gk with
      | zero => exact absurd HA.out (by simp [bendL])
      | succ k1 =>
        have H := HA.out
        clear HA
        rw [bendL] at H
        obtain ⟨A7, c7, rfl, hc7⟩ := BRow.slice HQ.out.2.2.2
        by_cases cn : n > 0 ∧ 0 < x.length
        · rw [if_pos cn] at H
          obtain ⟨cn1, cn2⟩ := cn
          obtain ⟨⟨t1, i1, h1⟩, e1, H⟩ := Option.bind_eq_some_iff.mp H
          obtain ⟨⟨t2, i2, h2⟩, e2, H⟩ := Option.bind_eq_some_iff.mp H
          dsimp only at H e1 e2
          by_cases ct : 0 ≤ t1 ∧ t1 < (x.length : Int) ∧ x.length < 1000000000
          · rw [if_pos ct] at H
            obtain ⟨ct1, ct2, ct3⟩ := ct
            have E1 := Aside0.mk e1
            have E2 := Aside0.mk e2
            have CT3 := Aside0.mk ct3
            have cn1b : decide (0 < n) = true := decide_eq_true cn1
            have cn2b : (0 < x.length) = True := eq_true cn2
            clear e1 e2 cn1 cn2 ct3
            by_cases z0 : t2 = 0
            · rw [if_pos z0] at H
              subst z0
              obtain ⟨⟨t3, i3, h3⟩, e3, H⟩ := Option.bind_eq_some_iff.mp H
              dsimp only at H e3
              by_cases cu : 0 ≤ t3 ∧ t3 < (a2.size : Int)
              · rw [if_pos cu] at H
                have E3 := Aside0.mk e3
                have HA := Aside0.mk H
                clear H e3
                obtain ⟨B, eB, hB, _⟩ := BRow.cell HQ.out.2.2.2 t1 ct1 ct2
                subst eB
                have HB := Aside0.mk hB
                clear hB
                have p3 := eq_true cu.1
                have q3 := eq_true cu.2
                have hx3 := bt_at a2 t3
                clear cu
                go_wp2_with (first
                  | (go_at_call 64; with_reducible refine (bend_below HQ.out (x.length : Int) t1 i1 h1 E1.out).mono ?_; rintro e w5 ⟨rfl, q_, _⟩; have Q1 := Aside0.mk q_; clear q_)
                  | (go_at_call 64; with_reducible refine (bend_below Q1.out 4 0 i2 h2 E2.out).mono ?_; rintro e w6 ⟨rfl, q_, _⟩; have Q2 := Aside0.mk q_; clear q_)
                  | (go_at_call 64; with_reducible refine (bend_below Q2.out (a2.size : Int) t3 i3 h3 E3.out).mono ?_; rintro e w7 ⟨rfl, q_, _⟩; have Q3 := Aside0.mk q_; clear q_; obtain ⟨_, hc7, hf7, _⟩ := BendAt.cell Q3.out t1 ct1 ct2))
                go_roundg k1
                case measure => omega
                case rel => exact ⟨x.set t1.toNat (bt a2 t3), wrap64 (n - 1), i3, h3, by first | rfl | simp, HA, ⟨by have := HK.out; omega⟩, ⟨BendAt.store Q3.out HL.out HB.out (BendAt.cell Q3.out t1 ct1 ct2).2.2.2 t1 (bt a2 t3)⟩⟩
              · rw [if_neg cu] at H
                cases H
            · rw [if_neg z0] at H
              by_cases z1 : t2 = 1
              · rw [if_pos z1] at H
                subst z1
                have HA := Aside0.mk H
                clear H
                have ct3 : t1 ≤ (c7 : Int) := by omega
                go_wp2_with (first
                  | (go_at_call 64; with_reducible refine (bend_below HQ.out (x.length : Int) t1 i1 h1 E1.out).mono ?_; rintro e w5 ⟨rfl, q_, _⟩; have Q1 := Aside0.mk q_; clear q_)
                  | (go_at_call 64; with_reducible refine (bend_below Q1.out 4 1 i2 h2 E2.out).mono ?_; rintro e w6 ⟨rfl, q_, _⟩; have Q2 := Aside0.mk q_; clear q_))
                go_roundg k1
                case measure => omega
                case rel => exact ⟨x.take t1.toNat, wrap64 (n - 1), i2, h2, by first | rfl | simp, HA, ⟨by have := HK.out; omega⟩, ⟨BendAt.take Q2.out (by omega)⟩⟩
              · rw [if_neg z1] at H
                by_cases z2 : t2 = 2
                · rw [if_pos z2] at H
                  subst z2
                  have HA := Aside0.mk H
                  clear H z0 z1
                  obtain ⟨B, eB, hB, _⟩ := BRow.cell HQ.out.2.2.2 t1 ct1 ct2
                  subst eB
                  have HBB := Aside0.mk hB
                  clear hB
                  have ct3 : t1 ≤ (c7 : Int) := by omega
                  have ct4 : t1 + 1 ≤ (x.length : Int) := by omega
                  have ct5 : 0 ≤ t1 + 1 := by omega
                  have hw1 : wrap64 (t1 + 1) = t1 + 1 := by unfold wrap64; have := CT3.out; omega
                  have hw2 : IntKind.i64.wrap (t1 + 1) = t1 + 1 := by have := CT3.out; exact IntWalk.i64_in _ ⟨by omega, by omega⟩
                  have ct6 : (x.length : Int) ≤ (c7 : Int) := by omega
                  go_upto_region 12 with (first
                    | (go_at_call 64; with_reducible refine (bend_below HQ.out (x.length : Int) t1 i1 h1 E1.out).mono ?_; rintro e w5 ⟨rfl, q_, _⟩; have Q1 := Aside0.mk q_; clear q_)
                    | (go_at_call 64; with_reducible refine (bend_below Q1.out 4 2 i2 h2 E2.out).mono ?_; rintro e w6 ⟨rfl, q_, _⟩; have Q2 := Aside0.mk q_; clear q_))
                  have QE := Aside0.mk (BendAt.drew (BendAt.alloc Q2.out HL.out (.cells #[] 5)) HL.out)
                  have hBlt := BendAt.lt Q2.out (by omega)
                  have hD6 : (w6.alloc (.cells #[] 5)).drew.heap[w6.heap.size]? = some (.cells #[] 5 (0, 0)) := blk_new w6 _
                  have hs6 : (w6.alloc (.cells #[] 5)).drew.heap.size = w6.heap.size + 1 := by show (w6.alloc (.cells #[] 5)).heap.size = _; simp
                  have HD6 := Aside0.mk hD6
                  have HS6 := Aside0.mk hs6
                  have HBL := Aside0.mk hBlt
                  have HW6 := Aside0.mk Q2.out.2.1.1
                  clear hD6 hs6 hBlt
                  go_region_law (first
                    | (refine bend_append Tryd.underlying22 info5 (by rfl) (.tmp 47) (.tmp 50) rfl (.slice (some ⟨w6.heap.size, 0, none⟩) 0 0) [] (x.take t1.toNat) (some ⟨B, 0, none⟩) t1.toNat c7 (fun k => k ≠ B) (by go_simp) (by go_simp) QE.out HL.out ?hO (fun k hk e => hk (by simpa [Value.ownBlock] using e.symm)) ?hF (BendAt.readC QE.out (by omega)) ?hl ?_; (case hO => exact R_empty HD6.out HW6.out (by have := HBL.out; omega)); (case hF => intro k hk; have h1 := HS6.out; have h2 := HBL.out; omega); (case hl => have := CT3.out; simp only [List.length_nil]; omega); intro v8 w8 hr8 q8 hg8; have HG8 := Aside0.mk hg8.size; have R8 := Aside0.mk hr8; have Q8 := Aside0.mk q8; clear hr8 q8 hg8)
                    | (refine bend_append Tryd.underlying22 info5 (by rfl) (.tmp 51) (.tmp 55) rfl v8 _ (x.drop (t1 + 1).toNat) _ _ _ (fun k => k ≠ B) rfl rfl Q8.out HL.out R8.out (fun k hk e => hk (by simpa [Value.ownBlock] using e.symm)) ?hF ?hR ?hl ?_; (case hR => exact BendAt.readB (m := (t1 + 1).toNat) Q8.out (by omega)); (case hF => intro k hk; have h1 := HS6.out; have h2 := HBL.out; have h3 := HG8.out; omega); (case hl => have := CT3.out; simp only [List.length_append, List.length_nil, List.length_take]; omega); intro v9 w9 hr9 q9 _; have R9 := Aside0.mk hr9; have Q9 := Aside0.mk q9; clear hr9 q9))
                  go_wp2
                  all_goals
                    go_roundg k1
                    case measure => omega
                    case rel => exact ⟨_, wrap64 (n - 1), i2, h2, by first | rfl | simp, HA, ⟨by have := HK.out; omega⟩, ⟨BendAt.fresh Q9.out R9.out (by have := CT3.out; simp only [List.length_append, List.length_nil, List.length_take, List.length_drop]; omega)⟩⟩
                · rw [if_neg z2] at H
                  by_cases z3 : t2 = 3
                  · rw [if_pos z3] at H
                    subst z3
                    obtain ⟨⟨t3, i3, h3⟩, e3, H⟩ := Option.bind_eq_some_iff.mp H
                    dsimp only at H e3
                    by_cases cu : 0 ≤ t3 ∧ t3 < (a2.size : Int)
                    · rw [if_pos cu] at H
                      have E3 := Aside0.mk e3
                      have HA := Aside0.mk H
                      have p3 := eq_true cu.1
                      have q3 := eq_true cu.2
                      have hx3 := bt_at a2 t3
                      clear H e3 cu z0 z1 z2
                      obtain ⟨B, eB, hB, _⟩ := BRow.cell HQ.out.2.2.2 t1 ct1 ct2
                      subst eB
                      have HBB := Aside0.mk hB
                      clear hB
                      have ct3 : t1 ≤ (c7 : Int) := by omega
                      have ct4 : t1 ≤ (x.length : Int) := by omega
                      have ct6 : (x.length : Int) ≤ (c7 : Int) := by omega
                      go_upto_region 14 with (first
                        | (go_at_call 64; with_reducible refine (bend_below HQ.out (x.length : Int) t1 i1 h1 E1.out).mono ?_; rintro e w5 ⟨rfl, q_, _⟩; have Q1 := Aside0.mk q_; clear q_)
                        | (go_at_call 64; with_reducible refine (bend_below Q1.out 4 3 i2 h2 E2.out).mono ?_; rintro e w6 ⟨rfl, q_, _⟩; have Q2 := Aside0.mk q_; clear q_))
                      have QE := Aside0.mk (BendAt.drew (BendAt.alloc Q2.out HL.out (.cells #[] 5)) HL.out)
                      have hBlt := BendAt.lt Q2.out (by omega)
                      have hD6 : (w6.alloc (.cells #[] 5)).drew.heap[w6.heap.size]? = some (.cells #[] 5 (0, 0)) := blk_new w6 _
                      have hs6 : (w6.alloc (.cells #[] 5)).drew.heap.size = w6.heap.size + 1 := by show (w6.alloc (.cells #[] 5)).heap.size = _; simp
                      have HD6 := Aside0.mk hD6
                      have HS6 := Aside0.mk hs6
                      have HBL := Aside0.mk hBlt
                      have HW6 := Aside0.mk Q2.out.2.1.1
                      clear hD6 hs6 hBlt
                      go_region_law (first
                        | (refine bend_append Tryd.underlying22 info5 (by rfl) (.tmp 59) (.tmp 62) rfl (.slice (some ⟨w6.heap.size, 0, none⟩) 0 0) [] (x.take t1.toNat) (some ⟨B, 0, none⟩) t1.toNat c7 (fun k => k ≠ B) (by go_simp) (by go_simp) QE.out HL.out ?hO (fun k hk e => hk (by simpa [Value.ownBlock] using e.symm)) ?hF (BendAt.readC QE.out (by omega)) ?hl ?_; (case hO => exact R_empty HD6.out HW6.out (by have := HBL.out; omega)); (case hF => intro k hk; have h1 := HS6.out; have h2 := HBL.out; omega); (case hl => have := CT3.out; simp only [List.length_nil]; omega); intro v8 w8 hr8 q8 hg8; have HG8 := Aside0.mk hg8.size; have R8 := Aside0.mk hr8; have Q8 := Aside0.mk q8; clear hr8 q8 hg8)
                        | (refine goes_ Tryd.func64 (by kernel_rfl) rfl #[.pointer (some ⟨g, 0, none⟩), .int .i64 (a2.size : Int)] (by rfl) rfl rfl (by go_simp) ?_; refine (bend_below Q8.out (a2.size : Int) t3 i3 h3 E3.out).mono ?_; rintro e w10 ⟨rfl, q10, hk10⟩; refine ⟨_, rfl, ?_⟩; have R10 := Aside0.mk (Kd.R_mono (Kd.R_keep (IsS79.apart Q8.out.1 R8.out (by decide)) hk10 (fun _ h => h.2)) (fun _ h => h.1)); have Q10 := Aside0.mk q10; have HG10 := Aside0.mk hk10.1; clear q10 hk10)
                        | (refine bend_append Tryd.underlying22 info5 (by rfl) (.tmp 63) (.tmp 70) rfl v8 _ [bt a2 t3] (some ⟨w10.heap.size, 0, none⟩) 1 1 (fun k => k ≠ B) (by go_simp) (by go_simp) (BendAt.alloc Q10.out HL.out _) HL.out (Kd.R_alloc R10.out _) (fun k hk e => hk (by simpa [Value.ownBlock] using e.symm)) ?hF (lit_C w10 (bt a2 t3)) ?hl ?_; (case hF => intro k hk; have h0 := (below_alloc (Below.refl w10.heap.size w10) (.cells #[.int .u8 (bt a2 t3)] 5)).size; have h1 := HS6.out; have h2 := HBL.out; have h3 := HG8.out; have h4 := HG10.out; omega); (case hl => have := CT3.out; simp only [List.length_append, List.length_nil, List.length_take]; omega); intro v11 w11 hr11 q11 hg11; have HG11 := Aside0.mk (Nat.le_trans (below_alloc (Below.refl w10.heap.size w10) (.cells #[.int .u8 (bt a2 t3)] 5)).size hg11.size); have R11 := Aside0.mk hr11; have Q11 := Aside0.mk q11; clear hr11 q11 hg11)
                        | (refine bend_append Tryd.underlying22 info5 (by rfl) (.tmp 71) (.tmp 74) rfl v11 _ (x.drop t1.toNat) _ _ _ (fun k => k ≠ B) rfl rfl Q11.out HL.out R11.out (fun k hk e => hk (by simpa [Value.ownBlock] using e.symm)) ?hF ?hR ?hl ?_; (case hR => exact BendAt.readB (m := t1.toNat) Q11.out (by omega)); (case hF => intro k hk; have h1 := HS6.out; have h2 := HBL.out; have h3 := HG8.out; have h4 := HG10.out; have h5 := HG11.out; omega); (case hl => have := CT3.out; simp only [List.length_append, List.length_nil, List.length_take, List.length_singleton]; omega); intro v9 w9 hr9 q9 _; have R9 := Aside0.mk hr9; have Q9 := Aside0.mk q9; clear hr9 q9))
                      go_wp2
                      go_roundg k1
                      case measure => omega
                      case rel => exact ⟨_, wrap64 (n - 1), i3, h3, by first | rfl | simp, HA, ⟨by have := HK.out; omega⟩, ⟨BendAt.fresh Q9.out R9.out (by have := CT3.out; simp only [List.length_append, List.length_nil, List.length_take, List.length_drop, List.length_singleton]; omega)⟩⟩
                    · rw [if_neg cu] at H
                      cases H
                  · rw [if_neg z3] at H
                    have HA := Aside0.mk H
                    have y0 : (t2 == 0) = false := beq_eq_false_iff_ne.mpr z0
                    have y1 : (t2 == 1) = false := beq_eq_false_iff_ne.mpr z1
                    have y2 : (t2 == 2) = false := beq_eq_false_iff_ne.mpr z2
                    have y3 : (t2 == 3) = false := beq_eq_false_iff_ne.mpr z3
                    clear H z0 z1 z2 z3
                    go_wp2_with (first
                      | (go_at_call 64; with_reducible refine (bend_below HQ.out (x.length : Int) t1 i1 h1 E1.out).mono ?_; rintro e w5 ⟨rfl, q_, _⟩; have Q1 := Aside0.mk q_; clear q_)
                      | (go_at_call 64; with_reducible refine (bend_below Q1.out 4 t2 i2 h2 E2.out).mono ?_; rintro e w6 ⟨rfl, q_, _⟩; have Q2 := Aside0.mk q_; clear q_))
                    go_roundg k1
                    case measure => omega
                    case rel => exact ⟨x, wrap64 (n - 1), i2, h2, by first | rfl | simp, HA, ⟨by have := HK.out; omega⟩, ⟨Q2.out⟩⟩
          · rw [if_neg ct] at H
            cases H
        · rw [if_neg cn] at H
          obtain ⟨rfl, rfl, rfl⟩ : strOfNums x = r1 ∧ i = r2 ∧ h = r3 := by simpa using H
          have hcv := Kd.C_string (P := Tryd.prog) (c := c7) Tryd.underlying22 Tryd.underlying5 Tryd.underlying9 (BRow.reads HQ.out.2.2.2).2.2
          clear H
          by_cases cn1 : n > 0
          · have cn2 : ¬ 0 < x.length := fun q => cn ⟨cn1, q⟩
            have cn1b : decide (0 < n) = true := decide_eq_true cn1
            have cn2b : (0 < x.length) = False := eq_false cn2
            clear cn1 cn2 cn
            go_wp2
            go_ret
            exact ⟨rfl, HQ.out.1, HQ.out.2.2.1, HQ.out.2.1⟩
          · have cn1b : decide (0 < n) = false := decide_eq_false cn1
            clear cn1 cn
            go_wp2
            go_ret
            exact ⟨rfl, HQ.out.1, HQ.out.2.2.1, HQ.out.2.1⟩
  · rw [if_neg hs] at h
    cases h
end Go.Proofs.YtkaknffeoeoajaaDoor.P
namespace Go.Proofs.YtkaknffeoeoajaaDoor.P
open Go.RowKit Go.Proofs.YtkaknffeoeoajaaDoorW.PrintWords Go.Proofs.YtkaknffeoeoajaaDoorW.PrintLast Go.Proofs.YtkaknffeoeoajaaDoorW.PrintMore
attribute [local go_sem] max2_int min2_int max_two min_two max_three min_three max_four min_four   -- for this text's walks alone
set_option linter.unusedVariables false
set_option linter.unusedSimpArgs false

/-! ### spec_DrawReadDate: function 22 -/
def spec_DrawReadDate.f (k : Nat) (l0 : List Int) : Option (ByteArray) := (spec_l1New.f k l0).bind fun bt101 => ((spec_l2DrawAny.f k bt101.1 bt101.2.1 bt101.2.2).bind fun bt105 => ((spec_ShowDate.f k bt105.1 bt105.2.1 bt105.2.2.1 bt105.2.2.2.1 bt105.2.2.2.2.1 bt105.2.2.2.2.2.1).bind fun t113 => ((spec_l1Once.f bt101.1 bt105.2.2.2.2.2.2.1 bt105.2.2.2.2.2.2.2 3).bind fun bt114 => (if bt114.1 = true then ((spec_l1Bend.f k bt101.1 bt114.2.1 bt114.2.2 t113 (⟨#[48, 49, 57, 32, 58, 71, 77, 84, 44, 83, 117]⟩ : ByteArray)).bind fun bt117 => (some bt117.1)) else (some t113)))))
theorem spec_DrawReadDate.mono : ∀ a0 k, LeO (spec_DrawReadDate.f k a0) (spec_DrawReadDate.f (k + 1) a0) := by
 intro a0 k
 unfold spec_DrawReadDate.f
 repeat' first
   | (with_reducible exact spec_ShowDate.mono _ _ _ _ _ _ _)
   | (with_reducible exact spec_l1Bend.mono _ _ _ _ _ _)
   | (with_reducible exact spec_l1New.mono _ _)
   | (with_reducible exact spec_l2DrawAny.mono _ _ _ _)
   | (with_reducible exact LeO.refl _)
   | (with_reducible exact LeO.none _)
   | (with_reducible refine LeO.ite ?_ ?_)
   | (with_reducible refine LeO.bind ?_ (fun _ => ?_))
   | exact spec_ShowDate.mono _ _ _ _ _ _ _
   | exact spec_l1Bend.mono _ _ _ _ _ _
   | exact spec_l1New.mono _ _
   | exact spec_l2DrawAny.mono _ _ _ _
   | exact LeO.none _
   | refine LeO.ite ?_ ?_
   | refine LeO.bind ?_ (fun _ => ?_)
set_option maxHeartbeats 8000000 in
set_option maxRecDepth 100000 in
theorem spec_DrawReadDate.calls (k : Nat) (A0 : Option Addr) (c0 : Nat) (l0 : List Int) (r : ByteArray) (w : World) (hr0 : Kd.C (Kd.int .u8) w A0 l0.length l0) (hc0 : l0.length ≤ c0) (h : spec_DrawReadDate.f k l0 = some r) :
  Calls Tryd.prog 22 #[.slice A0 l0.length c0] w fun e w' => e = .returned (.string r) ∧ Below w.heap.size w w' := by
 have HR0 := Aside0.mk hr0
 have HC0 := Aside0.mk hc0
 clear hr0 hc0
 have HB := Aside0.mk (Below.refl w.heap.size w)
 have H := h
 unfold spec_DrawReadDate.f at H
 clear h
 obtain ⟨⟨t101, t102, t103⟩, A20, H⟩ := Option.bind_eq_some_iff.mp H
 try dsimp only at H
 have A2 := Aside0.mk A20
 clear A20
 obtain ⟨⟨t105, t106, t107, t108, t109, t110, t111, t112⟩, A30, H⟩ := Option.bind_eq_some_iff.mp H
 try dsimp only at H
 have A3 := Aside0.mk A30
 clear A30
 obtain ⟨t113, A40, H⟩ := Option.bind_eq_some_iff.mp H
 try dsimp only at H
 have A4 := Aside0.mk A40
 clear A40
 obtain ⟨⟨t114, t115, t116⟩, A50, H⟩ := Option.bind_eq_some_iff.mp H
 try dsimp only at H
 have A5 := Aside0.mk A50
 clear A50
 by_cases c6 : t114 = true
 ·
  subst c6
  rw [if_pos rfl] at H
  replace H := Option.bind_eq_some_iff.mp H
  obtain ⟨⟨t117, t118, t119⟩, A70, H⟩ := H
  replace H : (some t117) = some r := H
  have A7 := Aside0.mk A70
  clear A70
  obtain rfl := Option.some.inj H
  go_enter Tryd.func22, Tryd.ntmps22
  go_wp2_with (first | ((with_reducible refine gate_callee (f := 33) rfl ?_); refine goesL_ (some 6) rfl rfl Tryd.func33 (by kernel_rfl) rfl #[.slice A0 l0.length c0] rfl mc ?_; (with_reducible refine (spec_l1New.calls k _ _ l0 t101 t102 t103 w _ ?side1 ?side2 ?side3 A2.out).mono ?_); (case side1 => exact zbh); (case side2 => exact HR0.out); (case side3 => exact HC0.out); rintro e w8 ⟨g104, rfl, hi, hb, hb2⟩; refine ⟨_, rfl, ?_⟩; have HI104 := Aside0.mk (hi); replace HB := Aside0.mk (hb); (try clear hb); (try clear hb2); (try clear hk); (try clear hi)) | ((with_reducible refine gate_callee (f := 53) rfl ?_); refine goesL_ (some 8) rfl rfl Tryd.func53 (by kernel_rfl) rfl #[.pointer (some ⟨g104, 0, none⟩)] rfl mc ?_; (with_reducible refine (spec_l2DrawAny.calls k g104 t101 t102 t103 t105 t106 t107 t108 t109 t110 t111 t112 w _ ?side1 ?side2 A3.out).mono ?_); (case side1 => repeat (first | (with_reducible first | exact HI104.out | apply IsS79.alloc | apply IsS79.drewN | apply IsS79.drew | apply IsS79.set_1 | apply IsS79.set_2) | exact HI104.out)); (case side2 => repeat (first | (with_reducible first | exact HB.out | apply below_alloc | apply pw_below_drewN | apply below_drew1 | refine below_set ?_ (IsS79.ge HI104.out)) | exact HB.out)); rintro e w9 ⟨rfl, hi, hb, hk⟩; refine ⟨_, rfl, ?_⟩; replace HI104 := Aside0.mk (hi); replace HB := Aside0.mk (hb); (try clear hb); (try clear hb2); (try clear hk); (try clear hi)) | ((with_reducible refine gate_callee (f := 18) rfl ?_); refine goesL_ (some 9) rfl rfl Tryd.func18 (by kernel_rfl) rfl #[.agg #[.int .i64 t105, .int .i64 t106, .int .i64 t107, .int .i64 t108, .int .i64 t109, .int .i64 t110]] rfl mc ?_; (with_reducible refine (spec_ShowDate.calls k t105 t106 t107 t108 t109 t110 t113 _ A4.out).mono ?_); rintro e w10 ⟨rfl, hb⟩; refine ⟨_, rfl, ?_⟩; have n0_ := Aside0.mk (IsS79.below (by repeat (first | (with_reducible first | exact HI104.out | apply IsS79.alloc | apply IsS79.drewN | apply IsS79.drew | apply IsS79.set_1 | apply IsS79.set_2) | exact HI104.out)) hb); have n1_ := Aside0.mk (below_step (by repeat (first | (with_reducible first | exact HB.out | apply below_alloc | apply pw_below_drewN | apply below_drew1 | refine below_set ?_ (IsS79.ge HI104.out)) | exact HB.out)) hb); clear HI104; clear HB; have HI104 := n0_; have HB := n1_; clear n0_ n1_; (try clear hb); (try clear hb2); (try clear hk); (try clear hi)) | ((with_reducible refine gate_callee (f := 36) rfl ?_); refine goesL_ (some 11) rfl rfl Tryd.func36 (by kernel_rfl) rfl #[.pointer (some ⟨g104, 0, none⟩), .int .i64 3] rfl mc ?_; (with_reducible refine (spec_l1Once.calls g104 t101 t111 t112 3 true t115 t116 w _ ?side1 ?side2 A5.out).mono ?_); (case side1 => repeat (first | (with_reducible first | exact HI104.out | apply IsS79.alloc | apply IsS79.drewN | apply IsS79.drew | apply IsS79.set_1 | apply IsS79.set_2) | exact HI104.out)); (case side2 => repeat (first | (with_reducible first | exact HB.out | apply below_alloc | apply pw_below_drewN | apply below_drew1 | refine below_set ?_ (IsS79.ge HI104.out)) | exact HB.out)); rintro e w11 ⟨rfl, hi, hb, hk⟩; refine ⟨_, rfl, ?_⟩; replace HI104 := Aside0.mk (hi); replace HB := Aside0.mk (hb); (try clear hb); (try clear hb2); (try clear hk); (try clear hi)) | ((with_reducible refine gate_callee (f := 37) rfl ?_); refine goesL_ (some 14) rfl rfl Tryd.func37 (by kernel_rfl) rfl #[.pointer (some ⟨g104, 0, none⟩), .string t113, .string (⟨#[48, 49, 57, 32, 58, 71, 77, 84, 44, 83, 117]⟩ : ByteArray)] rfl mc ?_; (with_reducible refine (spec_l1Bend.calls k g104 t101 t115 t116 t113 (⟨#[48, 49, 57, 32, 58, 71, 77, 84, 44, 83, 117]⟩ : ByteArray) t117 t118 t119 w _ ?side1 ?side2 A7.out).mono ?_); (case side1 => repeat (first | (with_reducible first | exact HI104.out | apply IsS79.alloc | apply IsS79.drewN | apply IsS79.drew | apply IsS79.set_1 | apply IsS79.set_2) | exact HI104.out)); (case side2 => repeat (first | (with_reducible first | exact HB.out | apply below_alloc | apply pw_below_drewN | apply below_drew1 | refine below_set ?_ (IsS79.ge HI104.out)) | exact HB.out)); rintro e w12 ⟨rfl, hi, hb, hk⟩; refine ⟨_, rfl, ?_⟩; replace HI104 := Aside0.mk (hi); replace HB := Aside0.mk (hb); (try clear hb); (try clear hb2); (try clear hk); (try clear hi)))
  go_ret
  exact ⟨er, by repeat (first | (with_reducible first | exact HB.out | apply below_alloc | apply pw_below_drewN | apply below_drew1 | refine below_set ?_ (IsS79.ge HI104.out)) | exact HB.out)⟩
 ·
  replace c6 := Bool.eq_false_iff.mpr c6
  subst c6
  have H1 : (some t113) = some r := by rw [if_neg (show ¬ (false = true) by decide)] at H; exact H
  clear H
  have H := H1
  clear H1
  obtain rfl := Option.some.inj H
  go_enter Tryd.func22, Tryd.ntmps22
  go_wp2_with (first | ((with_reducible refine gate_callee (f := 33) rfl ?_); refine goesL_ (some 6) rfl rfl Tryd.func33 (by kernel_rfl) rfl #[.slice A0 l0.length c0] rfl mc ?_; (with_reducible refine (spec_l1New.calls k _ _ l0 t101 t102 t103 w _ ?side1 ?side2 ?side3 A2.out).mono ?_); (case side1 => exact zbh); (case side2 => exact HR0.out); (case side3 => exact HC0.out); rintro e w13 ⟨g104, rfl, hi, hb, hb2⟩; refine ⟨_, rfl, ?_⟩; have HI104 := Aside0.mk (hi); replace HB := Aside0.mk (hb); (try clear hb); (try clear hb2); (try clear hk); (try clear hi)) | ((with_reducible refine gate_callee (f := 53) rfl ?_); refine goesL_ (some 8) rfl rfl Tryd.func53 (by kernel_rfl) rfl #[.pointer (some ⟨g104, 0, none⟩)] rfl mc ?_; (with_reducible refine (spec_l2DrawAny.calls k g104 t101 t102 t103 t105 t106 t107 t108 t109 t110 t111 t112 w _ ?side1 ?side2 A3.out).mono ?_); (case side1 => repeat (first | (with_reducible first | exact HI104.out | apply IsS79.alloc | apply IsS79.drewN | apply IsS79.drew | apply IsS79.set_1 | apply IsS79.set_2) | exact HI104.out)); (case side2 => repeat (first | (with_reducible first | exact HB.out | apply below_alloc | apply pw_below_drewN | apply below_drew1 | refine below_set ?_ (IsS79.ge HI104.out)) | exact HB.out)); rintro e w14 ⟨rfl, hi, hb, hk⟩; refine ⟨_, rfl, ?_⟩; replace HI104 := Aside0.mk (hi); replace HB := Aside0.mk (hb); (try clear hb); (try clear hb2); (try clear hk); (try clear hi)) | ((with_reducible refine gate_callee (f := 18) rfl ?_); refine goesL_ (some 9) rfl rfl Tryd.func18 (by kernel_rfl) rfl #[.agg #[.int .i64 t105, .int .i64 t106, .int .i64 t107, .int .i64 t108, .int .i64 t109, .int .i64 t110]] rfl mc ?_; (with_reducible refine (spec_ShowDate.calls k t105 t106 t107 t108 t109 t110 t113 _ A4.out).mono ?_); rintro e w15 ⟨rfl, hb⟩; refine ⟨_, rfl, ?_⟩; have n0_ := Aside0.mk (IsS79.below (by repeat (first | (with_reducible first | exact HI104.out | apply IsS79.alloc | apply IsS79.drewN | apply IsS79.drew | apply IsS79.set_1 | apply IsS79.set_2) | exact HI104.out)) hb); have n1_ := Aside0.mk (below_step (by repeat (first | (with_reducible first | exact HB.out | apply below_alloc | apply pw_below_drewN | apply below_drew1 | refine below_set ?_ (IsS79.ge HI104.out)) | exact HB.out)) hb); clear HI104; clear HB; have HI104 := n0_; have HB := n1_; clear n0_ n1_; (try clear hb); (try clear hb2); (try clear hk); (try clear hi)) | ((with_reducible refine gate_callee (f := 36) rfl ?_); refine goesL_ (some 11) rfl rfl Tryd.func36 (by kernel_rfl) rfl #[.pointer (some ⟨g104, 0, none⟩), .int .i64 3] rfl mc ?_; (with_reducible refine (spec_l1Once.calls g104 t101 t111 t112 3 false t115 t116 w _ ?side1 ?side2 A5.out).mono ?_); (case side1 => repeat (first | (with_reducible first | exact HI104.out | apply IsS79.alloc | apply IsS79.drewN | apply IsS79.drew | apply IsS79.set_1 | apply IsS79.set_2) | exact HI104.out)); (case side2 => repeat (first | (with_reducible first | exact HB.out | apply below_alloc | apply pw_below_drewN | apply below_drew1 | refine below_set ?_ (IsS79.ge HI104.out)) | exact HB.out)); rintro e w16 ⟨rfl, hi, hb, hk⟩; refine ⟨_, rfl, ?_⟩; replace HI104 := Aside0.mk (hi); replace HB := Aside0.mk (hb); (try clear hb); (try clear hb2); (try clear hk); (try clear hi)))
  go_ret
  exact ⟨er, by repeat (first | (with_reducible first | exact HB.out | apply below_alloc | apply pw_below_drewN | apply below_drew1 | refine below_set ?_ (IsS79.ge HI104.out)) | exact HB.out)⟩
/-! ### spec_DrawDateOk: function 40 -/
def spec_DrawDateOk.f (k : Nat) (l0 : List Int) : Option (Int × Int × Int × Int × Int × Int) := (spec_l1New.f k l0).bind fun bt102 => ((spec_l2DrawAny.f k bt102.1 bt102.2.1 bt102.2.2).bind fun bt106 => (some (bt106.1, bt106.2.1, bt106.2.2.1, bt106.2.2.2.1, bt106.2.2.2.2.1, bt106.2.2.2.2.2.1)))
theorem spec_DrawDateOk.mono : ∀ a0 k, LeO (spec_DrawDateOk.f k a0) (spec_DrawDateOk.f (k + 1) a0) := by
 intro a0 k
 unfold spec_DrawDateOk.f
 repeat' first
   | (with_reducible exact spec_l1New.mono _ _)
   | (with_reducible exact spec_l2DrawAny.mono _ _ _ _)
   | (with_reducible exact LeO.refl _)
   | (with_reducible exact LeO.none _)
   | (with_reducible refine LeO.ite ?_ ?_)
   | (with_reducible refine LeO.bind ?_ (fun _ => ?_))
   | exact spec_l1New.mono _ _
   | exact spec_l2DrawAny.mono _ _ _ _
   | exact LeO.none _
   | refine LeO.ite ?_ ?_
   | refine LeO.bind ?_ (fun _ => ?_)
set_option maxHeartbeats 8000000 in
set_option maxRecDepth 100000 in
theorem spec_DrawDateOk.calls (k : Nat) (A0 : Option Addr) (c0 : Nat) (l0 : List Int) (r1 : Int) (r2 : Int) (r3 : Int) (r4 : Int) (r5 : Int) (r6 : Int) (w : World) (hr0 : Kd.C (Kd.int .u8) w A0 l0.length l0) (hc0 : l0.length ≤ c0) (h : spec_DrawDateOk.f k l0 = some (r1, r2, r3, r4, r5, r6)) :
  Calls Tryd.prog 40 #[.slice A0 l0.length c0] w fun e w' => e = .returned (.agg #[.int .i64 r1, .int .i64 r2, .int .i64 r3, .int .i64 r4, .int .i64 r5, .int .i64 r6]) ∧ Below w.heap.size w w' := by
 have hu34 := Tryd.underlying34
 have HR0 := Aside0.mk hr0
 have HC0 := Aside0.mk hc0
 clear hr0 hc0
 have HB := Aside0.mk (Below.refl w.heap.size w)
 have H : ((spec_l1New.f k l0).bind fun bt102 => ((spec_l2DrawAny.f k bt102.1 bt102.2.1 bt102.2.2).bind fun bt106 => (some (bt106.1, bt106.2.1, bt106.2.2.1, bt106.2.2.2.1, bt106.2.2.2.2.1, bt106.2.2.2.2.2.1)))) = some (r1, r2, r3, r4, r5, r6) := h
 clear h
 obtain ⟨⟨t102, t103, t104⟩, A20, H⟩ := Option.bind_eq_some_iff.mp H
 try dsimp only at H
 have A2 := Aside0.mk A20
 clear A20
 obtain ⟨⟨t106, t107, t108, t109, t110, t111, t112, t113⟩, A30, H⟩ := Option.bind_eq_some_iff.mp H
 try dsimp only at H
 have A3 := Aside0.mk A30
 clear A30
 simp only [Option.some.injEq, Prod.mk.injEq] at H
 obtain ⟨rfl, rfl, rfl, rfl, rfl, rfl⟩ := H
 go_enter Tryd.func40, Tryd.ntmps40
 go_wp2_with (first | ((with_reducible refine gate_dst (N := 2) rfl ?_); refine bx 2 #[.int .i64 0, .int .i64 0, .int .i64 0, .int .i64 0, .int .i64 0, .int .i64 0] 34 ?_; intro gb101 hg w4 hbox hb; have BK101 := Aside0.mk (hbox); have GW101 := Aside0.mk (bz hg); have GE101 := Aside0.mk (bz hg); replace HB := Aside0.mk (below_step bh hb); clear hb hbox hg) | ((with_reducible refine gate_callee (f := 33) rfl ?_); refine goesL_ (some 5) rfl rfl Tryd.func33 (by kernel_rfl) rfl #[.slice A0 l0.length c0] rfl mc ?_; (with_reducible refine (spec_l1New.calls k _ _ l0 t102 t103 t104 w _ ?side1 ?side2 ?side3 A2.out).mono ?_); (case side1 => exact zbh); (case side2 => exact HR0.out); (case side3 => exact HC0.out); rintro e w5 ⟨g105, rfl, hi, hb, hb2⟩; refine ⟨_, rfl, ?_⟩; have HI105 := Aside0.mk (hi); have NB105_101 := Aside0.mk (IsS79.ne_blk hi (blk_below (g := gb101) (o := .cells #[.int .i64 0, .int .i64 0, .int .i64 0, .int .i64 0, .int .i64 0, .int .i64 0] 34 (0, 0)) bk hb2) (by decide)); have NB101_105 := Aside0.mk (Ne.symm (IsS79.ne_blk hi (blk_below (g := gb101) (o := .cells #[.int .i64 0, .int .i64 0, .int .i64 0, .int .i64 0, .int .i64 0, .int .i64 0] 34 (0, 0)) bk hb2) (by decide))); replace BK101 := Aside0.mk (blk_below (g := gb101) (o := .cells #[.int .i64 0, .int .i64 0, .int .i64 0, .int .i64 0, .int .i64 0, .int .i64 0] 34 (0, 0)) bk hb2); replace HB := Aside0.mk (hb); (try clear hb); (try clear hb2); (try clear hk); (try clear hi)) | ((with_reducible refine gate_callee (f := 53) rfl ?_); refine goesL_ (some 7) rfl rfl Tryd.func53 (by kernel_rfl) rfl #[.pointer (some ⟨g105, 0, none⟩)] rfl mc ?_; (with_reducible refine (spec_l2DrawAny.calls k g105 t102 t103 t104 t106 t107 t108 t109 t110 t111 t112 t113 w _ ?side1 ?side2 A3.out).mono ?_); (case side1 => repeat (first | (with_reducible first | exact HI105.out | apply IsS79.alloc | apply IsS79.drewN | apply IsS79.drew | apply IsS79.set_1 | apply IsS79.set_2 | refine IsS79.far ?_ NB105_101.out _) | exact HI105.out)); (case side2 => repeat (first | (with_reducible first | exact HB.out | apply below_alloc | apply pw_below_drewN | apply below_drew1 | refine below_set ?_ (IsS79.ge HI105.out) | refine below_set ?_ GE101.out) | exact HB.out)); rintro e w6 ⟨rfl, hi, hb, hk⟩; refine ⟨_, rfl, ?_⟩; replace BK101 := bkk_ BK101 hk NB101_105; replace HI105 := Aside0.mk (hi); replace HB := Aside0.mk (hb); (try clear hb); (try clear hb2); (try clear hk); (try clear hi); have hnb7 := NB101_105.out; have hnc7 := NB105_101.out; obtain ⟨hcz8_0, hcz8_1, hcz8_2, hcz8_3, hcz8_4, hcz8_5⟩ := zcf6 BK101; obtain ⟨hfz8_0, hfz8_1, hfz8_2, hfz8_3, hfz8_4, hfz8_5⟩ := zff6 BK101))
 refine bodyPost_ret (results_cell_row rfl _ _ gb101 34 #[.int .i64 t106, .int .i64 t107, .int .i64 t108, .int .i64 t109, .int .i64 t110, .int .i64 t111] (0, 0) _ rfl bkp Tryd.underlying34 rfl (by kernel_rfl)) rfl ?_
 exact ⟨er, by repeat (first | (with_reducible first | exact HB.out | apply below_alloc | apply pw_below_drewN | apply below_drew1 | refine below_set ?_ (IsS79.ge HI105.out) | refine below_set ?_ GE101.out) | exact HB.out)⟩
/-! ### spec_DrawShowDate: function 16 -/
def spec_DrawShowDate.f (k : Nat) (l0 : List Int) : Option (Int × Int × Int × Int × Int × Int) := (spec_DrawDateOk.f k l0).bind fun bt102 => (some (bt102.1, bt102.2.1, bt102.2.2.1, bt102.2.2.2.1, bt102.2.2.2.2.1, bt102.2.2.2.2.2))
theorem spec_DrawShowDate.mono : ∀ a0 k, LeO (spec_DrawShowDate.f k a0) (spec_DrawShowDate.f (k + 1) a0) := by
 intro a0 k
 unfold spec_DrawShowDate.f
 repeat' first
   | (with_reducible exact spec_DrawDateOk.mono _ _)
   | (with_reducible exact LeO.refl _)
   | (with_reducible exact LeO.none _)
   | (with_reducible refine LeO.ite ?_ ?_)
   | (with_reducible refine LeO.bind ?_ (fun _ => ?_))
   | exact spec_DrawDateOk.mono _ _
   | exact LeO.none _
   | refine LeO.ite ?_ ?_
   | refine LeO.bind ?_ (fun _ => ?_)
set_option maxHeartbeats 8000000 in
set_option maxRecDepth 100000 in
theorem spec_DrawShowDate.calls (k : Nat) (A0 : Option Addr) (c0 : Nat) (l0 : List Int) (r1 : Int) (r2 : Int) (r3 : Int) (r4 : Int) (r5 : Int) (r6 : Int) (w : World) (hr0 : Kd.C (Kd.int .u8) w A0 l0.length l0) (hc0 : l0.length ≤ c0) (h : spec_DrawShowDate.f k l0 = some (r1, r2, r3, r4, r5, r6)) :
  Calls Tryd.prog 16 #[.slice A0 l0.length c0] w fun e w' => e = .returned (.agg #[.int .i64 r1, .int .i64 r2, .int .i64 r3, .int .i64 r4, .int .i64 r5, .int .i64 r6]) ∧ Below w.heap.size w w' := by
 have hu34 := Tryd.underlying34
 have HR0 := Aside0.mk hr0
 have HC0 := Aside0.mk hc0
 clear hr0 hc0
 have HB := Aside0.mk (Below.refl w.heap.size w)
 have H : ((spec_DrawDateOk.f k l0).bind fun bt102 => (some (bt102.1, bt102.2.1, bt102.2.2.1, bt102.2.2.2.1, bt102.2.2.2.2.1, bt102.2.2.2.2.2))) = some (r1, r2, r3, r4, r5, r6) := h
 clear h
 obtain ⟨⟨t102, t103, t104, t105, t106, t107⟩, A20, H⟩ := Option.bind_eq_some_iff.mp H
 try dsimp only at H
 have A2 := Aside0.mk A20
 clear A20
 simp only [Option.some.injEq, Prod.mk.injEq] at H
 obtain ⟨rfl, rfl, rfl, rfl, rfl, rfl⟩ := H
 go_enter Tryd.func16, Tryd.ntmps16
 go_wp2_with (first | ((with_reducible refine gate_dst (N := 2) rfl ?_); refine bx 2 #[.int .i64 0, .int .i64 0, .int .i64 0, .int .i64 0, .int .i64 0, .int .i64 0] 34 ?_; intro gb101 hg w3 hbox hb; have BK101 := Aside0.mk (hbox); have GW101 := Aside0.mk (bz hg); have GE101 := Aside0.mk (bz hg); replace HB := Aside0.mk (below_step bh hb); clear hb hbox hg) | ((with_reducible refine gate_callee (f := 40) rfl ?_); refine goesL_ (some 4) rfl rfl Tryd.func40 (by kernel_rfl) rfl #[.slice A0 l0.length c0] rfl mc ?_; (with_reducible refine (spec_DrawDateOk.calls k _ _ l0 t102 t103 t104 t105 t106 t107 _ ?side1 ?side2 A2.out).mono ?_); (case side1 => repeat (first | exact (Kd.C_below HR0.out HB.out) | (with_reducible refine Kd.C_alloc ?_ _) | (with_reducible refine Kd.C_drewN ?_ _) | (with_reducible refine Kd.C_drew ?_))); (case side2 => exact HC0.out); rintro e w4 ⟨rfl, hb⟩; refine ⟨_, rfl, ?_⟩; replace BK101 := bkb_ BK101 hb; replace HB := Aside0.mk (below_step bh hb); (try clear hb); (try clear hb2); (try clear hk); (try clear hi); obtain ⟨hcz5_0, hcz5_1, hcz5_2, hcz5_3, hcz5_4, hcz5_5⟩ := zcf6 BK101; obtain ⟨hfz5_0, hfz5_1, hfz5_2, hfz5_3, hfz5_4, hfz5_5⟩ := zff6 BK101))
 refine bodyPost_ret (results_cell_row rfl _ _ gb101 34 #[.int .i64 t102, .int .i64 t103, .int .i64 t104, .int .i64 t105, .int .i64 t106, .int .i64 t107] (0, 0) _ rfl bkp Tryd.underlying34 rfl (by kernel_rfl)) rfl ?_
 exact ⟨er, bh⟩
end Go.Proofs.YtkaknffeoeoajaaDoor.P
