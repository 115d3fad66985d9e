/- Functions of the Go program as Lean functions, and proofs about them, merged out of this session's texts by its program bundle.py; conditions: those that each theorem states. -/
import Derived.Below
import Derived.Carry
import Derived.ChangeOld
import Derived.ChangeSame
import Derived.Deep.Fields
import Derived.Handed
import Derived.HandedShaped
import Derived.LaidMore
import Derived.Lay
import Derived.Lib.ItoaNum
import Derived.Lib.LaidTab
import Derived.Lib.Strings
import Derived.MakeChecks
import Derived.OpenShut
import Derived.ProofKit
import Derived.SevenTiedAt
import Derived.Shelf.Vars
import Derived.ShutString
import Derived.SizedLaws
import Derived.Stop.Joined
import Derived.Test.YtpolkndhjcdheaaDoorCards
import Derived.Test.YtpolkndhjcdheaaDoorGFormatInt
import Derived.Test.YtpolkndhjcdheaaDoorGRepeat
import Derived.Test.YtpolkndhjcdheaaDoorP0
import Derived.Test.YtpolkndhjcdheaaDoorPimplDateOk
import Derived.Test.YtpolkndhjcdheaaDoorPimplLeap
import Derived.Test.YtpolkndhjcdheaaDoorPimplShowDate
import Derived.Test.YtpolkndhjcdheaaDoorPimplWeekday
import Derived.Test.YtpolkndhjcdheaaDoorPimpldays
import Derived.Test.YtpolkndhjcdheaaDoorPimpldaysIn
import Derived.Test.YtpolkndhjcdheaaDoorPimpldecimal
import Derived.Test.YtpolkndhjcdheaaDoorPimplpadded
import Derived.Test.YtpolkndhjcdheaaDoorPimplwithin
import Derived.Test.YtpolkndhjcdheaaDoorPimplyearDays
import Derived.Test.YtpolkndhjcdheaaDoorPlawstoDate
import Derived.Test.YtpolkndhjcdheaaDoorPspecDateAt
import Derived.Test.YtpolkndhjcdheaaDoorPspecDateOk
import Derived.Test.YtpolkndhjcdheaaDoorPspecLeap
import Derived.Test.YtpolkndhjcdheaaDoorPspecShowDate
import Derived.Test.YtpolkndhjcdheaaDoorPspecWeekday
import Derived.Test.YtpolkndhjcdheaaDoorPspecl1In
import Derived.Test.YtpolkndhjcdheaaDoorPspecl2DayName
import Derived.Test.YtpolkndhjcdheaaDoorPspecl2Days
import Derived.Test.YtpolkndhjcdheaaDoorPspecl2Month
import Derived.Test.YtpolkndhjcdheaaDoorPspecl2MonthName
import Derived.Test.YtpolkndhjcdheaaDoorPspecl2Two
import Derived.Test.YtpolkndhjcdheaaDoorPspecl2Year
import Derived.Test.YtpolkndhjcdheaaDoorRows
import Derived.Test.YtpolkndhjcdheaaDoorTie
import Derived.Test.YtpolkndhjcdheaaDoorXW
import Derived.WalkKit
import Derived.WideShapes
namespace Go.Proofs.YtpolkndhjcdheaaDoor.RowAid
open Go
variable {H : Type} {enc : TypeId × Value → H}
theorem handed_both {a : Assume} {C : Checked} {os : Os} {f : FuncId} {fn : Func} {s : ChangeSpec} {conds : List PathCond} {apart fresh handsOn again : Bool} {X : World → Array Value → Prop}
    (hX : ∀ (w w' : World) (args : Array Value), w.heap = w'.heap → X w args → X w' args)
    (own : ownKnob C.prog.godebug = none) (started : os.Started) (noInit : C.prog.inits.idxOf? f = none) (hfn : C.prog.funcs[f]? = some fn)
    (witness : ∃ (w : World) (tape : Tape) (i : Input), w.os = os ∧ (w.forCall tape i).Shaped C.prog ∧ i.vars = [] ∧ Input.okWide C.prog (w.forCall tape i) .any w.heap.size f i ∧
      ((s.pre enc C.prog fn conds apart (w.forCall tape i).memory i.args ∧ X (w.forCall tape i).memory i.args) ∧ sizedMet enc C.prog fn (OpenSpec.ofChange s) apart (w.forCall tape i).memory i.args) ∧ a.holds C.prog (lone (Frame.enter C.prog f i.args .normal) [] (w.forCall tape i)))
    (contract : ∀ (W : World) (base : Nat) (args : Array Value) (ds gs : List (DataW H)) (before : List MemPlace),
      (∀ (j : Nat) t v, fn.params[j]? = some t → args[j]? = some v → Value.okWide C.prog W .any base t v) →
      DataW.Whole enc C.prog fn.params.toList s.vars apart W args.toList ds gs before →
      conds.all (PathCond.test C.prog ⟨fn.params.toList, ds, s.plain.varTypes C.prog, gs⟩) = true →
      (DataW.weightsEach C.prog (fn.params.toList ++ s.plain.varTypes C.prog) (ds ++ gs)).all (· ≤ reachBytes) = true → X W args → W.ShapedOpen C.prog →
      a.holds C.prog (lone (Frame.enter C.prog f args .normal) [] W) →
      Calls C.prog f args W fun e W' => ∃ v, e = .returned v ∧ s.post enc C.prog fn apart fresh handsOn again W args v W') :
    ReturnsInHanded a C os f .any (fun w args => (s.pre enc C.prog fn conds apart w args ∧ X w args) ∧ sizedMet enc C.prog fn (OpenSpec.ofChange s) apart w args) (s.post enc C.prog fn apart fresh handsOn again) := by
  refine returnsInHanded_of_calls own started noInit witness ?_
  intro w tape i _ hsh _ hok hpre hholds
  obtain ⟨_, _, _, fn', hfn', _, _, _, _, hval⟩ := hok
  have e : fn' = fn := Option.some.inj (hfn'.symm.trans hfn)
  subst e
  obtain ⟨⟨⟨ds, gs, before, hw, hc⟩, hx⟩, hz⟩ := hpre
  have hw' := DataW.Whole.of_heap (w' := w.forCall tape i) (by rfl) hw
  refine (contract (w.forCall tape i) w.heap.size i.args ds gs before hval hw' hc (hz.weights hw) (hX _ _ _ (by rfl) hx) hsh hholds).mono fun e W' ⟨v, he, hp⟩ => ?_
  subst he
  exact ChangeSpec.post_blind hp
end Go.Proofs.YtpolkndhjcdheaaDoor.RowAid
namespace Go.Proofs.YtpolkndhjcdheaaDoor.RowAid
open Go

/-- What a list lays a variable with. -/
def laysAs (laid : List (String × DataW Unit)) (name : String) : Option (DataW Unit) :=
  match laid with
  | [] => none
  | x :: r => if x.1 = name then some x.2 else laysAs r name
theorem tabIs_mem {P : Program} {W : World} {name : String} {k : IntKind} {zs : List Int} {g : Nat} {t e : TypeId} {n : Nat}
    (hg : P.globalNamed name = some g) (hty : (P.globals[g]?).map (·.type) = some t) (ht : P.underlying t = some (.array n e)) (he : P.underlying e = some (.int k)) (hce : P.cellsOf e = 1) (hct : P.cellsOf t = n) :
    ∀ (laid : List (String × DataW Unit)) (ps : List MemPlace), DataW.LaidVars P W laid ps → laysAs laid name = some (Lib.tabData k zs) → Lib.TabIs P W name k zs := by
  intro laid
  induction laid with
  | nil => intro ps _ h; cases h
  | cons x r ih =>
    intro ps hl hm
    obtain ⟨nm, d⟩ := x
    obtain ⟨g', t', cs, fuel, p, q, hg', ht', hvar, hd, hr, _⟩ := hl
    unfold laysAs at hm
    by_cases hn : nm = name
    · subst hn
      rw [if_pos rfl] at hm
      obtain rfl : d = Lib.tabData k zs := Option.some.inj hm
      obtain rfl := Option.some.inj (hg.symm.trans hg')
      obtain rfl := Option.some.inj (hty.symm.trans ht')
      unfold Lib.TabIs
      rw [hvar, ← Lib.cells_of_tab ht he hce hct hd]
    · rw [if_neg hn] at hm
      exact ih q hr hm
theorem xw_of {m : Nat} {W : World} (hS : W.ShapedOpen Tryd.prog) (laid : List (String × DataW Unit)) (hL : laidMetH Tryd.prog laid W) (hp : (laid.all fun x => x.2.handleName?.isNone) = true)
    (h10 : m / 2 % 2 = 1 → laysAs laid "internal/strconv.uint64pow10" = some (Lib.tabData .u64 Lib.pow10Tab)) (htz : m / 4 % 2 = 1 → laysAs laid "math/bits.deBruijn64tab" = some (Lib.tabData .u8 P.deBruijn64Tab)) : P.XW m W := by
  rw [MakeChecks.laidMetH_plain _ _ _ hp] at hL
  obtain ⟨ps, hv, _⟩ := hL
  unfold P.XW
  refine ⟨fun _ => cell_of_shapedOpen_int (zero := #[.int .i64 0]) (t := 3) hS (of_decide_eq_true (by kernel_rfl)) (by kernel_rfl) rfl (by kernel_rfl) (by kernel_rfl) Tryd.underlying3, ?_⟩
  refine ⟨fun h => tabIs_mem (g := 1) (n := 20) (by kernel_rfl) rfl (by kernel_rfl) Tryd.underlying90 (by kernel_rfl) (by kernel_rfl) laid ps hv (h10 h), ?_⟩
  refine ⟨fun h => tabIs_mem (g := 5) (n := 64) (by kernel_rfl) rfl (by kernel_rfl) Tryd.underlying5 (by kernel_rfl) (by kernel_rfl) laid ps hv (htz h), ?_⟩
  trivial
end Go.Proofs.YtpolkndhjcdheaaDoor.RowAid
namespace Go.Proofs.YtpolkndhjcdheaaDoor.P
open Go.RowKit Go.Proofs.YtpolkndhjcdheaaDoorW.PrintWords Go.Proofs.YtpolkndhjcdheaaDoorW.PrintLast Go.Proofs.YtpolkndhjcdheaaDoorW.PrintMore
attribute [local go_sem] max2_int min2_int max_two min_two max_three min_three max_four min_four   -- for this text's walks alone
set_option linter.unusedVariables false
set_option linter.unusedSimpArgs false

/-! ### laws_FnExactShowDate: function 3 -/
def laws_FnExactShowDate.f (k : Nat) (a0_0 : Int) (a0_1 : Int) (a0_2 : Int) (a0_3 : Int) (a0_4 : Int) (a0_5 : Int) : Option (Bool) := (laws_toDate.f a0_0 a0_1 a0_2 a0_3 a0_4 a0_5).bind fun bt102 => ((spec_ShowDate.f k bt102.1 bt102.2.1 bt102.2.2.1 bt102.2.2.2.1 bt102.2.2.2.2.1 bt102.2.2.2.2.2).bind fun t108 => ((laws_toDate.f a0_0 a0_1 a0_2 a0_3 a0_4 a0_5).bind fun bt109 => ((impl_ShowDate.f k bt109.1 bt109.2.1 bt109.2.2.1 bt109.2.2.2.1 bt109.2.2.2.2.1 bt109.2.2.2.2.2).bind fun t115 => (if t115.toList = t108.toList then (some true) else (some false)))))
theorem laws_FnExactShowDate.mono : ∀ a0 a1 a2 a3 a4 a5 k, LeO (laws_FnExactShowDate.f k a0 a1 a2 a3 a4 a5) (laws_FnExactShowDate.f (k + 1) a0 a1 a2 a3 a4 a5) := by
 intro a0 a1 a2 a3 a4 a5 k
 unfold laws_FnExactShowDate.f
 repeat' first
   | (with_reducible exact impl_ShowDate.mono _ _ _ _ _ _ _)
   | (with_reducible exact spec_ShowDate.mono _ _ _ _ _ _ _)
   | (with_reducible exact LeO.refl _)
   | (with_reducible exact LeO.none _)
   | (with_reducible refine LeO.ite ?_ ?_)
   | (with_reducible refine LeO.bind ?_ (fun _ => ?_))
   | exact impl_ShowDate.mono _ _ _ _ _ _ _
   | exact spec_ShowDate.mono _ _ _ _ _ _ _
   | exact LeO.none _
   | refine LeO.ite ?_ ?_
   | refine LeO.bind ?_ (fun _ => ?_)
set_option maxHeartbeats 8000000 in
set_option maxRecDepth 100000 in
theorem laws_FnExactShowDate.calls (k : Nat) (a0_0 : Int) (a0_1 : Int) (a0_2 : Int) (a0_3 : Int) (a0_4 : Int) (a0_5 : Int) (r : Bool) (w : World) (hX : XW 6 w) (h : laws_FnExactShowDate.f k a0_0 a0_1 a0_2 a0_3 a0_4 a0_5 = some r) :
  Calls Tryd.prog 3 #[.agg #[.int .i64 a0_0, .int .i64 a0_1, .int .i64 a0_2, .int .i64 a0_3, .int .i64 a0_4, .int .i64 a0_5]] w fun e w' => e = .returned (.bool r) ∧ Below w.heap.size w w' := by
 have hu23 := Tryd.underlying23
 have HB := Aside0.mk (Below.refl w.heap.size w)
 have H : ((laws_toDate.f a0_0 a0_1 a0_2 a0_3 a0_4 a0_5).bind fun bt102 => ((spec_ShowDate.f k bt102.1 bt102.2.1 bt102.2.2.1 bt102.2.2.2.1 bt102.2.2.2.2.1 bt102.2.2.2.2.2).bind fun t108 => ((laws_toDate.f a0_0 a0_1 a0_2 a0_3 a0_4 a0_5).bind fun bt109 => ((impl_ShowDate.f k bt109.1 bt109.2.1 bt109.2.2.1 bt109.2.2.2.1 bt109.2.2.2.2.1 bt109.2.2.2.2.2).bind fun t115 => (if t115.toList = t108.toList then (some true) else (some false)))))) = some r := h
 clear h
 replace H := Option.bind_eq_some_iff.mp H
 obtain ⟨⟨t102, t103, t104, t105, t106, t107⟩, A20, H⟩ := H
 replace H : ((spec_ShowDate.f k t102 t103 t104 t105 t106 t107).bind fun t108 => ((laws_toDate.f a0_0 a0_1 a0_2 a0_3 a0_4 a0_5).bind fun bt109 => ((impl_ShowDate.f k bt109.1 bt109.2.1 bt109.2.2.1 bt109.2.2.2.1 bt109.2.2.2.2.1 bt109.2.2.2.2.2).bind fun t115 => (if t115.toList = t108.toList then (some true) else (some false))))) = some r := H
 have A2 := Aside0.mk A20
 clear A20
 replace H := Option.bind_eq_some_iff.mp H
 obtain ⟨t108, A30, H⟩ := H
 replace H : ((laws_toDate.f a0_0 a0_1 a0_2 a0_3 a0_4 a0_5).bind fun bt109 => ((impl_ShowDate.f k bt109.1 bt109.2.1 bt109.2.2.1 bt109.2.2.2.1 bt109.2.2.2.2.1 bt109.2.2.2.2.2).bind fun t115 => (if t115.toList = t108.toList then (some true) else (some false)))) = some r := H
 have A3 := Aside0.mk A30
 clear A30
 replace H := Option.bind_eq_some_iff.mp H
 obtain ⟨⟨t109, t110, t111, t112, t113, t114⟩, A40, H⟩ := H
 replace H : ((impl_ShowDate.f k t109 t110 t111 t112 t113 t114).bind fun t115 => (if t115.toList = t108.toList then (some true) else (some false))) = some r := H
 have A4 := Aside0.mk A40
 clear A40
 replace H := Option.bind_eq_some_iff.mp H
 obtain ⟨t115, A50, H⟩ := H
 replace H : (if t115.toList = t108.toList then (some true) else (some false)) = some r := H
 have A5 := Aside0.mk A50
 clear A50
 by_cases c6 : t115.toList = t108.toList
 ·
  rw [if_pos c6] at H
  have c6b0 : (t115.toList == t108.toList) = true := beq_iff_eq.mpr c6
  have c6b1 : (t115.toList != t108.toList) = false := bne_eq_false_iff_eq.mpr c6
  clear c6
  obtain rfl := Option.some.inj H
  go_enter Tryd.func3, Tryd.ntmps3
  go_wp2_with (first | ((with_reducible refine gate_dst (N := 1) rfl ?_); refine box_event ?hg (N := 1) ?hd (cs := #[.int .i64 a0_0, .int .i64 a0_1, .int .i64 a0_2, .int .i64 a0_3, .int .i64 a0_4, .int .i64 a0_5]) (t := 23) ?hr ?_; (case hd => rfl); (case hg => rfl); (case hr => first | (go_simp; done) | (go_simp; rfl)); intro gb101 hg w7 hbox hb; have n0_ := Aside0.mk (below_step (by repeat (first | (with_reducible first | exact HB.out | apply below_alloc | apply pw_below_drewN | apply below_drew1) | exact HB.out)) hb); have n1_ := Aside0.mk (hbox); have n2_ := Aside0.mk ((by rw [hg]; exact (below_size (by repeat (first | (with_reducible first | exact HB.out | apply below_alloc | apply pw_below_drewN | apply below_drew1) | exact HB.out))) : w.heap.size ≤ gb101)); have n3_ := Aside0.mk ((by rw [hg]; exact (below_size (by repeat (first | (with_reducible first | exact HB.out | apply below_alloc | apply pw_below_drewN | apply below_drew1) | exact HB.out))) : w.heap.size ≤ gb101)); clear HB; have HB := n0_; have BK101 := n1_; have GW101 := n2_; have GE101 := n3_; clear n0_ n1_ n2_ n3_; clear hb hbox hg; have hcz8_0 : w7.cell? ⟨gb101, 0, none⟩ = some (.int .i64 a0_0) := (blk_cell BK101.out 0).trans rfl; have hcz8_1 : w7.cell? ⟨gb101, 1, none⟩ = some (.int .i64 a0_1) := (blk_cell BK101.out 1).trans rfl; have hcz8_2 : w7.cell? ⟨gb101, 2, none⟩ = some (.int .i64 a0_2) := (blk_cell BK101.out 2).trans rfl; have hcz8_3 : w7.cell? ⟨gb101, 3, none⟩ = some (.int .i64 a0_3) := (blk_cell BK101.out 3).trans rfl; have hcz8_4 : w7.cell? ⟨gb101, 4, none⟩ = some (.int .i64 a0_4) := (blk_cell BK101.out 4).trans rfl; have hcz8_5 : w7.cell? ⟨gb101, 5, none⟩ = some (.int .i64 a0_5) := (blk_cell BK101.out 5).trans rfl; have hfz8_0 := blk_frozen BK101.out 0; have hfz8_1 := blk_frozen BK101.out 1; have hfz8_2 := blk_frozen BK101.out 2; have hfz8_3 := blk_frozen BK101.out 3; have hfz8_4 := blk_frozen BK101.out 4; have hfz8_5 := blk_frozen BK101.out 5) | ((with_reducible refine gate_callee (f := 9) rfl ?_); refine goesL_ (some 6) rfl rfl Tryd.func9 (by kernel_rfl) rfl #[.agg #[.int .i64 a0_0, .int .i64 a0_1, .int .i64 a0_2, .int .i64 a0_3, .int .i64 a0_4, .int .i64 a0_5]] rfl (by (try simp only [List.map_toArray, List.map_cons, List.map_nil]); first | done | rfl | (simp only [List.length_drop, List.length_take]; rfl)) ?_; (with_reducible refine (laws_toDate.calls a0_0 a0_1 a0_2 a0_3 a0_4 a0_5 t102 t103 t104 t105 t106 t107 _ A2.out).mono ?_); rintro e w9 ⟨rfl, hb⟩; refine ⟨_, rfl, ?_⟩; have n0_ := Aside0.mk (blk_below (g := gb101) (o := .cells #[.int .i64 a0_0, .int .i64 a0_1, .int .i64 a0_2, .int .i64 a0_3, .int .i64 a0_4, .int .i64 a0_5] 23 (0, 0)) (by (with_reducible repeat (first | refine blk_drewN ?_ _ | refine blk_drew ?_ | refine blk_alloc ?_ _)); exact BK101.out) hb); have n1_ := Aside0.mk (below_step (by repeat (first | (with_reducible first | exact HB.out | apply below_alloc | apply pw_below_drewN | apply below_drew1 | refine below_set ?_ GE101.out) | exact HB.out)) hb); clear BK101; clear HB; have BK101 := n0_; have HB := n1_; clear n0_ n1_; (try clear hb); (try clear hb2); (try clear hk); (try clear hi)) | ((with_reducible refine gate_callee (f := 8) rfl ?_); refine goesL_ (some 7) rfl rfl Tryd.func8 (by kernel_rfl) rfl #[.agg #[.int .i64 t102, .int .i64 t103, .int .i64 t104, .int .i64 t105, .int .i64 t106, .int .i64 t107]] rfl (by (try simp only [List.map_toArray, List.map_cons, List.map_nil]); first | done | rfl | (simp only [List.length_drop, List.length_take]; rfl)) ?_; (with_reducible refine (spec_ShowDate.calls k t102 t103 t104 t105 t106 t107 t108 _ A3.out).mono ?_); rintro e w10 ⟨rfl, hb⟩; refine ⟨_, rfl, ?_⟩; have n0_ := Aside0.mk (blk_below (g := gb101) (o := .cells #[.int .i64 a0_0, .int .i64 a0_1, .int .i64 a0_2, .int .i64 a0_3, .int .i64 a0_4, .int .i64 a0_5] 23 (0, 0)) (by (with_reducible repeat (first | refine blk_drewN ?_ _ | refine blk_drew ?_ | refine blk_alloc ?_ _)); exact BK101.out) hb); have n1_ := Aside0.mk (below_step (by repeat (first | (with_reducible first | exact HB.out | apply below_alloc | apply pw_below_drewN | apply below_drew1 | refine below_set ?_ GE101.out) | exact HB.out)) hb); clear BK101; clear HB; have BK101 := n0_; have HB := n1_; clear n0_ n1_; (try clear hb); (try clear hb2); (try clear hk); (try clear hi); have hcz11_0 : w10.cell? ⟨gb101, 0, none⟩ = some (.int .i64 a0_0) := (blk_cell BK101.out 0).trans rfl; have hcz11_1 : w10.cell? ⟨gb101, 1, none⟩ = some (.int .i64 a0_1) := (blk_cell BK101.out 1).trans rfl; have hcz11_2 : w10.cell? ⟨gb101, 2, none⟩ = some (.int .i64 a0_2) := (blk_cell BK101.out 2).trans rfl; have hcz11_3 : w10.cell? ⟨gb101, 3, none⟩ = some (.int .i64 a0_3) := (blk_cell BK101.out 3).trans rfl; have hcz11_4 : w10.cell? ⟨gb101, 4, none⟩ = some (.int .i64 a0_4) := (blk_cell BK101.out 4).trans rfl; have hcz11_5 : w10.cell? ⟨gb101, 5, none⟩ = some (.int .i64 a0_5) := (blk_cell BK101.out 5).trans rfl; have hfz11_0 := blk_frozen BK101.out 0; have hfz11_1 := blk_frozen BK101.out 1; have hfz11_2 := blk_frozen BK101.out 2; have hfz11_3 := blk_frozen BK101.out 3; have hfz11_4 := blk_frozen BK101.out 4; have hfz11_5 := blk_frozen BK101.out 5) | ((with_reducible refine gate_callee (f := 9) rfl ?_); refine goesL_ (some 9) rfl rfl Tryd.func9 (by kernel_rfl) rfl #[.agg #[.int .i64 a0_0, .int .i64 a0_1, .int .i64 a0_2, .int .i64 a0_3, .int .i64 a0_4, .int .i64 a0_5]] rfl (by (try simp only [List.map_toArray, List.map_cons, List.map_nil]); first | done | rfl | (simp only [List.length_drop, List.length_take]; rfl)) ?_; (with_reducible refine (laws_toDate.calls a0_0 a0_1 a0_2 a0_3 a0_4 a0_5 t109 t110 t111 t112 t113 t114 _ A4.out).mono ?_); rintro e w12 ⟨rfl, hb⟩; refine ⟨_, rfl, ?_⟩; have n0_ := Aside0.mk (blk_below (g := gb101) (o := .cells #[.int .i64 a0_0, .int .i64 a0_1, .int .i64 a0_2, .int .i64 a0_3, .int .i64 a0_4, .int .i64 a0_5] 23 (0, 0)) (by (with_reducible repeat (first | refine blk_drewN ?_ _ | refine blk_drew ?_ | refine blk_alloc ?_ _)); exact BK101.out) hb); have n1_ := Aside0.mk (below_step (by repeat (first | (with_reducible first | exact HB.out | apply below_alloc | apply pw_below_drewN | apply below_drew1 | refine below_set ?_ GE101.out) | exact HB.out)) hb); clear BK101; clear HB; have BK101 := n0_; have HB := n1_; clear n0_ n1_; (try clear hb); (try clear hb2); (try clear hk); (try clear hi)) | ((with_reducible refine gate_callee (f := 10) rfl ?_); refine goesL_ (some 10) rfl rfl Tryd.func10 (by kernel_rfl) rfl #[.agg #[.int .i64 t109, .int .i64 t110, .int .i64 t111, .int .i64 t112, .int .i64 t113, .int .i64 t114]] rfl (by (try simp only [List.map_toArray, List.map_cons, List.map_nil]); first | done | rfl | (simp only [List.length_drop, List.length_take]; rfl)) ?_; (with_reducible refine (impl_ShowDate.calls k t109 t110 t111 t112 t113 t114 t115 _ ?side1 A5.out).mono ?_); (case side1 => exact XW.to (XW.stays hX (by repeat (first | (with_reducible first | exact HB.out | apply below_alloc | apply pw_below_drewN | apply below_drew1 | refine below_set ?_ GE101.out) | exact HB.out))) (by decide)); rintro e w13 ⟨rfl, hb⟩; refine ⟨_, rfl, ?_⟩; have n0_ := Aside0.mk (blk_below (g := gb101) (o := .cells #[.int .i64 a0_0, .int .i64 a0_1, .int .i64 a0_2, .int .i64 a0_3, .int .i64 a0_4, .int .i64 a0_5] 23 (0, 0)) (by (with_reducible repeat (first | refine blk_drewN ?_ _ | refine blk_drew ?_ | refine blk_alloc ?_ _)); exact BK101.out) hb); have n1_ := Aside0.mk (below_step (by repeat (first | (with_reducible first | exact HB.out | apply below_alloc | apply pw_below_drewN | apply below_drew1 | refine below_set ?_ GE101.out) | exact HB.out)) hb); clear BK101; clear HB; have BK101 := n0_; have HB := n1_; clear n0_ n1_; (try clear hb); (try clear hb2); (try clear hk); (try clear hi)))
  go_ret
  exact ⟨by first | rfl | (simp [errW_none, errW_some] <;> rfl) | (simp [*, errW_none, errW_some] <;> rfl), by repeat (first | (with_reducible first | exact HB.out | apply below_alloc | apply pw_below_drewN | apply below_drew1 | refine below_set ?_ GE101.out) | exact HB.out)⟩
 ·
  rw [if_neg c6] at H
  have c6b0 : (t115.toList == t108.toList) = false := beq_eq_false_iff_ne.mpr c6
  have c6b1 : (t115.toList != t108.toList) = true := bne_iff_ne.mpr c6
  obtain rfl := Option.some.inj H
  go_enter Tryd.func3, Tryd.ntmps3
  go_wp2_with (first | ((with_reducible refine gate_dst (N := 1) rfl ?_); refine box_event ?hg (N := 1) ?hd (cs := #[.int .i64 a0_0, .int .i64 a0_1, .int .i64 a0_2, .int .i64 a0_3, .int .i64 a0_4, .int .i64 a0_5]) (t := 23) ?hr ?_; (case hd => rfl); (case hg => rfl); (case hr => first | (go_simp; done) | (go_simp; rfl)); intro gb101 hg w14 hbox hb; have n0_ := Aside0.mk (below_step (by repeat (first | (with_reducible first | exact HB.out | apply below_alloc | apply pw_below_drewN | apply below_drew1) | exact HB.out)) hb); have n1_ := Aside0.mk (hbox); have n2_ := Aside0.mk ((by rw [hg]; exact (below_size (by repeat (first | (with_reducible first | exact HB.out | apply below_alloc | apply pw_below_drewN | apply below_drew1) | exact HB.out))) : w.heap.size ≤ gb101)); have n3_ := Aside0.mk ((by rw [hg]; exact (below_size (by repeat (first | (with_reducible first | exact HB.out | apply below_alloc | apply pw_below_drewN | apply below_drew1) | exact HB.out))) : w.heap.size ≤ gb101)); clear HB; have HB := n0_; have BK101 := n1_; have GW101 := n2_; have GE101 := n3_; clear n0_ n1_ n2_ n3_; clear hb hbox hg; have hcz15_0 : w14.cell? ⟨gb101, 0, none⟩ = some (.int .i64 a0_0) := (blk_cell BK101.out 0).trans rfl; have hcz15_1 : w14.cell? ⟨gb101, 1, none⟩ = some (.int .i64 a0_1) := (blk_cell BK101.out 1).trans rfl; have hcz15_2 : w14.cell? ⟨gb101, 2, none⟩ = some (.int .i64 a0_2) := (blk_cell BK101.out 2).trans rfl; have hcz15_3 : w14.cell? ⟨gb101, 3, none⟩ = some (.int .i64 a0_3) := (blk_cell BK101.out 3).trans rfl; have hcz15_4 : w14.cell? ⟨gb101, 4, none⟩ = some (.int .i64 a0_4) := (blk_cell BK101.out 4).trans rfl; have hcz15_5 : w14.cell? ⟨gb101, 5, none⟩ = some (.int .i64 a0_5) := (blk_cell BK101.out 5).trans rfl; have hfz15_0 := blk_frozen BK101.out 0; have hfz15_1 := blk_frozen BK101.out 1; have hfz15_2 := blk_frozen BK101.out 2; have hfz15_3 := blk_frozen BK101.out 3; have hfz15_4 := blk_frozen BK101.out 4; have hfz15_5 := blk_frozen BK101.out 5) | ((with_reducible refine gate_callee (f := 9) rfl ?_); refine goesL_ (some 6) rfl rfl Tryd.func9 (by kernel_rfl) rfl #[.agg #[.int .i64 a0_0, .int .i64 a0_1, .int .i64 a0_2, .int .i64 a0_3, .int .i64 a0_4, .int .i64 a0_5]] rfl (by (try simp only [List.map_toArray, List.map_cons, List.map_nil]); first | done | rfl | (simp only [List.length_drop, List.length_take]; rfl)) ?_; (with_reducible refine (laws_toDate.calls a0_0 a0_1 a0_2 a0_3 a0_4 a0_5 t102 t103 t104 t105 t106 t107 _ A2.out).mono ?_); rintro e w16 ⟨rfl, hb⟩; refine ⟨_, rfl, ?_⟩; have n0_ := Aside0.mk (blk_below (g := gb101) (o := .cells #[.int .i64 a0_0, .int .i64 a0_1, .int .i64 a0_2, .int .i64 a0_3, .int .i64 a0_4, .int .i64 a0_5] 23 (0, 0)) (by (with_reducible repeat (first | refine blk_drewN ?_ _ | refine blk_drew ?_ | refine blk_alloc ?_ _)); exact BK101.out) hb); have n1_ := Aside0.mk (below_step (by repeat (first | (with_reducible first | exact HB.out | apply below_alloc | apply pw_below_drewN | apply below_drew1 | refine below_set ?_ GE101.out) | exact HB.out)) hb); clear BK101; clear HB; have BK101 := n0_; have HB := n1_; clear n0_ n1_; (try clear hb); (try clear hb2); (try clear hk); (try clear hi)) | ((with_reducible refine gate_callee (f := 8) rfl ?_); refine goesL_ (some 7) rfl rfl Tryd.func8 (by kernel_rfl) rfl #[.agg #[.int .i64 t102, .int .i64 t103, .int .i64 t104, .int .i64 t105, .int .i64 t106, .int .i64 t107]] rfl (by (try simp only [List.map_toArray, List.map_cons, List.map_nil]); first | done | rfl | (simp only [List.length_drop, List.length_take]; rfl)) ?_; (with_reducible refine (spec_ShowDate.calls k t102 t103 t104 t105 t106 t107 t108 _ A3.out).mono ?_); rintro e w17 ⟨rfl, hb⟩; refine ⟨_, rfl, ?_⟩; have n0_ := Aside0.mk (blk_below (g := gb101) (o := .cells #[.int .i64 a0_0, .int .i64 a0_1, .int .i64 a0_2, .int .i64 a0_3, .int .i64 a0_4, .int .i64 a0_5] 23 (0, 0)) (by (with_reducible repeat (first | refine blk_drewN ?_ _ | refine blk_drew ?_ | refine blk_alloc ?_ _)); exact BK101.out) hb); have n1_ := Aside0.mk (below_step (by repeat (first | (with_reducible first | exact HB.out | apply below_alloc | apply pw_below_drewN | apply below_drew1 | refine below_set ?_ GE101.out) | exact HB.out)) hb); clear BK101; clear HB; have BK101 := n0_; have HB := n1_; clear n0_ n1_; (try clear hb); (try clear hb2); (try clear hk); (try clear hi); have hcz18_0 : w17.cell? ⟨gb101, 0, none⟩ = some (.int .i64 a0_0) := (blk_cell BK101.out 0).trans rfl; have hcz18_1 : w17.cell? ⟨gb101, 1, none⟩ = some (.int .i64 a0_1) := (blk_cell BK101.out 1).trans rfl; have hcz18_2 : w17.cell? ⟨gb101, 2, none⟩ = some (.int .i64 a0_2) := (blk_cell BK101.out 2).trans rfl; have hcz18_3 : w17.cell? ⟨gb101, 3, none⟩ = some (.int .i64 a0_3) := (blk_cell BK101.out 3).trans rfl; have hcz18_4 : w17.cell? ⟨gb101, 4, none⟩ = some (.int .i64 a0_4) := (blk_cell BK101.out 4).trans rfl; have hcz18_5 : w17.cell? ⟨gb101, 5, none⟩ = some (.int .i64 a0_5) := (blk_cell BK101.out 5).trans rfl; have hfz18_0 := blk_frozen BK101.out 0; have hfz18_1 := blk_frozen BK101.out 1; have hfz18_2 := blk_frozen BK101.out 2; have hfz18_3 := blk_frozen BK101.out 3; have hfz18_4 := blk_frozen BK101.out 4; have hfz18_5 := blk_frozen BK101.out 5) | ((with_reducible refine gate_callee (f := 9) rfl ?_); refine goesL_ (some 9) rfl rfl Tryd.func9 (by kernel_rfl) rfl #[.agg #[.int .i64 a0_0, .int .i64 a0_1, .int .i64 a0_2, .int .i64 a0_3, .int .i64 a0_4, .int .i64 a0_5]] rfl (by (try simp only [List.map_toArray, List.map_cons, List.map_nil]); first | done | rfl | (simp only [List.length_drop, List.length_take]; rfl)) ?_; (with_reducible refine (laws_toDate.calls a0_0 a0_1 a0_2 a0_3 a0_4 a0_5 t109 t110 t111 t112 t113 t114 _ A4.out).mono ?_); rintro e w19 ⟨rfl, hb⟩; refine ⟨_, rfl, ?_⟩; have n0_ := Aside0.mk (blk_below (g := gb101) (o := .cells #[.int .i64 a0_0, .int .i64 a0_1, .int .i64 a0_2, .int .i64 a0_3, .int .i64 a0_4, .int .i64 a0_5] 23 (0, 0)) (by (with_reducible repeat (first | refine blk_drewN ?_ _ | refine blk_drew ?_ | refine blk_alloc ?_ _)); exact BK101.out) hb); have n1_ := Aside0.mk (below_step (by repeat (first | (with_reducible first | exact HB.out | apply below_alloc | apply pw_below_drewN | apply below_drew1 | refine below_set ?_ GE101.out) | exact HB.out)) hb); clear BK101; clear HB; have BK101 := n0_; have HB := n1_; clear n0_ n1_; (try clear hb); (try clear hb2); (try clear hk); (try clear hi)) | ((with_reducible refine gate_callee (f := 10) rfl ?_); refine goesL_ (some 10) rfl rfl Tryd.func10 (by kernel_rfl) rfl #[.agg #[.int .i64 t109, .int .i64 t110, .int .i64 t111, .int .i64 t112, .int .i64 t113, .int .i64 t114]] rfl (by (try simp only [List.map_toArray, List.map_cons, List.map_nil]); first | done | rfl | (simp only [List.length_drop, List.length_take]; rfl)) ?_; (with_reducible refine (impl_ShowDate.calls k t109 t110 t111 t112 t113 t114 t115 _ ?side1 A5.out).mono ?_); (case side1 => exact XW.to (XW.stays hX (by repeat (first | (with_reducible first | exact HB.out | apply below_alloc | apply pw_below_drewN | apply below_drew1 | refine below_set ?_ GE101.out) | exact HB.out))) (by decide)); rintro e w20 ⟨rfl, hb⟩; refine ⟨_, rfl, ?_⟩; have n0_ := Aside0.mk (blk_below (g := gb101) (o := .cells #[.int .i64 a0_0, .int .i64 a0_1, .int .i64 a0_2, .int .i64 a0_3, .int .i64 a0_4, .int .i64 a0_5] 23 (0, 0)) (by (with_reducible repeat (first | refine blk_drewN ?_ _ | refine blk_drew ?_ | refine blk_alloc ?_ _)); exact BK101.out) hb); have n1_ := Aside0.mk (below_step (by repeat (first | (with_reducible first | exact HB.out | apply below_alloc | apply pw_below_drewN | apply below_drew1 | refine below_set ?_ GE101.out) | exact HB.out)) hb); clear BK101; clear HB; have BK101 := n0_; have HB := n1_; clear n0_ n1_; (try clear hb); (try clear hb2); (try clear hk); (try clear hi)))
  go_ret
  exact ⟨by first | rfl | (simp [errW_none, errW_some] <;> rfl) | (simp [*, errW_none, errW_some] <;> rfl), by repeat (first | (with_reducible first | exact HB.out | apply below_alloc | apply pw_below_drewN | apply below_drew1 | refine below_set ?_ GE101.out) | exact HB.out)⟩

/-- THE ONE PURE STATEMENT of laws_FnExactShowDate. -/
def laws_FnExactShowDate.Pure : Prop := ∀ (a0_0 : Int) (a0_1 : Int) (a0_2 : Int) (a0_3 : Int) (a0_4 : Int) (a0_5 : Int), (Lit.int .i64 a0_0).wf = true → (Lit.int .i64 a0_1).wf = true → (Lit.int .i64 a0_2).wf = true → (Lit.int .i64 a0_3).wf = true → (Lit.int .i64 a0_4).wf = true → (Lit.int .i64 a0_5).wf = true → ∃ k, laws_FnExactShowDate.f k a0_0 a0_1 a0_2 a0_3 a0_4 a0_5 = some true
theorem laws_FnExactShowDate.walk (P : laws_FnExactShowDate.Pure) (a0_0 : Int) (a0_1 : Int) (a0_2 : Int) (a0_3 : Int) (a0_4 : Int) (a0_5 : Int) (w : World) (hX : XW 6 w) (w0_0 : (Lit.int .i64 a0_0).wf = true) (w0_1 : (Lit.int .i64 a0_1).wf = true) (w0_2 : (Lit.int .i64 a0_2).wf = true) (w0_3 : (Lit.int .i64 a0_3).wf = true) (w0_4 : (Lit.int .i64 a0_4).wf = true) (w0_5 : (Lit.int .i64 a0_5).wf = true) :
  Calls Tryd.prog 3 #[.agg #[.int .i64 a0_0, .int .i64 a0_1, .int .i64 a0_2, .int .i64 a0_3, .int .i64 a0_4, .int .i64 a0_5]] w fun e w' => e = .returned (.bool true) ∧ Below w.heap.size w w' := by
 obtain ⟨k, h⟩ := P a0_0 a0_1 a0_2 a0_3 a0_4 a0_5 w0_0 w0_1 w0_2 w0_3 w0_4 w0_5
 refine (laws_FnExactShowDate.calls k a0_0 a0_1 a0_2 a0_3 a0_4 a0_5 true w hX h).mono ?_
 rintro e w' ⟨rfl, hd⟩
 exact ⟨rfl, hd⟩
end Go.Proofs.YtpolkndhjcdheaaDoor.P
namespace Go.Proofs.YtpolkndhjcdheaaDoor.Q
open Go.RowKit Go.Proofs.YtpolkndhjcdheaaDoorW.PrintWords Go.Proofs.YtpolkndhjcdheaaDoorW.PrintLast Go.Proofs.YtpolkndhjcdheaaDoorW.PrintMore

theorem wrap_in {i : Int} (h0 : -9223372036854775808 ≤ i) (h1 : i ≤ 9223372036854775807) : wrap64 i = i := by unfold wrap64; omega
theorem wrap_next {i : Nat} {n : Nat} (h : i < n) (hn : n ≤ 4611686018427387904) : wrap64 ((i : Int) + 1) = ((i + 1 : Nat) : Int) := by unfold wrap64; omega

theorem toList_data (s : ByteArray) : s.toList = s.data.toList := ByteArray.toList_eq s
theorem eq_of_toList {a b : ByteArray} (h : a.toList = b.toList) : a = b := by
  rw [toList_data, toList_data] at h
  exact ByteArray.ext (Array.toList_inj.1 h)
theorem bt_get (s : ByteArray) (i : Nat) (h : i < s.size) : (bytesOf s)[i]? = some (bt s i) := by
  rw [← rd_bytesOf]
  have h1 : i < (bytesOf s).length := by rw [bytesOf_length]; exact h
  simp [rd, List.getD_eq_getElem?_getD, List.getElem?_eq_getElem h1]
theorem drop_bt (s : ByteArray) (i : Nat) (h : i < s.size) : (bytesOf s).drop i = bt s i :: (bytesOf s).drop (i + 1) := by
  have h1 : i < (bytesOf s).length := by rw [bytesOf_length]; exact h
  rw [List.drop_eq_getElem_cons h1]
  have := bt_get s i h
  rw [List.getElem?_eq_getElem h1] at this
  rw [Option.some.inj this]
theorem mem_bytes {s : ByteArray} {c : Int} (h : c ∈ bytesOf s) : 0 ≤ c ∧ c ≤ 255 := by
  unfold bytesOf at h
  obtain ⟨b, _, rfl⟩ := List.mem_map.1 h
  have := b.toNat_lt
  omega
theorem bytes_nums (l : List Int) (h : ∀ c ∈ l, 0 ≤ c ∧ c ≤ 255) : bytesOf (strOfNums l) = l := by
  unfold bytesOf
  rw [strOfNums_data, List.map_map]
  refine (List.map_congr_left fun c hc => ?_).trans (List.map_id l)
  have := h c hc
  simp only [Function.comp, UInt8.toNat_ofNat', id]
  omega
theorem nums_bytes (s : ByteArray) : strOfNums (bytesOf s) = s := by
  apply ByteArray.ext
  apply Array.toList_inj.1
  rw [strOfNums_data]
  unfold bytesOf
  rw [List.map_map]
  refine (List.map_congr_left fun c hc => ?_).trans (List.map_id _)
  simp
theorem bytes_inj {a b : ByteArray} (h : bytesOf a = bytesOf b) : a = b := by rw [← nums_bytes a, ← nums_bytes b, h]
theorem bytes_append (a b : ByteArray) : bytesOf (a ++ b) = bytesOf a ++ bytesOf b := by
  unfold bytesOf
  rw [← List.map_append]
  simp [ByteArray.data_append]

/-- A loop over bytes: what a round does with its state and a byte; an end ahead of time. -/
def runL {σ β : Type} (f : σ → Int → σ ⊕ β) (fin : σ → β) : List Int → σ → β
  | [], st => fin st
  | c :: cs, st => match f st c with
    | .inl st' => runL f fin cs st'
    | .inr b => b
/-- The printed loop comes to what 'runL' comes to, from some number of rounds on. -/
theorem ev_run {σ β : Type} (s : ByteArray) (I : σ → Nat → Prop) (f : σ → Int → σ ⊕ β) (fin : σ → β) (g : Nat → σ → Int → Option β) (K : Nat)
    (hstep : ∀ k st (i : Nat), K ≤ k → i < s.size → I st i → (∀ st', f st (bt s i) = .inl st' → g (k + 1) st i = g k st' ((i + 1 : Nat) : Int) ∧ I st' (i + 1)) ∧ (∀ b, f st (bt s i) = .inr b → g (k + 1) st i = some b))
    (hend : ∀ k st, K ≤ k → I st s.size → g (k + 1) st (s.size : Int) = some (fin st)) (st : σ) (h0 : I st 0) :
    Ev (fun k => g k st 0) (runL f fin (bytesOf s) st) := by
  have key : ∀ (d i : Nat) (st : σ), i + d = s.size → I st i → ∀ k, K + d < k → g k st (i : Int) = some (runL f fin ((bytesOf s).drop i) st) := by
    intro d
    induction d with
    | zero =>
      intro i st hd hI k hk
      obtain ⟨k, rfl⟩ : ∃ m, k = m + 1 := ⟨k - 1, by omega⟩
      have e : i = s.size := by omega
      subst e
      rw [hend k st (by omega) hI, List.drop_of_length_le (by rw [bytesOf_length]; exact Nat.le_refl _)]
      rfl
    | succ d ih =>
      intro i st hd hI k hk
      obtain ⟨k, rfl⟩ : ∃ m, k = m + 1 := ⟨k - 1, by omega⟩
      obtain ⟨h1, h2⟩ := hstep k st i (by omega) (by omega) hI
      rw [drop_bt s i (by omega)]
      show g (k + 1) st i = some (match f st (bt s i) with | .inl st' => runL f fin ((bytesOf s).drop (i + 1)) st' | .inr b => b)
      cases hf : f st (bt s i) with
      | inl st' =>
        obtain ⟨e, hI'⟩ := h1 st' hf
        rw [e]
        exact ih (i + 1) st' (by omega) hI' k (by omega)
      | inr b => exact h2 b hf
  refine ⟨K + s.size + 1, fun k hk => ?_⟩
  have := key s.size 0 st (by omega) h0 k (by omega)
  rw [List.drop_zero] at this
  exact this

/-- A loop that asks each byte. -/
theorem ev_all (s : ByteArray) (p : Int → Bool) (g : Nat → Int → Option Bool) (K : Nat)
    (h1 : ∀ k (i : Nat), K ≤ k → i < s.size → p (bt s i) = true → g (k + 1) i = g k ((i + 1 : Nat) : Int))
    (h0 : ∀ k (i : Nat), K ≤ k → i < s.size → p (bt s i) = false → g (k + 1) i = some false)
    (he : ∀ k, K ≤ k → g (k + 1) (s.size : Int) = some true) : Ev (fun k => g k 0) ((bytesOf s).all p) := by
  have h := ev_run (σ := Unit) (β := Bool) s (fun _ _ => True) (fun _ c => if p c = true then .inl () else .inr false) (fun _ => true) (fun k _ i => g k i) K
    (fun k st i hk hi _ => ⟨fun st' e => ⟨h1 k i hk hi (by
        by_cases hp : p (bt s i) = true
        · exact hp
        · rw [if_neg hp] at e; cases e), trivial⟩, fun b e => by
        by_cases hp : p (bt s i) = true
        · rw [if_pos hp] at e; cases e
        · rw [if_neg hp] at e
          obtain rfl : false = b := by injection e
          exact h0 k i hk hi (by simpa using hp)⟩)
    (fun k st hk _ => he k hk) () trivial
  have e : ∀ l : List Int, runL (σ := Unit) (β := Bool) (fun _ c => if p c = true then .inl () else .inr false) (fun _ => true) l () = l.all p := by
    intro l
    induction l with
    | nil => rfl
    | cons c cs ih =>
      rw [List.all_cons]
      unfold runL
      by_cases hp : p c = true
      · simp only [hp, if_true, Bool.true_and]; exact ih
      · simp only [(by simpa using hp : p c = false), Bool.false_and, Bool.false_eq_true, if_false]
  rw [e] at h
  exact h
theorem runL_all {β : Type} (p : Int → Bool) (r b : β) (l : List Int) : runL (σ := Unit) (fun _ c => if p c = true then .inl () else .inr b) (fun _ => r) l () = if l.all p = true then r else b := by
  induction l with
  | nil => rfl
  | cons c cs ih =>
    rw [List.all_cons]
    unfold runL
    by_cases hp : p c = true
    · simp only [hp, if_true, Bool.true_and]; exact ih
    · simp only [(by simpa using hp : p c = false), Bool.false_and, Bool.false_eq_true, if_false]
/-- A loop that asks each byte, and goes on behind it. -/
theorem ev_allr {β : Type} (s : ByteArray) (p : Int → Bool) (r b : β) (g : Nat → Int → Option β) (K : Nat)
    (h1 : ∀ k (i : Nat), K ≤ k → i < s.size → p (bt s i) = true → g (k + 1) i = g k ((i + 1 : Nat) : Int))
    (h0 : ∀ k (i : Nat), K ≤ k → i < s.size → p (bt s i) = false → g (k + 1) i = some b)
    (he : ∀ k, K ≤ k → g (k + 1) (s.size : Int) = some r) : Ev (fun k => g k 0) (if (bytesOf s).all p = true then r else b) := by
  rw [← runL_all p r b (bytesOf s)]
  refine ev_run (σ := Unit) s (fun _ _ => True) (fun _ c => if p c = true then .inl () else .inr b) (fun _ => r) (fun k _ i => g k i) K
    (fun k st i hk hi _ => ⟨fun st' e => ⟨h1 k i hk hi (by
        by_cases hp : p (bt s i) = true
        · exact hp
        · rw [if_neg hp] at e; cases e), trivial⟩, fun b' e => by
        by_cases hp : p (bt s i) = true
        · rw [if_pos hp] at e; cases e
        · rw [if_neg hp] at e
          obtain rfl : b = b' := by injection e
          exact h0 k i hk hi (by simpa using hp)⟩)
    (fun k st hk _ => he k hk) () trivial
/-- A loop that puts something behind a list for each byte. -/
theorem runL_flat {β : Type} (f : Int → List Int) (fin : List Int → β) (l st : List Int) : runL (fun st c => .inl (st ++ f c)) fin l st = fin (st ++ l.flatMap f) := by
  induction l generalizing st with
  | nil => simp [runL]
  | cons c cs ih =>
    unfold runL
    simp only [ih, List.flatMap_cons, List.append_assoc]
theorem ev_const {α : Type} {x : Option α} {r : α} (h : x = some r) : Ev (fun _ => x) r := ⟨0, fun _ _ => h⟩
theorem ev_eq {α : Type} {g : Nat → Option α} {r r' : α} (h : Ev g r) (e : r = r') : Ev g r' := e ▸ h
/-- From a number of rounds on: a law that holds at each such number. -/
theorem ev_now {α : Type} {g : Nat → Option α} {r : α} (K : Nat) (h : ∀ k, K ≤ k → g k = some r) : Ev g r := ⟨K, h⟩
theorem all_congr' {l : List Int} {p q : Int → Bool} (h : ∀ c ∈ l, p c = q c) : l.all p = l.all q := by
  induction l with
  | nil => rfl
  | cons a l ih =>
    rw [List.all_cons, List.all_cons, h a List.mem_cons_self, ih fun c hc => h c (List.mem_cons_of_mem _ hc)]
end Go.Proofs.YtpolkndhjcdheaaDoor.Q
namespace Go.Proofs.YtpolkndhjcdheaaDoor.Q
set_option linter.unusedVariables false
set_option linter.unusedSimpArgs false
open Go.RowKit Go.Proofs.YtpolkndhjcdheaaDoor.P Go.Proofs.YtpolkndhjcdheaaDoorW.PrintWords Go.Proofs.YtpolkndhjcdheaaDoorW.PrintLast Go.Proofs.YtpolkndhjcdheaaDoorW.PrintMore

theorem bytes_extract (s : ByteArray) (a b : Nat) : bytesOf (s.extract a b) = ((bytesOf s).drop a).take (b - a) := by
  unfold bytesOf
  rw [Lib.extract_data, List.map_take, List.map_drop]
theorem bytes_last (s : ByteArray) (h : 0 < s.size) : bytesOf s = bytesOf (s.extract 0 (s.size - 1)) ++ [bt s ((s.size - 1 : Nat) : Int)] := by
  rw [bytes_extract, List.drop_zero, Nat.sub_zero]
  have h1 := drop_bt s (s.size - 1) (by omega)
  have h2 : (bytesOf s).drop (s.size - 1 + 1) = [] := List.drop_of_length_le (by rw [bytesOf_length]; omega)
  rw [h2] at h1
  rw [← h1, List.take_append_drop]
theorem bytes_first (s : ByteArray) (h : 0 < s.size) : bytesOf s = bt s 0 :: bytesOf (s.extract 1 s.size) := by
  rw [bytes_extract]
  have h1 := drop_bt s 0 h
  rw [List.drop_zero] at h1
  rw [List.take_of_length_le (by rw [List.length_drop, bytesOf_length]; exact Nat.le_refl _)]
  exact h1
theorem size_extract (s : ByteArray) (a b : Nat) (hb : b ≤ s.size) : (s.extract a b).size = b - a := by
  rw [← bytesOf_length, bytes_extract, List.length_take, List.length_drop, bytesOf_length]
  omega
theorem toList_nil (s : ByteArray) : s.toList = [] ↔ s.size = 0 := by
  rw [toList_data, ← data_length]
  exact List.length_eq_zero_iff.symm
theorem bytes_nil (s : ByteArray) (h : s.size = 0) : bytesOf s = [] := List.eq_nil_of_length_eq_zero (by rw [bytesOf_length]; exact h)
theorem bytes_ofList (l : List UInt8) : bytesOf ⟨l.toArray⟩ = l.map fun b => (b.toNat : Int) := by
  unfold bytesOf
  rfl
theorem bytes_two (s : ByteArray) (i : Nat) (h : i + 2 ≤ s.size) : bytesOf (s.extract i (i + 2)) = [bt s (i : Int), bt s ((i + 1 : Nat) : Int)] := by
  rw [bytes_extract, drop_bt s i (by omega), drop_bt s (i + 1) (by omega), show i + 2 - i = 2 from by omega]
  rfl
def inB (x a b : Int) : Bool := decide (a ≤ x) && decide (x ≤ b)
theorem spec_l1In_is (x a b : Int) : spec_l1In.f x a b = some (inB x a b) := by
  unfold spec_l1In.f inB
  by_cases h : x ≥ a
  · rw [if_pos h, decide_eq_true (by omega : a ≤ x), Bool.true_and]
  · rw [if_neg h, decide_eq_false (by omega : ¬ a ≤ x), Bool.false_and]
theorem impl_within_is (x a b : Int) : impl_within.f x a b = some (inB x a b) := by
  unfold impl_within.f inB
  by_cases h : x ≥ a
  · rw [if_pos h, decide_eq_true (by omega : a ≤ x), Bool.true_and]
  · rw [if_neg h, decide_eq_false (by omega : ¬ a ≤ x), Bool.false_and]
theorem inB_true {x a b : Int} (h : inB x a b = true) : a ≤ x ∧ x ≤ b := by unfold inB at h; simpa using h
def leapB (y : Int) : Bool := if Int.tmod y 4 = 0 then (if Int.tmod y 100 = 0 then Int.tmod y 400 == 0 else true) else Int.tmod y 400 == 0
theorem spec_Leap_is (y : Int) : spec_Leap.f y = some (leapB y) := by
  unfold spec_Leap.f leapB
  split
  · split <;> rfl
  · rfl
theorem impl_Leap_is (y : Int) : impl_Leap.f y = some (leapB y) := spec_Leap_is y
/-- How many days a month has. -/
def monthDays (y m : Int) : Int := if m = 2 then (if leapB y = true then 29 else 28) else if m = 4 ∨ m = 6 ∨ m = 9 ∨ m = 11 then 30 else 31
theorem monthDays_range (y m : Int) : 28 ≤ monthDays y m ∧ monthDays y m ≤ 31 := by
  unfold monthDays
  split
  · split <;> omega
  · split <;> omega
theorem spec_l2Month_is (y m : Int) (h0 : 1 ≤ m) (h1 : m ≤ 12) : spec_l2Month.f y m = some (monthDays y m) := by
  unfold spec_l2Month.f monthDays
  rw [spec_Leap_is]
  have hm : m = 1 ∨ m = 2 ∨ m = 3 ∨ m = 4 ∨ m = 5 ∨ m = 6 ∨ m = 7 ∨ m = 8 ∨ m = 9 ∨ m = 10 ∨ m = 11 ∨ m = 12 := by omega
  rcases hm with rfl | rfl | rfl | rfl | rfl | rfl | rfl | rfl | rfl | rfl | rfl | rfl
  all_goals
    clear h0 h1
    generalize leapB y = b
    cases b <;> decide +kernel
theorem impl_daysIn_is (y m : Int) (k : Nat) (hk : 1 ≤ k) : impl_daysIn.f k y m = some (monthDays y m) := by
  obtain ⟨k, rfl⟩ : ∃ n, k = n + 1 := ⟨k - 1, by omega⟩
  unfold impl_daysIn.f monthDays
  simp only [impl_daysIn.j0, impl_Leap_is, Option.bind_some]
  by_cases h4 : m = 4
  · subst h4; simp
  · rw [if_neg h4]
    by_cases h6 : m = 6
    · subst h6; simp
    · rw [if_neg h6]
      by_cases h9 : m = 9
      · subst h9; simp
      · rw [if_neg h9]
        by_cases h11 : m = 11
        · subst h11; simp
        · have hb : (m == 11) = false := by simpa using h11
          by_cases h2 : m = 2
          · subst h2
            cases leapB y <;> simp
          · simp [hb, h2, h4, h6, h9, h11]
def dateOk (y m d h n s : Int) : Bool := inB y 1970 9999 && (inB m 1 12 && (inB d 1 (monthDays y m) && (inB h 0 23 && (inB n 0 59 && inB s 0 59))))
theorem spec_DateOk_is (y m d h n s : Int) : spec_DateOk.f y m d h n s = some (dateOk y m d h n s) := by
  unfold spec_DateOk.f dateOk
  simp only [spec_l1In_is, Option.bind_some]
  cases h1 : inB y 1970 9999
  · simp
  · cases h2 : inB m 1 12
    · simp
    · obtain ⟨a, b⟩ := inB_true h2
      simp only [if_true, spec_l2Month_is y m a b, Option.bind_some, Bool.true_and]
      cases inB d 1 (monthDays y m) <;> cases inB h 0 23 <;> cases inB n 0 59 <;> simp
theorem impl_DateOk_is (y m d h n s : Int) (k : Nat) (hk : 1 ≤ k) : impl_DateOk.f k y m d h n s = some (dateOk y m d h n s) := by
  unfold impl_DateOk.f dateOk
  simp only [impl_within_is, impl_daysIn_is y m k hk, Option.bind_some]
  cases h1 : inB y 1970 9999
  · simp
  · cases h2 : inB m 1 12
    · simp
    · cases inB d 1 (monthDays y m) <;> cases inB h 0 23 <;> cases inB n 0 59 <;> simp
/-- The days ahead of a year. -/
def yearD (y : Int) : Int := 365 * (y - 1970) + (y - 1) / 4 - (y - 1) / 100 + (y - 1) / 400 - 477
def leapN (y : Int) : Int := if leapB y = true then 1 else 0
theorem leapB_iff (y : Int) (h : 0 ≤ y) : leapB y = true ↔ (y % 4 = 0 ∧ y % 100 ≠ 0) ∨ y % 400 = 0 := by
  unfold leapB
  rw [Int.tmod_eq_emod_of_nonneg h, Int.tmod_eq_emod_of_nonneg h, Int.tmod_eq_emod_of_nonneg h]
  by_cases h4 : y % 4 = 0
  · rw [if_pos h4]
    by_cases h1 : y % 100 = 0
    · rw [if_pos h1]; simp; omega
    · rw [if_neg h1]; simp; omega
  · rw [if_neg h4]; simp; omega
theorem yearD_next (y : Int) (h : 0 ≤ y) : yearD (y + 1) = yearD y + 365 + leapN y := by
  unfold yearD leapN
  by_cases hl : leapB y = true
  · rw [if_pos hl]
    have := (leapB_iff y h).1 hl
    omega
  · rw [if_neg hl]
    have : ¬ ((y % 4 = 0 ∧ y % 100 ≠ 0) ∨ y % 400 = 0) := fun h' => hl ((leapB_iff y h).2 h')
    omega
theorem leapN_range (y : Int) : 0 ≤ leapN y ∧ leapN y ≤ 1 := by unfold leapN; split <;> omega
theorem yearD_range (y : Int) (h0 : 1970 ≤ y) (h1 : y ≤ 10000) : 0 ≤ yearD y ∧ yearD y ≤ 2932897 := by unfold yearD; omega
theorem yearD_mono (y : Int) (n : Nat) (h : 0 ≤ y) : yearD y + 365 * n ≤ yearD (y + n) := by
  induction n with
  | zero => simp
  | succ n ih =>
    have h1 := yearD_next (y + n) (by omega)
    have h2 := leapN_range (y + n)
    rw [show y + ((n + 1 : Nat) : Int) = y + n + 1 from by omega]
    omega
theorem yearD_lt (y z : Int) (h : 0 ≤ y) (hz : y < z) : yearD (y + 1) ≤ yearD z := by
  have := yearD_mono (y + 1) (z - (y + 1)).toNat (by omega)
  rw [show y + 1 + ((z - (y + 1)).toNat : Int) = z from by omega] at this
  omega
/-- The days of a year ahead of a month. -/
def monthD (y : Int) : Nat → Int
  | 0 => 0
  | m + 1 => if m = 0 then 0 else monthD y m + monthDays y m
theorem monthD_one (y : Int) : monthD y 1 = 0 := rfl
theorem monthD_next (y : Int) (m : Nat) (h : 1 ≤ m) : monthD y (m + 1) = monthD y m + monthDays y m := by
  show (if m = 0 then 0 else monthD y m + monthDays y m) = _
  rw [if_neg (by omega)]
theorem monthD_mono (y : Int) (m n : Nat) (h : 1 ≤ m) : monthD y m + 28 * n ≤ monthD y (m + n) := by
  induction n with
  | zero => simp
  | succ n ih =>
    have h1 := monthD_next y (m + n) (by omega)
    have h2 := monthDays_range y ((m + n : Nat) : Int)
    rw [show m + (n + 1) = m + n + 1 from by omega]
    omega
theorem monthD_lt (y : Int) (m n : Nat) (h : 1 ≤ m) (hn : m < n) : monthD y (m + 1) ≤ monthD y n := by
  have := monthD_mono y (m + 1) (n - (m + 1)) (by omega)
  rw [show m + 1 + (n - (m + 1)) = n from by omega] at this
  omega
theorem monthD_all (y : Int) : monthD y 13 = 365 + leapN y := by
  simp only [monthD_next y _ (by omega : 1 ≤ 12), monthD_next y _ (by omega : 1 ≤ 11), monthD_next y _ (by omega : 1 ≤ 10), monthD_next y _ (by omega : 1 ≤ 9), monthD_next y _ (by omega : 1 ≤ 8), monthD_next y _ (by omega : 1 ≤ 7), monthD_next y _ (by omega : 1 ≤ 6), monthD_next y _ (by omega : 1 ≤ 5), monthD_next y _ (by omega : 1 ≤ 4), monthD_next y _ (by omega : 1 ≤ 3), monthD_next y _ (by omega : 1 ≤ 2), monthD_next y _ (by omega : 1 ≤ 1), monthD_one]
  unfold leapN monthDays
  cases leapB y <;> simp
theorem monthD_range (y : Int) (m : Nat) (h0 : 1 ≤ m) (h1 : m ≤ 13) : 0 ≤ monthD y m ∧ monthD y m ≤ 366 := by
  have a := monthD_mono y 1 (m - 1) (Nat.le_refl _)
  have b := monthD_mono y m (13 - m) h0
  rw [show 1 + (m - 1) = m from by omega, monthD_one] at a
  rw [show m + (13 - m) = 13 from by omega, monthD_all] at b
  have := leapN_range y
  omega
/-- The days ahead of a date, its moment. -/
def dayN (y m d : Int) : Int := yearD y + monthD y m.toNat + d - 1
def momentN (y m d h n s : Int) : Int := dayN y m d * 86400 + h * 3600 + n * 60 + s
structure Good (y m d h n s : Int) : Prop where
  y0 : 1970 ≤ y
  y1 : y ≤ 9999
  m0 : 1 ≤ m
  m1 : m ≤ 12
  d0 : 1 ≤ d
  d1 : d ≤ monthDays y m
  h0 : 0 ≤ h
  h1 : h ≤ 23
  n0 : 0 ≤ n
  n1 : n ≤ 59
  s0 : 0 ≤ s
  s1 : s ≤ 59
theorem good_iff (y m d h n s : Int) : dateOk y m d h n s = true ↔ Good y m d h n s := by
  unfold dateOk inB
  simp only [Bool.and_eq_true, decide_eq_true_eq]
  constructor
  · rintro ⟨⟨a, b⟩, ⟨c, d⟩, ⟨e, f⟩, ⟨g, h⟩, ⟨i, j⟩, k, l⟩
    exact ⟨a, b, c, d, e, f, g, h, i, j, k, l⟩
  · intro g
    exact ⟨⟨g.y0, g.y1⟩, ⟨g.m0, g.m1⟩, ⟨g.d0, g.d1⟩, ⟨g.h0, g.h1⟩, ⟨g.n0, g.n1⟩, g.s0, g.s1⟩
/-- A day of a year lies within it, a day of a month within that. -/
theorem day_in {y m d : Int} (hm0 : 1 ≤ m) (hm1 : m ≤ 12) (hd0 : 1 ≤ d) (hd1 : d ≤ monthDays y m) : 0 ≤ monthD y m.toNat + d - 1 ∧ monthD y m.toNat + d - 1 < monthD y (m.toNat + 1) ∧ monthD y (m.toNat + 1) ≤ 365 + leapN y := by
  have h1 := monthD_next y m.toNat (by omega)
  rw [show ((m.toNat : Nat) : Int) = m from by omega] at h1
  have h2 := monthD_range y m.toNat (by omega) (by omega)
  have h3 := monthD_mono y (m.toNat + 1) (12 - m.toNat) (by omega)
  rw [show m.toNat + 1 + (12 - m.toNat) = 13 from by omega, monthD_all] at h3
  omega
theorem dayN_in {y m d : Int} (hy : 0 ≤ y) (hm0 : 1 ≤ m) (hm1 : m ≤ 12) (hd0 : 1 ≤ d) (hd1 : d ≤ monthDays y m) : yearD y ≤ dayN y m d ∧ dayN y m d < yearD (y + 1) := by
  have := day_in hm0 hm1 hd0 hd1
  have h2 := yearD_next y hy
  unfold dayN
  omega
theorem dayN_range {y m d h n s : Int} (g : Good y m d h n s) : 0 ≤ dayN y m d ∧ dayN y m d ≤ 2932896 := by
  have h1 := dayN_in (by have := g.y0; omega) g.m0 g.m1 g.d0 g.d1
  have h2 := yearD_range y g.y0 (by have := g.y1; omega)
  have h3 := yearD_range (y + 1) (by have := g.y0; omega) (by have := g.y1; omega)
  omega
theorem momentN_range {y m d h n s : Int} (g : Good y m d h n s) : 0 ≤ momentN y m d h n s ∧ momentN y m d h n s ≤ 253402300799 := by
  have h1 := dayN_range g
  have := g.h0; have := g.h1; have := g.n0; have := g.n1; have := g.s0; have := g.s1
  unfold momentN
  omega
/-- Each day has its year .. -/
theorem year_of (L : Int) (h0 : 0 ≤ L) (h1 : L ≤ 2932896) : ∃ y, 1970 ≤ y ∧ y ≤ 9999 ∧ yearD y ≤ L ∧ L < yearD (y + 1) := by
  have key : ∀ n : Nat, n ≤ 8030 → L < yearD (1970 + (n : Int)) → ∃ y : Int, 1970 ≤ y ∧ y < 1970 + (n : Int) ∧ yearD y ≤ L ∧ L < yearD (y + 1) := by
    intro n
    induction n with
    | zero =>
      intro _ h
      exfalso
      have e : yearD (1970 + ((0 : Nat) : Int)) = 0 := by decide
      omega
    | succ n ih =>
      intro hn h
      by_cases hl : L < yearD (1970 + (n : Int))
      · obtain ⟨y, a, b, c, d⟩ := ih (by omega) hl
        exact ⟨y, a, by omega, c, d⟩
      · exact ⟨1970 + (n : Int), by omega, by omega, by omega, by rw [show (1970 : Int) + n + 1 = 1970 + ((n + 1 : Nat) : Int) from by omega]; exact h⟩
  have e : yearD (1970 + ((8030 : Nat) : Int)) = 2932897 := by decide
  obtain ⟨y, a, b, c, d⟩ := key 8030 (Nat.le_refl _) (by omega)
  exact ⟨y, a, by omega, c, d⟩
/-- .. and its month. -/
theorem month_of (y r : Int) (h0 : 0 ≤ r) (h1 : r < 365 + leapN y) : ∃ m : Nat, 1 ≤ m ∧ m ≤ 12 ∧ monthD y m ≤ r ∧ r < monthD y (m + 1) := by
  have key : ∀ n : Nat, n ≤ 12 → r < monthD y (1 + n) → ∃ m : Nat, 1 ≤ m ∧ m < 1 + n ∧ monthD y m ≤ r ∧ r < monthD y (m + 1) := by
    intro n
    induction n with
    | zero => intro _ h; rw [monthD_one] at h; omega
    | succ n ih =>
      intro hn h
      by_cases hl : r < monthD y (1 + n)
      · obtain ⟨m, a, b, c, d⟩ := ih (by omega) hl
        exact ⟨m, a, by omega, c, d⟩
      · exact ⟨1 + n, by omega, by omega, by omega, h⟩
  obtain ⟨m, a, b, c, d⟩ := key 12 (Nat.le_refl _) (by rw [show 1 + 12 = 13 from rfl, monthD_all]; exact h1)
  exact ⟨m, a, by omega, c, d⟩
theorem date_of (t : Int) (h0 : 0 ≤ t) (h1 : t ≤ 253402300799) : ∃ y m d h n s, Good y m d h n s ∧ momentN y m d h n s = t := by
  obtain ⟨y, y0, y1, y2, y3⟩ := year_of (t / 86400) (by omega) (by omega)
  have hn := yearD_next y (by omega)
  obtain ⟨m, m0, m1, m2, m3⟩ := month_of y (t / 86400 - yearD y) (by omega) (by omega)
  have h2 := monthD_next y m m0
  refine ⟨y, m, t / 86400 - yearD y - monthD y m + 1, t % 86400 / 3600, t % 86400 / 60 % 60, t % 86400 % 60, ⟨y0, y1, by omega, by omega, by omega, by omega, by omega, by omega, by omega, by omega, by omega, by omega⟩, ?_⟩
  unfold momentN dayN
  rw [Int.toNat_natCast]
  omega
theorem spec_l2Year_is (y : Int) (h0 : 1970 ≤ y) (h1 : y ≤ 10000) : spec_l2Year.f y = some (yearD y) := by
  unfold spec_l2Year.f yearD
  refine congrArg some ?_
  rw [wrap_in (i := y - 1970) (by omega) (by omega), wrap_in (i := y - 1) (by omega) (by omega), wrap_in (i := 365 * (y - 1970)) (by omega) (by omega)]
  rw [Int.tdiv_eq_ediv_of_nonneg (by omega), Int.tdiv_eq_ediv_of_nonneg (by omega), Int.tdiv_eq_ediv_of_nonneg (by omega)]
  rw [wrap_in (i := (y - 1) / 4) (by omega) (by omega), wrap_in (i := (y - 1) / 100) (by omega) (by omega), wrap_in (i := (y - 1) / 400) (by omega) (by omega)]
  rw [wrap_in (i := 365 * (y - 1970) + (y - 1) / 4) (by omega) (by omega), wrap_in (i := 365 * (y - 1970) + (y - 1) / 4 - (y - 1) / 100) (by omega) (by omega), wrap_in (i := 365 * (y - 1970) + (y - 1) / 4 - (y - 1) / 100 + (y - 1) / 400) (by omega) (by omega)]
  exact wrap_in (by omega) (by omega)
theorem spec_l2Days_loop (y m d h n s : Int) (m0 : 1 ≤ m) (m1 : m ≤ 12) (r : Nat) : ∀ (j : Int) (acc : Int), 1 ≤ j → j + r = m → 0 ≤ acc → acc ≤ 3000000 + monthD y j.toNat → ∀ k, r + 1 < k →
    spec_l2Days.l0 k acc j y m d h n s = some (acc + monthD y m.toNat - monthD y j.toNat) := by
  induction r with
  | zero =>
    intro j acc j0 hj a0 a1 k hk
    obtain ⟨k, rfl⟩ : ∃ z, k = z + 1 := ⟨k - 1, by omega⟩
    simp only [spec_l2Days.l0]
    rw [if_neg (by omega), show j = m from by omega]
    exact congrArg some (by omega)
  | succ r ih =>
    intro j acc j0 hj a0 a1 k hk
    obtain ⟨k, rfl⟩ : ∃ z, k = z + 1 := ⟨k - 1, by omega⟩
    have hk : 1 ≤ k := by omega
    have hr := monthDays_range y j
    have hn := monthD_next y j.toNat (by omega)
    rw [show ((j.toNat : Nat) : Int) = j from by omega] at hn
    have hg := monthD_range y j.toNat (by omega) (by omega)
    simp only [spec_l2Days.l0]
    rw [if_pos (by omega), spec_l2Month_is y j (by omega) (by omega)]
    simp only [Option.bind_some]
    rw [wrap_in (by omega) (by omega), wrap_in (by omega) (by omega)]
    have e : (j + 1).toNat = j.toNat + 1 := by omega
    rw [ih (j + 1) (acc + monthDays y j) (by omega) (by omega) (by omega) (by rw [e]; omega) k (by omega), e]
    exact congrArg some (by omega)
theorem spec_l2Days_ev {y m d h n s : Int} (g : Good y m d h n s) (k : Nat) (hk : 16 ≤ k) : spec_l2Days.f k y m d h n s = some (dayN y m d) := by
  have hr := yearD_range y g.y0 (by have := g.y1; omega)
  have hm := monthDays_range y m
  have d0 := g.d0
  have d1 := g.d1
  have m0 := g.m0
  have m1 := g.m1
  unfold spec_l2Days.f
  rw [spec_l2Year_is y g.y0 (by have := g.y1; omega)]
  simp only [Option.bind_some]
  rw [wrap_in (i := yearD y + d) (by omega) (by omega), wrap_in (by omega) (by omega)]
  rw [spec_l2Days_loop y m d h n s m0 m1 (m - 1).toNat 1 _ (by omega) (by omega) (by omega) (by rw [show (1 : Int).toNat = 1 from rfl, monthD_one]; omega) k (by omega)]
  unfold dayN
  rw [show (1 : Int).toNat = 1 from rfl, monthD_one]
  exact congrArg some (by omega)


theorem impl_yearDays_is (y : Int) (h0 : 1970 ≤ y) (h1 : y ≤ 10000) : impl_yearDays.f y = some (yearD y) := by
  unfold impl_yearDays.f yearD
  refine congrArg some ?_
  rw [wrap_in (i := y - 1970) (by omega) (by omega), wrap_in (i := y - 1) (by omega) (by omega), wrap_in (i := 365 * (y - 1970)) (by omega) (by omega)]
  rw [Int.tdiv_eq_ediv_of_nonneg (by omega), Int.tdiv_eq_ediv_of_nonneg (by omega), Int.tdiv_eq_ediv_of_nonneg (by omega)]
  rw [wrap_in (i := (y - 1) / 4) (by omega) (by omega), wrap_in (i := (y - 1) / 100) (by omega) (by omega), wrap_in (i := (y - 1) / 400) (by omega) (by omega)]
  rw [wrap_in (i := 365 * (y - 1970) + (y - 1) / 4) (by omega) (by omega), wrap_in (i := 365 * (y - 1970) + (y - 1) / 4 - (y - 1) / 100) (by omega) (by omega), wrap_in (i := 365 * (y - 1970) + (y - 1) / 4 - (y - 1) / 100 + (y - 1) / 400) (by omega) (by omega)]
  exact wrap_in (by omega) (by omega)
theorem impl_days_loop (y m d h n s : Int) (m0 : 1 ≤ m) (m1 : m ≤ 12) (r : Nat) : ∀ (j : Int) (acc : Int), 1 ≤ j → j + r = m → 0 ≤ acc → acc ≤ 3000000 + monthD y j.toNat → ∀ k, r + 1 < k →
    impl_days.l0 k acc j y m d h n s = some (acc + monthD y m.toNat - monthD y j.toNat) := by
  induction r with
  | zero =>
    intro j acc j0 hj a0 a1 k hk
    obtain ⟨k, rfl⟩ : ∃ z, k = z + 1 := ⟨k - 1, by omega⟩
    simp only [impl_days.l0]
    rw [if_neg (by omega), show j = m from by omega]
    exact congrArg some (by omega)
  | succ r ih =>
    intro j acc j0 hj a0 a1 k hk
    obtain ⟨k, rfl⟩ : ∃ z, k = z + 1 := ⟨k - 1, by omega⟩
    have hk : 1 ≤ k := by omega
    have hr := monthDays_range y j
    have hn := monthD_next y j.toNat (by omega)
    rw [show ((j.toNat : Nat) : Int) = j from by omega] at hn
    have hg := monthD_range y j.toNat (by omega) (by omega)
    simp only [impl_days.l0]
    rw [if_pos (by omega), impl_daysIn_is y j k hk]
    simp only [Option.bind_some]
    rw [wrap_in (by omega) (by omega), wrap_in (by omega) (by omega)]
    have e : (j + 1).toNat = j.toNat + 1 := by omega
    rw [ih (j + 1) (acc + monthDays y j) (by omega) (by omega) (by omega) (by rw [e]; omega) k (by omega), e]
    exact congrArg some (by omega)
theorem impl_days_ev {y m d h n s : Int} (g : Good y m d h n s) (k : Nat) (hk : 16 ≤ k) : impl_days.f k y m d h n s = some (dayN y m d) := by
  have hr := yearD_range y g.y0 (by have := g.y1; omega)
  have hm := monthDays_range y m
  have d0 := g.d0
  have d1 := g.d1
  have m0 := g.m0
  have m1 := g.m1
  unfold impl_days.f
  rw [impl_yearDays_is y g.y0 (by have := g.y1; omega)]
  simp only [Option.bind_some]
  rw [wrap_in (i := yearD y + d) (by omega) (by omega), wrap_in (by omega) (by omega)]
  rw [impl_days_loop y m d h n s m0 m1 (m - 1).toNat 1 _ (by omega) (by omega) (by omega) (by rw [show (1 : Int).toNat = 1 from rfl, monthD_one]; omega) k (by omega)]
  unfold dayN
  rw [show (1 : Int).toNat = 1 from rfl, monthD_one]
  exact congrArg some (by omega)


theorem spec_Weekday_ev (y m d h n s : Int) (k : Nat) (hk : 16 ≤ k) : spec_Weekday.f k y m d h n s = some (if dateOk y m d h n s = true then (dayN y m d + 4) % 7 else -1) := by
  unfold spec_Weekday.f
  rw [spec_DateOk_is]
  simp only [Option.bind_some]
  by_cases g : dateOk y m d h n s = true
  · have G := (good_iff ..).1 g
    have hr := dayN_range G
    rw [if_pos g, if_pos g, spec_l2Days_ev G k hk]
    simp only [Option.bind_some]
    rw [wrap_in (by omega) (by omega), Int.tmod_eq_emod_of_nonneg (by omega)]
  · rw [if_neg g, if_neg g]



theorem impl_Weekday_ev (y m d h n s : Int) (k : Nat) (hk : 16 ≤ k) : impl_Weekday.f k y m d h n s = some (if dateOk y m d h n s = true then (dayN y m d + 4) % 7 else -1) := by
  unfold impl_Weekday.f
  rw [impl_DateOk_is _ _ _ _ _ _ k (by omega)]
  simp only [Option.bind_some]
  by_cases g : dateOk y m d h n s = true
  · have G := (good_iff ..).1 g
    have hr := dayN_range G
    rw [if_pos g, if_pos g, impl_days_ev G k hk]
    simp only [Option.bind_some]
    rw [wrap_in (by omega) (by omega), Int.tmod_eq_emod_of_nonneg (by omega)]
  · rw [if_neg g, if_neg g]



theorem spec_DateAt_months (y m : Int) (L S : Int) (m0 : 1 ≤ m) (m1 : m ≤ 12) (h0 : monthD y m.toNat ≤ L) (h1 : L < monthD y (m.toNat + 1)) (s0 : 0 ≤ S) (s1 : S < 86400) (r : Nat) : ∀ (j : Int), 1 ≤ j → j + r = m → ∀ k, r + 2 < k →
    spec_DateAt.l1 k (L - monthD y j.toNat) S y j = some (y, m, L - monthD y m.toNat + 1, S / 3600, S / 60 % 60, S % 60) := by
  have g0 := monthD_range y m.toNat (by omega) (by omega)
  have g1 := monthD_range y (m.toNat + 1) (by omega) (by omega)
  induction r with
  | zero =>
    intro j j0 hj k hk
    obtain ⟨k, rfl⟩ : ∃ z, k = z + 1 := ⟨k - 1, by omega⟩
    obtain rfl : j = m := by omega
    have hn := monthD_next y j.toNat (by omega)
    rw [show ((j.toNat : Nat) : Int) = j from by omega] at hn
    simp only [spec_DateAt.l1]
    rw [spec_l2Month_is y j (by omega) (by omega)]
    simp only [Option.bind_some]
    rw [if_neg (by omega)]
    rw [Int.tdiv_eq_ediv_of_nonneg s0, Int.tdiv_eq_ediv_of_nonneg s0, Int.tmod_eq_emod_of_nonneg s0, wrap_in (i := L - monthD y j.toNat + 1) (by omega) (by omega), wrap_in (i := S / 3600) (by omega) (by omega), wrap_in (i := S / 60) (by omega) (by omega), Int.tmod_eq_emod_of_nonneg (by omega)]
  | succ r ih =>
    intro j j0 hj k hk
    obtain ⟨k, rfl⟩ : ∃ z, k = z + 1 := ⟨k - 1, by omega⟩
    have hn := monthD_next y j.toNat (by omega)
    rw [show ((j.toNat : Nat) : Int) = j from by omega] at hn
    have hl := monthD_lt y j.toNat m.toNat (by omega) (by omega)
    have gj := monthD_range y j.toNat (by omega) (by omega)
    have hr := monthDays_range y j
    have e : (j + 1).toNat = j.toNat + 1 := by omega
    have hi := ih (j + 1) (by omega) (by omega) k (by omega)
    rw [e, hn] at hi
    simp only [spec_DateAt.l1]
    rw [spec_l2Month_is y j (by omega) (by omega)]
    simp only [Option.bind_some]
    rw [if_pos (by omega), wrap_in (i := L - monthD y j.toNat - monthDays y j) (by omega) (by omega), wrap_in (i := j + 1) (by omega) (by omega)]
    rw [show L - monthD y j.toNat - monthDays y j = L - (monthD y j.toNat + monthDays y j) from by omega]
    exact hi
theorem spec_DateAt_years (y m : Int) (L S : Int) (y0 : 1970 ≤ y) (y1 : y ≤ 9999) (h0 : yearD y ≤ L) (h1 : L < yearD (y + 1)) (m0 : 1 ≤ m) (m1 : m ≤ 12) (h2 : monthD y m.toNat ≤ L - yearD y) (h3 : L - yearD y < monthD y (m.toNat + 1)) (s0 : 0 ≤ S) (s1 : S < 86400) (r : Nat) : ∀ (z : Int), 1970 ≤ z → z + r = y → ∀ k, r + 20 < k →
    spec_DateAt.l0 k L S z = some (y, m, L - yearD y - monthD y m.toNat + 1, S / 3600, S / 60 % 60, S % 60) := by
  have g0 := yearD_range y y0 (by omega)
  have g1 := yearD_range (y + 1) (by omega) (by omega)
  induction r with
  | zero =>
    intro z z0 hz k hk
    obtain ⟨k, rfl⟩ : ∃ q, k = q + 1 := ⟨k - 1, by omega⟩
    obtain rfl : z = y := by omega
    simp only [spec_DateAt.l0]
    rw [wrap_in (i := z + 1) (by omega) (by omega), spec_l2Year_is (z + 1) (by omega) (by omega)]
    simp only [Option.bind_some]
    rw [if_neg (by omega), spec_l2Year_is z (by omega) (by omega)]
    simp only [Option.bind_some]
    rw [wrap_in (i := L - yearD z) (by omega) (by omega)]
    have hm := spec_DateAt_months z m (L - yearD z) S m0 m1 h2 h3 s0 s1 (m - 1).toNat 1 (by omega) (by omega) k (by omega)
    rw [show (1 : Int).toNat = 1 from rfl, monthD_one, Int.sub_zero] at hm
    exact hm
  | succ r ih =>
    intro z z0 hz k hk
    obtain ⟨k, rfl⟩ : ∃ q, k = q + 1 := ⟨k - 1, by omega⟩
    have hl := yearD_lt z y (by omega) (by omega)
    simp only [spec_DateAt.l0]
    rw [wrap_in (i := z + 1) (by omega) (by omega), spec_l2Year_is (z + 1) (by omega) (by omega)]
    simp only [Option.bind_some]
    rw [if_pos (by omega)]
    exact ih (z + 1) (by omega) (by omega) k (by omega)
theorem spec_DateAt_at {y m d h n s : Int} (g : Good y m d h n s) (k : Nat) (hk : 9000 ≤ k) : spec_DateAt.f k (momentN y m d h n s) = some (y, m, d, h, n, s) := by
  have hr := momentN_range g
  have hd := dayN_range g
  have hy := dayN_in (by have := g.y0; omega) g.m0 g.m1 g.d0 g.d1
  have hm := day_in g.m0 g.m1 g.d0 g.d1
  have := g.h0; have := g.h1; have := g.n0; have := g.n1; have := g.s0; have := g.s1; have := g.y0; have := g.y1; have := g.d0
  have e1 : momentN y m d h n s / 86400 = dayN y m d := by unfold momentN; omega
  have e2 : momentN y m d h n s % 86400 = h * 3600 + n * 60 + s := by unfold momentN; omega
  unfold spec_DateAt.f
  rw [spec_l1In_is, show inB (momentN y m d h n s) 0 253402300799 = true from by unfold inB; simp; omega]
  simp only [Option.bind_some, if_true]
  rw [Int.tdiv_eq_ediv_of_nonneg hr.1, Int.tmod_eq_emod_of_nonneg hr.1, e1, e2, wrap_in (i := dayN y m d) (by omega) (by omega), Int.tdiv_eq_ediv_of_nonneg hd.1, wrap_in (i := dayN y m d / 366) (by omega) (by omega), wrap_in (i := 1970 + dayN y m d / 366) (by omega) (by omega)]
  have hb : 1970 + dayN y m d / 366 ≤ y := by
    have h1 := yearD_range y g.y0 (by omega)
    have h2 : yearD (y + 1) ≤ 366 * (y + 1 - 1970) := by unfold yearD; omega
    omega
  have hz := spec_DateAt_years y m (dayN y m d) (h * 3600 + n * 60 + s) g.y0 g.y1 hy.1 hy.2 g.m0 g.m1 (by unfold dayN; omega) (by unfold dayN; omega) (by omega) (by omega) (y - (1970 + dayN y m d / 366)).toNat (1970 + dayN y m d / 366) (by omega) (by omega) k (by omega)
  rw [hz]
  have e3 : dayN y m d - yearD y - monthD y m.toNat + 1 = d := by unfold dayN; omega
  rw [e3, show (h * 3600 + n * 60 + s) / 3600 = h from by omega, show (h * 3600 + n * 60 + s) / 60 % 60 = n from by omega, show (h * 3600 + n * 60 + s) % 60 = s from by omega]
theorem spec_DateAt_out (t : Int) (h : t < 0 ∨ 253402300799 < t) (k : Nat) : spec_DateAt.f k t = some (0, 0, 0, 0, 0, 0) := by
  unfold spec_DateAt.f
  rw [spec_l1In_is, show inB t 0 253402300799 = false from by unfold inB; simp; omega]
  rfl
def ofL (l : List UInt8) : ByteArray := ⟨l.toArray⟩
theorem ofL_append (a b : List UInt8) : ofL a ++ ofL b = ofL (a ++ b) := by
  apply ByteArray.ext
  apply Array.toList_inj.1
  simp [ofL, ByteArray.data_append]
theorem ofL_size (l : List UInt8) : (ofL l).size = l.length := by
  show l.toArray.size = l.length
  simp
theorem ofL_toList (l : List UInt8) : (ofL l).toList = l := by
  rw [toList_data]
  rfl
theorem ofL_data (s : ByteArray) : ofL s.data.toList = s := by
  apply ByteArray.ext
  apply Array.toList_inj.1
  rfl
theorem strOf_one (c : Int) : strOfNums [c] = ofL [UInt8.ofNat c.toNat] := by
  apply ByteArray.ext
  apply Array.toList_inj.1
  rw [strOfNums_data]
  rfl
/-- A number's decimal numeral. -/
def decT (n : Int) : ByteArray := ofL (Lib.itoa n)
theorem impl_decimal_is (n : Int) (h0 : -9223372036854775808 ≤ n) (h1 : n ≤ 9223372036854775807) : impl_decimal.f n = some (decT n) := by
  unfold impl_decimal.f strconv_FormatInt.f
  first | rw [if_pos ⟨rfl, h0, h1⟩] | rw [if_neg (by omega), if_pos ⟨rfl, h0, h1⟩]
  rfl
theorem decT_size (n : Int) (h0 : 0 ≤ n) (h1 : n ≤ 9000000000000000000) : (decT n).size ≤ 19 := by
  unfold decT
  rw [ofL_size]
  unfold Lib.itoa
  rw [if_neg (by omega), Lib.decDigits_length]
  have key : ∀ (d u : Nat), u < 10 ^ (d + 1) → Lib.nDigits u ≤ d + 1 := by
    intro d
    induction d with
    | zero => intro u hu; rw [Lib.nDigits_small (by simpa using hu)]; omega
    | succ d ih =>
      intro u hu
      by_cases h : u < 10
      · rw [Lib.nDigits_small h]; omega
      · rw [Lib.nDigits_big h]
        have := ih (u / 10) (by rw [Nat.pow_succ] at hu; omega)
        omega
  exact key 18 n.toNat (by omega)
/-- The last two digits of a number. -/
def twoL (n : Int) : List UInt8 := [UInt8.ofNat (48 + n.toNat / 10 % 10), UInt8.ofNat (48 + n.toNat % 10)]
def twoT (n : Int) : ByteArray := ofL (twoL n)
theorem twoT_size (n : Int) : (twoT n).size = 2 := by unfold twoT; rw [ofL_size]; rfl
theorem strOf_two (a b : Int) : strOfNums [a, b] = ofL [UInt8.ofNat a.toNat, UInt8.ofNat b.toNat] := by
  apply ByteArray.ext
  apply Array.toList_inj.1
  rw [strOfNums_data]
  rfl
theorem spec_l2Two_is (n : Int) (h0 : 0 ≤ n) (h1 : n ≤ 9000000000000000000) : spec_l2Two.f n = some (twoT n) := by
  unfold spec_l2Two.f twoT twoL
  rw [strOf_two, Int.tdiv_eq_ediv_of_nonneg h0, wrap_in (i := n / 10) (by omega) (by omega), Int.tmod_eq_emod_of_nonneg (by omega), Int.tmod_eq_emod_of_nonneg h0, wrap_in (by omega) (by omega), wrap_in (by omega) (by omega)]
  rw [show ((48 + n / 10 % 10) % 256).toNat = 48 + n.toNat / 10 % 10 by omega, show ((48 + n % 10) % 256).toNat = 48 + n.toNat % 10 by omega]
theorem decT_one (n : Int) (h0 : 0 ≤ n) (h1 : n < 10) : decT n = ofL [UInt8.ofNat (48 + n.toNat % 10)] := by
  unfold decT Lib.itoa
  rw [if_neg (by omega), Lib.decDigits, dif_pos (by omega), show n.toNat % 10 = n.toNat by omega]
theorem decT_two (n : Int) (h0 : 10 ≤ n) (h1 : n < 100) : decT n = twoT n := by
  unfold decT Lib.itoa twoT twoL
  rw [if_neg (by omega), Lib.decDigits, dif_neg (by omega), Lib.decDigits, dif_pos (by omega), show n.toNat / 10 % 10 = n.toNat / 10 by omega]
  rfl
theorem decT_four (n : Int) (h0 : 1000 ≤ n) (h1 : n ≤ 9999) : decT n = twoT (n / 100) ++ twoT n := by
  unfold decT Lib.itoa twoT twoL
  rw [if_neg (by omega), Lib.decDigits, dif_neg (by omega), Lib.decDigits, dif_neg (by omega), Lib.decDigits, dif_neg (by omega), Lib.decDigits, dif_pos (by omega), ofL_append,
    show (n / 100).toNat / 10 % 10 = n.toNat / 10 / 10 / 10 by omega, show (n / 100).toNat % 10 = n.toNat / 10 / 10 % 10 by omega]
  rfl
theorem impl_padded_two (n : Int) (h0 : 0 ≤ n) (h1 : n < 100) : impl_padded.f n 2 = some (twoT n) := by
  unfold impl_padded.f
  rw [impl_decimal_is n (by omega) (by omega)]
  simp only [Option.bind_some]
  by_cases h : n < 10
  · rw [decT_one n h0 h, ofL_size, show mx 0 (wrap64 (2 - (([UInt8.ofNat (48 + n.toNat % 10)].length : Nat) : Int))) = 1 by simp [mx, wrap64]]
    unfold strings_Repeat.f
    rw [if_neg (by decide), if_pos rfl]
    simp only [Option.bind_some]
    rw [if_pos (show (⟨#[48]⟩ : ByteArray).size + [UInt8.ofNat (48 + n.toNat % 10)].length ≤ 9223372036854775807 from by show 1 + 1 ≤ _; decide)]
    unfold twoT twoL
    rw [show n.toNat / 10 % 10 = 0 by omega]
    refine congrArg some ?_
    rw [show (⟨#[48]⟩ : ByteArray) = ofL [48] from rfl, ofL_append]
    rfl
  · rw [decT_two n (by omega) h1, twoT_size, show mx 0 (wrap64 (2 - ((2 : Nat) : Int))) = 0 by simp [mx, wrap64]]
    unfold strings_Repeat.f
    rw [if_pos rfl]
    simp only [Option.bind_some]
    rw [if_pos (by decide)]
    refine congrArg some ?_
    rw [show (⟨#[]⟩ : ByteArray) = ofL [] from rfl]
    unfold twoT
    rw [ofL_append]
    rfl
theorem impl_padded_four (n : Int) (h0 : 1000 ≤ n) (h1 : n ≤ 9999) : impl_padded.f n 4 = some (twoT (n / 100) ++ twoT n) := by
  unfold impl_padded.f
  rw [impl_decimal_is n (by omega) (by omega)]
  simp only [Option.bind_some]
  rw [decT_four n h0 h1, ByteArray.size_append, twoT_size, twoT_size, show mx 0 (wrap64 (4 - ((2 + 2 : Nat) : Int))) = 0 by simp [mx, wrap64]]
  unfold strings_Repeat.f
  rw [if_pos rfl]
  simp only [Option.bind_some]
  rw [if_pos (by decide)]
  refine congrArg some ?_
  rw [show (⟨#[]⟩ : ByteArray) = ofL [] from rfl]
  unfold twoT
  rw [ofL_append, ofL_append]
  rfl
def dayNames : ByteArray := ⟨#[83, 117, 110, 77, 111, 110, 84, 117, 101, 87, 101, 100, 84, 104, 117, 70, 114, 105, 83, 97, 116]⟩
def monthNames : ByteArray := ⟨#[74, 97, 110, 70, 101, 98, 77, 97, 114, 65, 112, 114, 77, 97, 121, 74, 117, 110, 74, 117, 108, 65, 117, 103, 83, 101, 112, 79, 99, 116, 78, 111, 118, 68, 101, 99]⟩
def dayT (w : Int) : ByteArray := dayNames.extract (3 * w).toNat (3 * w + 3).toNat
def monthT (m : Int) : ByteArray := monthNames.extract (3 * m - 3).toNat (3 * m).toNat
theorem dayT_size (w : Int) (h0 : 0 ≤ w) (h1 : w ≤ 6) : (dayT w).size = 3 := by
  unfold dayT
  rw [size_extract _ _ _ (by show _ ≤ 21; omega)]
  omega
theorem monthT_size (m : Int) (h0 : 1 ≤ m) (h1 : m ≤ 12) : (monthT m).size = 3 := by
  unfold monthT
  rw [size_extract _ _ _ (by show _ ≤ 36; omega)]
  omega
/-- The text of a date. -/
def showN (y m d h n s : Int) : ByteArray :=
  dayT ((dayN y m d + 4) % 7) ++ ⟨#[44, 32]⟩ ++ twoT d ++ ⟨#[32]⟩ ++ monthT m ++ ⟨#[32]⟩ ++ twoT (y / 100) ++ twoT y ++ ⟨#[32]⟩ ++ twoT h ++ ⟨#[58]⟩ ++ twoT n ++ ⟨#[58]⟩ ++ twoT s ++ ⟨#[32, 71, 77, 84]⟩
def showR (y m d h n s : Int) : ByteArray := if dateOk y m d h n s = true then showN y m d h n s else ⟨#[]⟩
theorem lit_sizes : (⟨#[44, 32]⟩ : ByteArray).size = 2 ∧ (⟨#[32]⟩ : ByteArray).size = 1 ∧ (⟨#[58]⟩ : ByteArray).size = 1 ∧ (⟨#[32, 71, 77, 84]⟩ : ByteArray).size = 4 := ⟨rfl, rfl, rfl, rfl⟩
theorem showN_size {y m d h n s : Int} (G : Good y m d h n s) : (showN y m d h n s).size = 29 := by
  unfold showN
  simp only [ByteArray.size_append, twoT_size, monthT_size m G.m0 G.m1, dayT_size _ (show 0 ≤ (dayN y m d + 4) % 7 by omega) (by omega), lit_sizes.1, lit_sizes.2.1, lit_sizes.2.2.1, lit_sizes.2.2.2]
theorem spec_l2DayName_is (w : Int) (h0 : 0 ≤ w) (h1 : w ≤ 6) : spec_l2DayName.f w = some (dayT w) := by
  unfold spec_l2DayName.f
  rw [wrap_in (i := 3 * w) (by omega) (by omega), wrap_in (by omega) (by omega), if_pos (by omega), if_pos (by omega), if_pos (by omega)]
  rfl
theorem spec_l2MonthName_is (m : Int) (h0 : 1 ≤ m) (h1 : m ≤ 12) : spec_l2MonthName.f m = some (monthT m) := by
  unfold spec_l2MonthName.f
  rw [wrap_in (i := 3 * m) (by omega) (by omega), wrap_in (by omega) (by omega), if_pos (by omega), if_pos (by omega), if_pos (by omega)]
  rfl
theorem md_bound (y m : Int) : monthDays y m ≤ 31 := (monthDays_range y m).2
set_option maxHeartbeats 2000000 in
theorem spec_ShowDate_ev (y m d h n s : Int) (k : Nat) (hk : 16 ≤ k) : spec_ShowDate.f k y m d h n s = some (showR y m d h n s) := by
  unfold spec_ShowDate.f showR
  rw [spec_DateOk_is]
  simp only [Option.bind_some]
  by_cases g : dateOk y m d h n s = true
  · have G := (good_iff ..).1 g
    have hmd := md_bound y m
    have q1 := G.y0
    have q2 := G.y1
    have q3 := G.d0
    have q4 := G.d1
    have w0 : 0 ≤ (dayN y m d + 4) % 7 := by omega
    have w1 : (dayN y m d + 4) % 7 ≤ 6 := by omega
    rw [if_pos g, if_pos g, spec_Weekday_ev y m d h n s k hk, if_pos g]
    simp only [Option.bind_some]
    rw [spec_l2DayName_is _ w0 w1, spec_l2Two_is d (by omega) (by omega), spec_l2MonthName_is m G.m0 G.m1, Int.tdiv_eq_ediv_of_nonneg (by omega), wrap_in (by omega) (by omega), spec_l2Two_is (y / 100) (by omega) (by omega), spec_l2Two_is y (by omega) (by omega), spec_l2Two_is h G.h0 (by have := G.h1; omega), spec_l2Two_is n G.n0 (by have := G.n1; omega), spec_l2Two_is s G.s0 (by have := G.s1; omega)]
    simp only [Option.bind_some, ByteArray.size_append, twoT_size, monthT_size m G.m0 G.m1, dayT_size _ w0 w1, lit_sizes.1, lit_sizes.2.1, lit_sizes.2.2.1, lit_sizes.2.2.2, Nat.reduceAdd, Nat.reduceLeDiff, if_true]
    rfl
  · rw [if_neg g, if_neg g]
set_option maxHeartbeats 4000000 in
theorem impl_ShowDate_ev (y m d h n s : Int) (k : Nat) (hk : 16 ≤ k) : impl_ShowDate.f k y m d h n s = some (showR y m d h n s) := by
  unfold impl_ShowDate.f showR
  rw [impl_DateOk_is _ _ _ _ _ _ k (by omega)]
  simp only [Option.bind_some]
  by_cases g : dateOk y m d h n s = true
  · have G := (good_iff ..).1 g
    have hmd := md_bound y m
    have q1 := G.y0
    have q2 := G.y1
    have q3 := G.d0
    have q4 := G.d1
    have m0 := G.m0
    have m1 := G.m1
    have w0 : 0 ≤ (dayN y m d + 4) % 7 := by omega
    have w1 : (dayN y m d + 4) % 7 ≤ 6 := by omega
    rw [if_pos g, if_pos g, impl_Weekday_ev y m d h n s k hk, if_pos g]
    simp only [Option.bind_some]
    have hz := dayT_size _ w0 w1
    unfold showN
    generalize (dayN y m d + 4) % 7 = W at w0 w1 hz
    have e1 : wrap64 (3 * W) = 3 * W := wrap_in (by omega) (by omega)
    have e2 : wrap64 (3 * W + 3) = 3 * W + 3 := wrap_in (by omega) (by omega)
    have e3 : wrap64 (m - 1) = m - 1 := wrap_in (by omega) (by omega)
    have e4 : wrap64 (3 * (m - 1)) = 3 * m - 3 := by rw [wrap_in (by omega) (by omega)]; omega
    have e5 : wrap64 (3 * m - 3 + 3) = 3 * m := by rw [wrap_in (by omega) (by omega)]; omega
    have hd : (⟨#[83, 117, 110, 77, 111, 110, 84, 117, 101, 87, 101, 100, 84, 104, 117, 70, 114, 105, 83, 97, 116]⟩ : ByteArray).extract (3 * W).toNat (3 * W + 3).toNat = dayT W := rfl
    have hm : (⟨#[74, 97, 110, 70, 101, 98, 77, 97, 114, 65, 112, 114, 77, 97, 121, 74, 117, 110, 74, 117, 108, 65, 117, 103, 83, 101, 112, 79, 99, 116, 78, 111, 118, 68, 101, 99]⟩ : ByteArray).extract (3 * m - 3).toNat (3 * m).toNat = monthT m := rfl
    simp only [e1, e2, e3, e4, e5, hd, hm, impl_padded_two d (by omega) (by omega), impl_padded_four y (by omega) (by omega), impl_padded_two h G.h0 (by have := G.h1; omega), impl_padded_two n G.n0 (by have := G.n1; omega), impl_padded_two s G.s0 (by have := G.s1; omega), Option.bind_some, ByteArray.size_append, twoT_size, monthT_size m G.m0 G.m1, hz, lit_sizes.1, lit_sizes.2.1, lit_sizes.2.2.1, lit_sizes.2.2.2, Nat.reduceAdd, Nat.reduceLeDiff, if_true,
      show (0 : Int) ≤ 3 * W from by omega, show 3 * W ≤ 3 * W + 3 from by omega, show 3 * W + 3 ≤ 21 from by omega, show (0 : Int) ≤ 3 * m - 3 from by omega, show 3 * m - 3 ≤ 3 * m from by omega, show 3 * m ≤ 36 from by omega]
    refine congrArg some ?_
    simp only [ByteArray.append_assoc]
  · rw [if_neg g, if_neg g]
end Go.Proofs.YtpolkndhjcdheaaDoor.Q
namespace Go.Proofs.YtpolkndhjcdheaaDoor.Pure
set_option linter.unusedVariables false
set_option linter.unusedSimpArgs false
open Go.RowKit Go.Proofs.YtpolkndhjcdheaaDoor.P Go.Proofs.YtpolkndhjcdheaaDoor.Q Go.Proofs.YtpolkndhjcdheaaDoorW.PrintWords
theorem FnExactShowDate : laws_FnExactShowDate.Pure := by
 intro y m d h n s _ _ _ _ _ _
 refine ⟨16, ?_⟩
 unfold laws_FnExactShowDate.f laws_toDate.f
 simp only [Option.bind_some, spec_ShowDate_ev _ _ _ _ _ _ 16 (Nat.le_refl _), impl_ShowDate_ev _ _ _ _ _ _ 16 (Nat.le_refl _), if_true]
end Go.Proofs.YtpolkndhjcdheaaDoor.Pure
namespace Go.Proofs.YtpolkndhjcdheaaDoor.RowAid
open Go.ChangeShapes Go.WideShapes Go.Deep
variable {H : Type} {enc : TypeId × Value → H} {P : Program} {w : World} {base : Nat} {spare : Nat → Bool} {held : Bool}
theorem open_one {r : Reach} {b0 : Nat} {t : TypeId} {fs : Array Field} {v : Value} {d : DataW H} {p : List MemPlace} (hs : P.underlying t = some (.struct fs)) (hone : oneCellFields P fs = true) (hC : P.cellsOf t = fs.size)
    (hv : Value.okWide P w r b0 t v) (h : DataW.Trod enc P w base spare held t v d p) :
    ∃ cs : List Value, v = .agg cs.toArray ∧ cs.length = fs.size ∧ ∃ n, ∀ (i : Nat) (f : Field) (c : Value), fs[i]? = some f → cs[i]? = some c → ∃ y, DataW.trod enc P w base spare held n f.type [c] = some y := by
  obtain ⟨⟨cs⟩, rfl, hsz⟩ := okWide_struct hs hv
  obtain ⟨fuel, hf⟩ := h
  obtain ⟨xs, n, _, _, hl, hx, hg⟩ := DataW.trod_struct hs hf
  have hcl : cs.length = fs.size := by
    have : (⟨cs⟩ : Array Value).size = cs.length := rfl
    omega
  refine ⟨cs, rfl, hcl, n, fun i f c hi hc => ?_⟩
  have hlt : i < fs.size := (Array.getElem?_eq_some_iff.1 hi).1
  obtain ⟨ho, hk⟩ := hone_of hone i f hi
  have h1 := hg i f hi
  have hcc : (Value.agg ⟨cs⟩).cells.toList = cs := rfl
  rw [hcc, ho, hk] at h1
  have hd : (cs.drop i).take 1 = [c] := by
    have hi' : i < cs.length := by omega
    rw [List.drop_eq_getElem_cons hi', List.take_succ_cons, List.take_zero]
    rw [List.getElem?_eq_getElem hi'] at hc
    rw [Option.some.inj hc]
  rw [hd] at h1
  have hxl : xs[i]? = some (xs[i]'(by omega)) := List.getElem?_eq_getElem (by omega)
  exact ⟨_, h1.trans hxl⟩
end Go.Proofs.YtpolkndhjcdheaaDoor.RowAid
namespace Go.Proofs.YtpolkndhjcdheaaDoor.fnExactShowDate
open Go.ChangeShapes Go.WideShapes Go.ChangeAt Go.RowKit
open Go.ChangeMaps (open_string shut_string)
set_option linter.unusedVariables false
theorem own : ownKnob Tryd.prog.godebug = none := by kernel_rfl
theorem laidOut : laidOutB Tryd.prog = true := by kernel_rfl
set_option maxRecDepth 100000 in
theorem open_p0 {H : Type} {enc : TypeId × Value → H} {w : World} {base b0 : Nat} {spare : Nat → Bool} {held : Bool} {r : Reach} {v : Value} {d : DataW H} {p : List MemPlace} (hv : Value.okWide Tryd.prog w r b0 23 v) (h : DataW.Trod enc Tryd.prog w base spare held 23 v d p) :
    ∃ (a0_0 : Int) (a0_1 : Int) (a0_2 : Int) (a0_3 : Int) (a0_4 : Int) (a0_5 : Int), v = .agg #[.int .i64 a0_0, .int .i64 a0_1, .int .i64 a0_2, .int .i64 a0_3, .int .i64 a0_4, .int .i64 a0_5] ∧ ((Lit.int .i64 a0_0).wf = true) ∧ ((Lit.int .i64 a0_1).wf = true) ∧ ((Lit.int .i64 a0_2).wf = true) ∧ ((Lit.int .i64 a0_3).wf = true) ∧ ((Lit.int .i64 a0_4).wf = true) ∧ ((Lit.int .i64 a0_5).wf = true) := by
  obtain ⟨cs, rfl, hl, n, hf⟩ := RowAid.open_one Tryd.underlying23 (by kernel_rfl) (by kernel_rfl) hv h
  have hl' : cs.length = 6 := hl
  clear hl
  match cs, hl' with
  | [c0, c1, c2, c3, c4, c5], _ =>
    obtain ⟨_, h0⟩ := hf 0 _ c0 rfl rfl
    obtain ⟨x0, e0, _, w0⟩ := DataW.trod_int Tryd.underlying2 h0
    obtain rfl := (List.cons.inj e0).1
    obtain ⟨_, h1⟩ := hf 1 _ c1 rfl rfl
    obtain ⟨x1, e1, _, w1⟩ := DataW.trod_int Tryd.underlying2 h1
    obtain rfl := (List.cons.inj e1).1
    obtain ⟨_, h2⟩ := hf 2 _ c2 rfl rfl
    obtain ⟨x2, e2, _, w2⟩ := DataW.trod_int Tryd.underlying2 h2
    obtain rfl := (List.cons.inj e2).1
    obtain ⟨_, h3⟩ := hf 3 _ c3 rfl rfl
    obtain ⟨x3, e3, _, w3⟩ := DataW.trod_int Tryd.underlying2 h3
    obtain rfl := (List.cons.inj e3).1
    obtain ⟨_, h4⟩ := hf 4 _ c4 rfl rfl
    obtain ⟨x4, e4, _, w4⟩ := DataW.trod_int Tryd.underlying2 h4
    obtain rfl := (List.cons.inj e4).1
    obtain ⟨_, h5⟩ := hf 5 _ c5 rfl rfl
    obtain ⟨x5, e5, _, w5⟩ := DataW.trod_int Tryd.underlying2 h5
    obtain rfl := (List.cons.inj e5).1
    exact ⟨x0, x1, x2, x3, x4, x5, rfl, w0, w1, w2, w3, w4, w5⟩
set_option maxRecDepth 100000 in
set_option maxHeartbeats 2000000 in
theorem lifted (os : Os) (started : os.Started) (H : Type) (enc : TypeId × Value → H) :
    ReturnsInHanded {} Tryd.checked os 3 .any (fun w args => (Rows.fnExactShowDateSpec.pre enc Tryd.prog Tryd.f3 [] false w args ∧ laidMetH Tryd.prog Rows.fnExactShowDateRow.laid w) ∧ sizedMet enc Tryd.prog Tryd.f3 (OpenSpec.ofChange Rows.fnExactShowDateSpec) false w args) (Rows.fnExactShowDateSpec.post enc Tryd.prog Tryd.f3 false true false false) := by
  refine RowAid.handed_both (C := Tryd.checked) (X := fun w _ => laidMetH Tryd.prog Rows.fnExactShowDateRow.laid w) (fun _ _ _ hh h => h.of_heap hh) own started (by kernel_rfl) Tryd.func3
    (ChangeSpec.witness_shaped (enc := enc) (C := Tryd.checked) (os := os) (X := fun w _ => laidMetH Tryd.prog Rows.fnExactShowDateRow.laid w) false (World.laidAll Tryd.prog os Rows.fnExactShowDateRow.laid) #[.agg #[.int .i64 0, .int .i64 0, .int .i64 0, .int .i64 0, .int .i64 0, .int .i64 0]] 8 (World.laidAll_os _ _ _)
      (World.shaped_of_ZipB (by kernel_rfl) (by kernel_rfl)) (by kernel_rfl) (by kernel_rfl) (by kernel_rfl)
      (by rw [MakeChecks.laidMetH_plain _ _ _ (by kernel_rfl)]; exact laidMet_laidAll _ (by kernel_rfl) (by kernel_rfl))) ?_
  intro W base args ds gs before hval0 hW hcnd hsz0 hL hSh _
  have hsz : (DataW.weightsEach Tryd.prog (Tryd.f3.params.toList ++ Rows.fnExactShowDateSpec.plain.varTypes Tryd.prog) (ds ++ gs)).all (· ≤ reachBytes) = true := hsz0
  have hval : ∀ (j : Nat) t v, Tryd.f3.params[j]? = some t → args[j]? = some v → Value.okWide Tryd.prog W .any base t v := hval0
  have hW' := hW
  obtain ⟨p, q, hA0, hV, rfl, hfz, hnd⟩ := hW
  have hA : DataW.TrodAll enc Tryd.prog W 0 (fun _ => true) true Tryd.f3.params.toList args.toList ds p := hA0
  rw [Tryd.params3] at hA hval hsz
  obtain ⟨v0, vs0, d0, ds0, p0, q0, hargs, rfl, rfl, h0, r0⟩ := trodAll_cons hA
  obtain ⟨rfl, rfl, rfl⟩ := trodAll_nil r0
  obtain rfl : args = #[v0] := by cases args; simp_all
  obtain ⟨rfl, rfl⟩ := trodVars_none hV
  have k0 := h0
  have lt0 : ∀ x ∈ p0, x.block < W.heap.size := by obtain ⟨m, hm⟩ := k0; exact DataW.trod_lt m _ _ _ hm
  obtain ⟨a0_0, a0_1, a0_2, a0_3, a0_4, a0_5, rfl, w0_0, w0_1, w0_2, w0_3, w0_4, w0_5⟩ := open_p0 (hval 0 23 v0 rfl rfl) h0
  clear hA0 hval0 hsz0 hsz
  have hXW := RowAid.xw_of (m := 6) hSh Rows.fnExactShowDateRow.laid hL (by kernel_rfl) (fun _ => by kernel_rfl) (fun _ => by kernel_rfl)
  refine (P.laws_FnExactShowDate.walk Pure.FnExactShowDate a0_0 a0_1 a0_2 a0_3 a0_4 a0_5 W hXW w0_0 w0_1 w0_2 w0_3 w0_4 w0_5).mono fun e W' ⟨he, bel⟩ => ?_
  subst he
  exact ⟨_, rfl, _, _, _, [], _, [], hW', trodAll_mk1 (shut_bool Tryd.underlying4 _), (trodAll_cons_mk (Below.trod laidOut (by kernel_rfl) (of_decide_eq_true (by kernel_rfl)) k0 bel lt0) trodAll_mk0), rfl, bel.frame _, fun h => by cases h⟩
theorem over : Rows.fnExactShowDateRow.holds Tryd.pinned (OpenSpec.ofChange Rows.fnExactShowDateSpec) :=
  OpenClaim.holds_of_wide 3 Tryd.f3 rfl rfl rfl rfl rfl rfl rfl ⟨rfl, rfl, rfl, rfl, rfl⟩ rfl rfl rfl rfl rfl (by kernel_rfl) Tryd.func3 (by kernel_rfl)
    (of_decide_eq_true (by kernel_rfl)) (by unfold Func.isWrapper; first | (rw [if_pos (by decide +kernel)]; kernel_rfl) | (rw [if_neg (by decide +kernel)]; exact ⟨rfl, rfl⟩))
    (fun os started H enc _ => lifted os started H enc)
theorem proved : Rows.FnExactShowDateSaid := over
#print axioms proved
end Go.Proofs.YtpolkndhjcdheaaDoor.fnExactShowDate
namespace Go.Proofs.YtpolkndhjcdheaaDoor
/-- The tied card, under a short name, for the claim. -/
theorem fnExactShowDate_card : Rows.FnExactShowDateCardSaid :=
  Claim7.holds_tied_plain_at .later [] [.data, .data, .data] true (true, "2134072171a85a52d68e86f520862ac0071c1be3afb9790bf4bf02533f5fb1dc") true
    fnExactShowDate.proved (fun _ h => by cases h) (by kernel_rfl) (fun _ h => by cases h) fnExactShowDate_row_tie rfl ⟨rfl, rfl⟩ (by kernel_rfl) rfl
    (fun f fn hf hfn => by
      obtain rfl : f = 3 := Option.some.inj ((show Tryd.prog.funcNamed "loop.example/g00207/laws.FnExactShowDate" = some 3 by kernel_rfl).symm.trans hf) |>.symm
      obtain rfl : fn = Tryd.f3 := (Option.some.inj (Tryd.func3.symm.trans hfn)).symm
      exact ⟨by kernel_rfl, fun j t ht => by
        rw [Tryd.params3] at ht
        have hm : t ∈ [23] := by simpa using Array.mem_of_getElem? ht
        have hall : ([23].all fun u => !Tryd.prog.wantsStandIn u) = true := by kernel_rfl
        exact (show Tryd.prog.wantsStandIn t = false by simpa using List.all_eq_true.1 hall t hm)⟩)
    (by kernel_rfl)
#print axioms fnExactShowDate_card
end Go.Proofs.YtpolkndhjcdheaaDoor
