/- Functions of the Go program as Lean functions, and proofs about them, merged out of this session's texts by its program bundle.py; conditions: those that each theorem states. -/
import Derived.Below
import Derived.Carry
import Derived.ChangeOld
import Derived.ChangeSame
import Derived.Deep.Fields
import Derived.Deep.Slices
import Derived.LaidMore
import Derived.Lay
import Derived.Lib.Bytealg
import Derived.Lib.ItoaNum
import Derived.Lib.SlTrimSet
import Derived.Lib.Strings
import Derived.OpenShut
import Derived.ProofKit
import Derived.SevenTiedAt
import Derived.ShutString
import Derived.SizedLaws
import Derived.Stop.Joined
import Derived.Test.YtfebipiccpbdbaaDoorBFnExactShowResponse1
import Derived.Test.YtfebipiccpbdbaaDoorBFnExactShowResponse2
import Derived.Test.YtfebipiccpbdbaaDoorCards
import Derived.Test.YtfebipiccpbdbaaDoorGContainsField
import Derived.Test.YtfebipiccpbdbaaDoorGTrim
import Derived.Test.YtfebipiccpbdbaaDoorGall
import Derived.Test.YtfebipiccpbdbaaDoorGimplwithout
import Derived.Test.YtfebipiccpbdbaaDoorP0
import Derived.Test.YtfebipiccpbdbaaDoorPimplFieldsOk
import Derived.Test.YtfebipiccpbdbaaDoorPimplFieldsOk1
import Derived.Test.YtfebipiccpbdbaaDoorPimplTokenOk
import Derived.Test.YtfebipiccpbdbaaDoorPimplTokenOk1
import Derived.Test.YtfebipiccpbdbaaDoorPimplTrimmed
import Derived.Test.YtfebipiccpbdbaaDoorPimplVisibleOk
import Derived.Test.YtfebipiccpbdbaaDoorPimplareOwn
import Derived.Test.YtfebipiccpbdbaaDoorPimplisBare
import Derived.Test.YtfebipiccpbdbaaDoorPimplisDigit
import Derived.Test.YtfebipiccpbdbaaDoorPimplisField
import Derived.Test.YtfebipiccpbdbaaDoorPimplisLetter
import Derived.Test.YtfebipiccpbdbaaDoorPimplisMethod1
import Derived.Test.YtfebipiccpbdbaaDoorPimplisStatus
import Derived.Test.YtfebipiccpbdbaaDoorPimplisTarget1
import Derived.Test.YtfebipiccpbdbaaDoorPimplisVisible
import Derived.Test.YtfebipiccpbdbaaDoorPimplwithin
import Derived.Test.YtfebipiccpbdbaaDoorRows
import Derived.Test.YtfebipiccpbdbaaDoorTie
import Derived.Test.YtfebipiccpbdbaaDoorXW
import Derived.WalkKit
import Derived.WideShapes
namespace Go.Proofs.YtfebipiccpbdbaaDoor.P
open Go.RowKit Go.Proofs.YtfebipiccpbdbaaDoorW.PrintWords Go.Proofs.YtfebipiccpbdbaaDoorW.PrintLast Go.Proofs.YtfebipiccpbdbaaDoorW.PrintMore
attribute [local go_sem] max2_int min2_int max_two min_two max_three min_three max_four min_four   -- for this text's walks alone
set_option linter.unusedVariables false
set_option linter.unusedSimpArgs false

/-! ### laws_FnExactShowResponse: function 12 -/
def laws_FnExactShowResponse.f (k : Nat) (a0_0 : Int) (l0_1 : List (S65)) (a0_2 : ByteArray) : Option (Bool) := (laws_szResponse.f k a0_0 l0_1 a0_2 1048576).bind fun t102 => (if t102 < 0 then (some true) else ((laws_toResponse.f k a0_0 l0_1 a0_2).bind fun bt103 => ((spec_ShowResponse.f k bt103.1 bt103.2.1 bt103.2.2).bind fun t108 => ((laws_toResponse.f k a0_0 l0_1 a0_2).bind fun bt109 => ((impl_ShowResponse.f bt109.1 bt109.2.1 bt109.2.2).bind fun t115 => (if t115.toList = t108.toList then ((laws_toResponse.f k a0_0 l0_1 a0_2).bind fun bt116 => ((laws_eqResponse.f k bt109.1 bt109.2.1 bt109.2.2 bt116.1 bt116.2.1 bt116.2.2).bind fun t121 => (if t121 = true then (some true) else (some false)))) else (some false)))))))
theorem laws_FnExactShowResponse.mono : ∀ a0 a1 a2 k, LeO (laws_FnExactShowResponse.f k a0 a1 a2) (laws_FnExactShowResponse.f (k + 1) a0 a1 a2) := by
 intro a0 a1 a2 k
 unfold laws_FnExactShowResponse.f
 repeat' first
   | (with_reducible exact laws_eqResponse.mono _ _ _ _ _ _ _)
   | (with_reducible exact laws_szResponse.mono _ _ _ _ _)
   | (with_reducible exact laws_toResponse.mono _ _ _ _)
   | (with_reducible exact spec_ShowResponse.mono _ _ _ _)
   | (with_reducible exact LeO.refl _)
   | (with_reducible exact LeO.none _)
   | (with_reducible refine LeO.ite ?_ ?_)
   | (with_reducible refine LeO.bind ?_ (fun _ => ?_))
   | exact laws_eqResponse.mono _ _ _ _ _ _ _
   | exact laws_szResponse.mono _ _ _ _ _
   | exact laws_toResponse.mono _ _ _ _
   | exact spec_ShowResponse.mono _ _ _ _
   | exact LeO.none _
   | refine LeO.ite ?_ ?_
   | refine LeO.bind ?_ (fun _ => ?_)
set_option maxHeartbeats 8000000 in
set_option maxRecDepth 100000 in
theorem laws_FnExactShowResponse.calls (k : Nat) (a0_0 : Int) (A0_1 : Option Addr) (c0_1 : Nat) (l0_1 : List (S65)) (a0_2 : ByteArray) (r : Bool) (w : World) (hX : XW 6 w) (hr0_1 : Kd.C k65 w A0_1 l0_1.length l0_1) (hc0_1 : l0_1.length ≤ c0_1) (h : laws_FnExactShowResponse.f k a0_0 l0_1 a0_2 = some r) :
  Calls Tryd.prog 12 #[.agg #[.int .i64 a0_0, .slice A0_1 l0_1.length c0_1, .string a0_2]] w fun e w' => e = .returned (.bool r) ∧ Below w.heap.size w w' := by
 have hu44 := Tryd.underlying44
 have hu48 := Tryd.underlying48
 have HR0_1 := Aside0.mk hr0_1
 have HC0_1 := Aside0.mk hc0_1
 clear hr0_1 hc0_1
 have HB := Aside0.mk (Below.refl w.heap.size w)
 have H : ((laws_szResponse.f k a0_0 l0_1 a0_2 1048576).bind fun t102 => (if t102 < 0 then (some true) else ((laws_toResponse.f k a0_0 l0_1 a0_2).bind fun bt103 => ((spec_ShowResponse.f k bt103.1 bt103.2.1 bt103.2.2).bind fun t108 => ((laws_toResponse.f k a0_0 l0_1 a0_2).bind fun bt109 => ((impl_ShowResponse.f bt109.1 bt109.2.1 bt109.2.2).bind fun t115 => (if t115.toList = t108.toList then ((laws_toResponse.f k a0_0 l0_1 a0_2).bind fun bt116 => ((laws_eqResponse.f k bt109.1 bt109.2.1 bt109.2.2 bt116.1 bt116.2.1 bt116.2.2).bind fun t121 => (if t121 = true then (some true) else (some false)))) else (some false)))))))) = some r := h
 clear h
 replace H := Option.bind_eq_some_iff.mp H
 obtain ⟨t102, A20, H⟩ := H
 replace H : (if t102 < 0 then (some true) else ((laws_toResponse.f k a0_0 l0_1 a0_2).bind fun bt103 => ((spec_ShowResponse.f k bt103.1 bt103.2.1 bt103.2.2).bind fun t108 => ((laws_toResponse.f k a0_0 l0_1 a0_2).bind fun bt109 => ((impl_ShowResponse.f bt109.1 bt109.2.1 bt109.2.2).bind fun t115 => (if t115.toList = t108.toList then ((laws_toResponse.f k a0_0 l0_1 a0_2).bind fun bt116 => ((laws_eqResponse.f k bt109.1 bt109.2.1 bt109.2.2 bt116.1 bt116.2.1 bt116.2.2).bind fun t121 => (if t121 = true then (some true) else (some false)))) else (some false))))))) = some r := H
 have A2 := Aside0.mk A20
 clear A20
 by_cases c3 : t102 < 0
 ·
  rw [if_pos c3] at H
  have c3b0 : decide (t102 < 0) = true := decide_eq_true c3
  clear c3
  obtain rfl := Option.some.inj H
  go_enter Tryd.func12, Tryd.ntmps12
  go_wp2_with (first | ((with_reducible refine gate_dst (N := 1) rfl ?_); refine box_event ?hg (N := 1) ?hd (cs := #[.int .i64 a0_0, .slice A0_1 l0_1.length c0_1, .string a0_2]) (t := 44) ?hr ?_; (case hd => rfl); (case hg => rfl); (case hr => first | (go_simp; done) | (go_simp; rfl)); intro gb101 hg w4 hbox hb; have n0_ := Aside0.mk (below_step (by repeat (first | (with_reducible first | exact HB.out | apply below_alloc | apply pw_below_drewN | apply below_drew1) | exact HB.out)) hb); have n1_ := Aside0.mk (hbox); have n2_ := Aside0.mk ((by rw [hg]; exact (below_size (by repeat (first | (with_reducible first | exact HB.out | apply below_alloc | apply pw_below_drewN | apply below_drew1) | exact HB.out))) : w.heap.size ≤ gb101)); have n3_ := Aside0.mk ((by rw [hg]; exact (below_size (by repeat (first | (with_reducible first | exact HB.out | apply below_alloc | apply pw_below_drewN | apply below_drew1) | exact HB.out))) : w.heap.size ≤ gb101)); clear HB; have HB := n0_; have BK101 := n1_; have GW101 := n2_; have GE101 := n3_; clear n0_ n1_ n2_ n3_; clear hb hbox hg; have hcz5_0 : w4.cell? ⟨gb101, 0, none⟩ = some (.int .i64 a0_0) := (blk_cell BK101.out 0).trans rfl; have hcz5_1 : w4.cell? ⟨gb101, 1, none⟩ = some (.slice A0_1 l0_1.length c0_1) := (blk_cell BK101.out 1).trans rfl; have hcz5_2 : w4.cell? ⟨gb101, 2, none⟩ = some (.string a0_2) := (blk_cell BK101.out 2).trans rfl; have hfz5_0 := blk_frozen BK101.out 0; have hfz5_1 := blk_frozen BK101.out 1; have hfz5_2 := blk_frozen BK101.out 2) | ((with_reducible refine gate_callee (f := 33) rfl ?_); refine goesL_ (some 9) rfl rfl Tryd.func33 (by kernel_rfl) rfl #[.agg #[.int .i64 a0_0, .slice A0_1 l0_1.length c0_1, .string a0_2], .int .i64 1048576] rfl (by (try simp only [List.map_toArray, List.map_cons, List.map_nil]); first | done | rfl | (simp only [List.length_drop, List.length_take]; rfl)) ?_; (with_reducible refine (laws_szResponse.calls k a0_0 _ _ l0_1 a0_2 1048576 t102 _ ?side1 ?side2 A2.out).mono ?_); (case side1 => repeat (first | exact (Kd.C_below HR0_1.out HB.out) | (with_reducible refine Kd.C_alloc ?_ _) | (with_reducible refine Kd.C_drewN ?_ _) | (with_reducible refine Kd.C_drew ?_))); (case side2 => exact HC0_1.out); rintro e w6 ⟨rfl, hb⟩; refine ⟨_, rfl, ?_⟩; have n0_ := Aside0.mk (blk_below (g := gb101) (o := .cells #[.int .i64 a0_0, .slice A0_1 l0_1.length c0_1, .string a0_2] 44 (0, 0)) (by (with_reducible repeat (first | refine blk_drewN ?_ _ | refine blk_drew ?_ | refine blk_alloc ?_ _)); exact BK101.out) hb); have n1_ := Aside0.mk (below_step (by repeat (first | (with_reducible first | exact HB.out | apply below_alloc | apply pw_below_drewN | apply below_drew1 | refine below_set ?_ GE101.out) | exact HB.out)) hb); clear BK101; clear HB; have BK101 := n0_; have HB := n1_; clear n0_ n1_; (try clear hb); (try clear hb2); (try clear hk); (try clear hi)))
  go_ret
  exact ⟨by first | rfl | (simp [errW_none, errW_some] <;> rfl) | (simp [*, errW_none, errW_some] <;> rfl), by repeat (first | (with_reducible first | exact HB.out | apply below_alloc | apply pw_below_drewN | apply below_drew1 | refine below_set ?_ GE101.out) | exact HB.out)⟩
 ·
  rw [if_neg c3] at H
  have c3b0 : decide (t102 < 0) = false := decide_eq_false c3
  clear c3
  replace H := Option.bind_eq_some_iff.mp H
  obtain ⟨⟨t103, t104, t107⟩, A70, H⟩ := H
  replace H : ((spec_ShowResponse.f k t103 t104 t107).bind fun t108 => ((laws_toResponse.f k a0_0 l0_1 a0_2).bind fun bt109 => ((impl_ShowResponse.f bt109.1 bt109.2.1 bt109.2.2).bind fun t115 => (if t115.toList = t108.toList then ((laws_toResponse.f k a0_0 l0_1 a0_2).bind fun bt116 => ((laws_eqResponse.f k bt109.1 bt109.2.1 bt109.2.2 bt116.1 bt116.2.1 bt116.2.2).bind fun t121 => (if t121 = true then (some true) else (some false)))) else (some false))))) = some r := H
  have A7 := Aside0.mk A70
  clear A70
  replace H := Option.bind_eq_some_iff.mp H
  obtain ⟨t108, A80, H⟩ := H
  replace H : ((laws_toResponse.f k a0_0 l0_1 a0_2).bind fun bt109 => ((impl_ShowResponse.f bt109.1 bt109.2.1 bt109.2.2).bind fun t115 => (if t115.toList = t108.toList then ((laws_toResponse.f k a0_0 l0_1 a0_2).bind fun bt116 => ((laws_eqResponse.f k bt109.1 bt109.2.1 bt109.2.2 bt116.1 bt116.2.1 bt116.2.2).bind fun t121 => (if t121 = true then (some true) else (some false)))) else (some false)))) = some r := H
  have A8 := Aside0.mk A80
  clear A80
  replace H := Option.bind_eq_some_iff.mp H
  obtain ⟨⟨t109, t110, t113⟩, A90, H⟩ := H
  replace H : ((impl_ShowResponse.f t109 t110 t113).bind fun t115 => (if t115.toList = t108.toList then ((laws_toResponse.f k a0_0 l0_1 a0_2).bind fun bt116 => ((laws_eqResponse.f k t109 t110 t113 bt116.1 bt116.2.1 bt116.2.2).bind fun t121 => (if t121 = true then (some true) else (some false)))) else (some false))) = some r := H
  have A9 := Aside0.mk A90
  clear A90
  replace H := Option.bind_eq_some_iff.mp H
  obtain ⟨t115, A100, H⟩ := H
  replace H : (if t115.toList = t108.toList then ((laws_toResponse.f k a0_0 l0_1 a0_2).bind fun bt116 => ((laws_eqResponse.f k t109 t110 t113 bt116.1 bt116.2.1 bt116.2.2).bind fun t121 => (if t121 = true then (some true) else (some false)))) else (some false)) = some r := H
  have A10 := Aside0.mk A100
  clear A100
  by_cases c11 : t115.toList = t108.toList
  ·
   rw [if_pos c11] at H
   have c11b0 : (t115.toList == t108.toList) = true := beq_iff_eq.mpr c11
   have c11b1 : (t115.toList != t108.toList) = false := bne_eq_false_iff_eq.mpr c11
   clear c11
   replace H := Option.bind_eq_some_iff.mp H
   obtain ⟨⟨t116, t117, t120⟩, A120, H⟩ := H
   replace H : ((laws_eqResponse.f k t109 t110 t113 t116 t117 t120).bind fun t121 => (if t121 = true then (some true) else (some false))) = some r := H
   have A12 := Aside0.mk A120
   clear A120
   replace H := Option.bind_eq_some_iff.mp H
   obtain ⟨t121, A130, H⟩ := H
   replace H : (if t121 = true then (some true) else (some false)) = some r := H
   have A13 := Aside0.mk A130
   clear A130
   by_cases c14 : t121 = true
   ·
    subst c14
    have H1 : (some true) = some r := by rw [if_pos rfl] at H; exact H
    clear H
    have H := H1
    clear H1
    obtain rfl := Option.some.inj H
    go_enter Tryd.func12, Tryd.ntmps12
    try go_wp2_with (first | ((with_reducible refine gate_dst (N := 1) rfl ?_); refine box_event ?hg (N := 1) ?hd (cs := #[.int .i64 a0_0, .slice A0_1 l0_1.length c0_1, .string a0_2]) (t := 44) ?hr ?_; (case hd => rfl); (case hg => rfl); (case hr => first | (go_simp; done) | (go_simp; rfl)); intro gb101 hg w15 hbox hb; have n0_ := Aside0.mk (below_step (by repeat (first | (with_reducible first | exact HB.out | apply below_alloc | apply pw_below_drewN | apply below_drew1) | exact HB.out)) hb); have n1_ := Aside0.mk (hbox); have n2_ := Aside0.mk ((by rw [hg]; exact (below_size (by repeat (first | (with_reducible first | exact HB.out | apply below_alloc | apply pw_below_drewN | apply below_drew1) | exact HB.out))) : w.heap.size ≤ gb101)); have n3_ := Aside0.mk ((by rw [hg]; exact (below_size (by repeat (first | (with_reducible first | exact HB.out | apply below_alloc | apply pw_below_drewN | apply below_drew1) | exact HB.out))) : w.heap.size ≤ gb101)); clear HB; have HB := n0_; have BK101 := n1_; have GW101 := n2_; have GE101 := n3_; clear n0_ n1_ n2_ n3_; clear hb hbox hg; have hcz16_0 : w15.cell? ⟨gb101, 0, none⟩ = some (.int .i64 a0_0) := (blk_cell BK101.out 0).trans rfl; have hcz16_1 : w15.cell? ⟨gb101, 1, none⟩ = some (.slice A0_1 l0_1.length c0_1) := (blk_cell BK101.out 1).trans rfl; have hcz16_2 : w15.cell? ⟨gb101, 2, none⟩ = some (.string a0_2) := (blk_cell BK101.out 2).trans rfl; have hfz16_0 := blk_frozen BK101.out 0; have hfz16_1 := blk_frozen BK101.out 1; have hfz16_2 := blk_frozen BK101.out 2) | ((with_reducible refine gate_callee (f := 33) rfl ?_); refine goesL_ (some 9) rfl rfl Tryd.func33 (by kernel_rfl) rfl #[.agg #[.int .i64 a0_0, .slice A0_1 l0_1.length c0_1, .string a0_2], .int .i64 1048576] rfl (by (try simp only [List.map_toArray, List.map_cons, List.map_nil]); first | done | rfl | (simp only [List.length_drop, List.length_take]; rfl)) ?_; (with_reducible refine (laws_szResponse.calls k a0_0 _ _ l0_1 a0_2 1048576 t102 _ ?side1 ?side2 A2.out).mono ?_); (case side1 => repeat (first | exact (Kd.C_below HR0_1.out HB.out) | (with_reducible refine Kd.C_alloc ?_ _) | (with_reducible refine Kd.C_drewN ?_ _) | (with_reducible refine Kd.C_drew ?_))); (case side2 => exact HC0_1.out); rintro e w17 ⟨rfl, hb⟩; refine ⟨_, rfl, ?_⟩; have n0_ := Aside0.mk (blk_below (g := gb101) (o := .cells #[.int .i64 a0_0, .slice A0_1 l0_1.length c0_1, .string a0_2] 44 (0, 0)) (by (with_reducible repeat (first | refine blk_drewN ?_ _ | refine blk_drew ?_ | refine blk_alloc ?_ _)); exact BK101.out) hb); have n1_ := Aside0.mk (below_step (by repeat (first | (with_reducible first | exact HB.out | apply below_alloc | apply pw_below_drewN | apply below_drew1 | refine below_set ?_ GE101.out) | exact HB.out)) hb); clear BK101; clear HB; have BK101 := n0_; have HB := n1_; clear n0_ n1_; (try clear hb); (try clear hb2); (try clear hk); (try clear hi); have hcz18_0 : w17.cell? ⟨gb101, 0, none⟩ = some (.int .i64 a0_0) := (blk_cell BK101.out 0).trans rfl; have hcz18_1 : w17.cell? ⟨gb101, 1, none⟩ = some (.slice A0_1 l0_1.length c0_1) := (blk_cell BK101.out 1).trans rfl; have hcz18_2 : w17.cell? ⟨gb101, 2, none⟩ = some (.string a0_2) := (blk_cell BK101.out 2).trans rfl; have hfz18_0 := blk_frozen BK101.out 0; have hfz18_1 := blk_frozen BK101.out 1; have hfz18_2 := blk_frozen BK101.out 2) | ((with_reducible refine gate_callee (f := 35) rfl ?_); refine goesL_ (some 13) rfl rfl Tryd.func35 (by kernel_rfl) rfl #[.agg #[.int .i64 a0_0, .slice A0_1 l0_1.length c0_1, .string a0_2]] rfl (by (try simp only [List.map_toArray, List.map_cons, List.map_nil]); first | done | rfl | (simp only [List.length_drop, List.length_take]; rfl)) ?_; (with_reducible refine (laws_toResponse.calls k a0_0 _ _ l0_1 a0_2 t103 t104 t107 _ ?side1 ?side2 A7.out).mono ?_); (case side1 => repeat (first | exact (Kd.C_below HR0_1.out HB.out) | (with_reducible refine Kd.C_alloc ?_ _) | (with_reducible refine Kd.C_drewN ?_ _) | (with_reducible refine Kd.C_drew ?_))); (case side2 => exact HC0_1.out); rintro e w19 ⟨v105, rfl, ho0, hb⟩; refine ⟨_, rfl, ?_⟩; have n0_ := Aside0.mk (Kd.R_lower ho0 (below_size (by repeat (first | (with_reducible first | exact HB.out | apply below_alloc | apply pw_below_drewN | apply below_drew1 | refine below_set ?_ GE101.out) | exact HB.out)))); have n1_ := Aside0.mk (blk_below (g := gb101) (o := .cells #[.int .i64 a0_0, .slice A0_1 l0_1.length c0_1, .string a0_2] 44 (0, 0)) (by (with_reducible repeat (first | refine blk_drewN ?_ _ | refine blk_drew ?_ | refine blk_alloc ?_ _)); exact BK101.out) hb); have n2_ := Aside0.mk (below_step (by repeat (first | (with_reducible first | exact HB.out | apply below_alloc | apply pw_below_drewN | apply below_drew1 | refine below_set ?_ GE101.out) | exact HB.out)) hb); clear BK101; clear HB; have HO106 := n0_; have BK101 := n1_; have HB := n2_; clear n0_ n1_ n2_; (try clear hb); (try clear hb2); (try clear hk); (try clear hi); (try clear ho0); obtain ⟨Ao20, co20, eo20⟩ := Kd.R_slice HO106.out; subst eo20) | ((with_reducible refine gate_callee (f := 45) rfl ?_); refine goesL_ (some 14) rfl rfl Tryd.func45 (by kernel_rfl) rfl #[.agg #[.int .i64 t103, .slice Ao20 t104.length co20, .string t107]] rfl (by (try simp only [List.map_toArray, List.map_cons, List.map_nil]); first | done | rfl | (simp only [List.length_drop, List.length_take]; rfl)) ?_; (with_reducible refine (spec_ShowResponse.calls k t103 _ _ t104 t107 t108 _ ?side1 ?side2 A8.out).mono ?_); (case side1 => repeat (first | exact (Kd.R_reads' HO106.out).2.2 | (with_reducible refine Kd.C_alloc ?_ _) | (with_reducible refine Kd.C_drewN ?_ _) | (with_reducible refine Kd.C_drew ?_))); (case side2 => exact (Kd.R_reads' HO106.out).2.1); rintro e w21 ⟨rfl, hb⟩; refine ⟨_, rfl, ?_⟩; have n0_ := Aside0.mk (Kd.R_below (by (with_reducible repeat (first | apply Kd.R_alloc | apply Kd.R_drewN | apply Kd.R_drew)); exact HO106.out) hb); have n1_ := Aside0.mk (blk_below (g := gb101) (o := .cells #[.int .i64 a0_0, .slice A0_1 l0_1.length c0_1, .string a0_2] 44 (0, 0)) (by (with_reducible repeat (first | refine blk_drewN ?_ _ | refine blk_drew ?_ | refine blk_alloc ?_ _)); exact BK101.out) hb); have n2_ := Aside0.mk (below_step (by repeat (first | (with_reducible first | exact HB.out | apply below_alloc | apply pw_below_drewN | apply below_drew1 | refine below_set ?_ GE101.out) | exact HB.out)) hb); clear HO106; clear BK101; clear HB; have HO106 := n0_; have BK101 := n1_; have HB := n2_; clear n0_ n1_ n2_; (try clear hb); (try clear hb2); (try clear hk); (try clear hi); have hcz22_0 : w21.cell? ⟨gb101, 0, none⟩ = some (.int .i64 a0_0) := (blk_cell BK101.out 0).trans rfl; have hcz22_1 : w21.cell? ⟨gb101, 1, none⟩ = some (.slice A0_1 l0_1.length c0_1) := (blk_cell BK101.out 1).trans rfl; have hcz22_2 : w21.cell? ⟨gb101, 2, none⟩ = some (.string a0_2) := (blk_cell BK101.out 2).trans rfl; have hfz22_0 := blk_frozen BK101.out 0; have hfz22_1 := blk_frozen BK101.out 1; have hfz22_2 := blk_frozen BK101.out 2) | ((with_reducible refine gate_callee (f := 35) rfl ?_); refine goesL_ (some 16) rfl rfl Tryd.func35 (by kernel_rfl) rfl #[.agg #[.int .i64 a0_0, .slice A0_1 l0_1.length c0_1, .string a0_2]] rfl (by (try simp only [List.map_toArray, List.map_cons, List.map_nil]); first | done | rfl | (simp only [List.length_drop, List.length_take]; rfl)) ?_; (with_reducible refine (laws_toResponse.calls k a0_0 _ _ l0_1 a0_2 t109 t110 t113 _ ?side1 ?side2 A9.out).mono ?_); (case side1 => repeat (first | exact (Kd.C_below HR0_1.out HB.out) | (with_reducible refine Kd.C_alloc ?_ _) | (with_reducible refine Kd.C_drewN ?_ _) | (with_reducible refine Kd.C_drew ?_))); (case side2 => exact HC0_1.out); rintro e w23 ⟨v111, rfl, ho0, hb⟩; refine ⟨_, rfl, ?_⟩; have n0_ := Aside0.mk (Kd.R_elder' (by (with_reducible repeat (first | apply Kd.R_alloc | apply Kd.R_drewN | apply Kd.R_drew)); exact HO106.out) (Kd.R_base ho0) hb); have n1_ := Aside0.mk (Kd.R_lower (Kd.R_new' ho0 (Kd.R_lt (by (with_reducible repeat (first | apply Kd.R_alloc | apply Kd.R_drewN | apply Kd.R_drew)); exact HO106.out))) (below_size (by repeat (first | (with_reducible first | exact HB.out | apply below_alloc | apply pw_below_drewN | apply below_drew1 | refine below_set ?_ GE101.out) | exact HB.out)))); have n2_ := Aside0.mk (blk_below (g := gb101) (o := .cells #[.int .i64 a0_0, .slice A0_1 l0_1.length c0_1, .string a0_2] 44 (0, 0)) (by (with_reducible repeat (first | refine blk_drewN ?_ _ | refine blk_drew ?_ | refine blk_alloc ?_ _)); exact BK101.out) hb); have n3_ := Aside0.mk (below_step (by repeat (first | (with_reducible first | exact HB.out | apply below_alloc | apply pw_below_drewN | apply below_drew1 | refine below_set ?_ GE101.out) | exact HB.out)) hb); clear HO106; clear BK101; clear HB; have HO106 := n0_; have HO112 := n1_; have BK101 := n2_; have HB := n3_; clear n0_ n1_ n2_ n3_; (try clear hb); (try clear hb2); (try clear hk); (try clear hi); (try clear ho0)) | ((with_reducible refine gate_dst (N := 5) rfl ?_); refine box_event ?hg (N := 5) ?hd (cs := #[.int .i64 0, .slice none 0 0, .string (⟨#[]⟩ : ByteArray)]) (t := 48) ?hr ?_; (case hd => rfl); (case hg => rfl); (case hr => first | (go_simp; done) | (go_simp; rfl)); intro gb114 hg w24 hbox hb; have n0_ := Aside0.mk (Kd.R_below (by (with_reducible repeat (first | apply Kd.R_alloc | apply Kd.R_drewN | apply Kd.R_drew)); exact HO106.out) hb); have n1_ := Aside0.mk (Kd.R_below (by (with_reducible repeat (first | apply Kd.R_alloc | apply Kd.R_drewN | apply Kd.R_drew)); exact HO112.out) hb); have n2_ := Aside0.mk (blk_below (g := gb101) (o := .cells #[.int .i64 a0_0, .slice A0_1 l0_1.length c0_1, .string a0_2] 44 (0, 0)) (by (with_reducible repeat (first | refine blk_drewN ?_ _ | refine blk_drew ?_ | refine blk_alloc ?_ _)); exact BK101.out) hb); have n3_ := Aside0.mk (below_step (by repeat (first | (with_reducible first | exact HB.out | apply below_alloc | apply pw_below_drewN | apply below_drew1 | refine below_set ?_ GE101.out) | exact HB.out)) hb); have n4_ := Aside0.mk (hbox); have n5_ := Aside0.mk ((by rw [hg]; exact (below_size (by repeat (first | (with_reducible first | exact HB.out | apply below_alloc | apply pw_below_drewN | apply below_drew1 | refine below_set ?_ GE101.out) | exact HB.out))) : w.heap.size ≤ gb114)); have n6_ := Aside0.mk ((by rw [hg]; exact (below_size (by repeat (first | (with_reducible first | exact HB.out | apply below_alloc | apply pw_below_drewN | apply below_drew1 | refine below_set ?_ GE101.out) | exact HB.out))) : w.heap.size ≤ gb114)); have n7_ := Aside0.mk ((by rw [hg]; exact Nat.ne_of_lt (blk_lt (g := gb101) (o := .cells #[.int .i64 a0_0, .slice A0_1 l0_1.length c0_1, .string a0_2] 44 (0, 0)) (by (with_reducible repeat (first | refine blk_drewN ?_ _ | refine blk_drew ?_ | refine blk_alloc ?_ _)); exact BK101.out)) : gb101 ≠ gb114)); have n8_ := Aside0.mk ((by rw [hg]; exact Nat.ne_of_gt (blk_lt (g := gb101) (o := .cells #[.int .i64 a0_0, .slice A0_1 l0_1.length c0_1, .string a0_2] 44 (0, 0)) (by (with_reducible repeat (first | refine blk_drewN ?_ _ | refine blk_drew ?_ | refine blk_alloc ?_ _)); exact BK101.out)) : gb114 ≠ gb101)); clear HO106; clear HO112; clear BK101; clear HB; have HO106 := n0_; have HO112 := n1_; have BK101 := n2_; have HB := n3_; have BK114 := n4_; have GW114 := n5_; have GE114 := n6_; have NB101_114 := n7_; have NB114_101 := n8_; clear n0_ n1_ n2_ n3_ n4_ n5_ n6_ n7_ n8_; clear hb hbox hg; have hnb25 := NB114_101.out; have hnc25 := NB101_114.out; have hcz26_0 : w24.cell? ⟨gb114, 0, none⟩ = some (.int .i64 0) := (blk_cell BK114.out 0).trans rfl; have hcz26_1 : w24.cell? ⟨gb114, 1, none⟩ = some (.slice none 0 0) := (blk_cell BK114.out 1).trans rfl; have hcz26_2 : w24.cell? ⟨gb114, 2, none⟩ = some (.string (⟨#[]⟩ : ByteArray)) := (blk_cell BK114.out 2).trans rfl; have hfz26_0 := blk_frozen BK114.out 0; have hfz26_1 := blk_frozen BK114.out 1; have hfz26_2 := blk_frozen BK114.out 2; obtain ⟨Ao27, co27, eo27⟩ := Kd.R_slice HO112.out; subst eo27) | ((with_reducible refine gate_callee (f := 46) rfl ?_); refine goesL_ (some 18) rfl rfl Tryd.func46 (by kernel_rfl) rfl #[.agg #[.int .i64 t109, .slice Ao27 t110.length co27, .string t113]] rfl (by (try simp only [List.map_toArray, List.map_cons, List.map_nil]); first | done | rfl | (simp only [List.length_drop, List.length_take]; rfl)) ?_; (with_reducible refine (impl_ShowResponse.calls t109 _ _ t110 t113 t115 _ ?side1 ?side2 ?side3 A10.out).mono ?_); (case side1 => exact XW.to (XW.stays hX (by repeat (first | (with_reducible first | exact HB.out | apply below_alloc | apply pw_below_drewN | apply below_drew1 | refine below_set ?_ GE101.out | refine below_set ?_ GE114.out) | exact HB.out))) (by decide)); (case side2 => refine (Kd.R_reads' (e := 67) (base := w.heap.size) (ok := fun k_ => (True ∧ some k_ ≠ (.slice Ao20 t104.length co20 : Value).ownBlock)) (n := t110.length) (c := co27) ?_).2.2; exact (by (with_reducible repeat (first | apply Kd.R_alloc | apply Kd.R_drewN | apply Kd.R_drew)); exact (Kd.R_mono (Kd.R_far (p := ⟨gb114, 2, none⟩) (Kd.R_far (p := ⟨gb114, 1, none⟩) (Kd.R_far (p := ⟨gb114, 0, none⟩) (Kd.R_types HO112.out BK114.out (by decide)) (fun _ hk => hk.2) (.int .i64 t109)) (fun _ hk => hk.2) (.slice Ao27 t110.length co27)) (fun _ hk => hk.2) (.string t113)) (fun _ h_ => h_.1)))); (case side3 => exact (Kd.R_reads' HO112.out).2.1); rintro e w28 ⟨rfl, hb⟩; refine ⟨_, rfl, ?_⟩; have n0_ := Aside0.mk (Kd.R_below (by (with_reducible repeat (first | apply Kd.R_alloc | apply Kd.R_drewN | apply Kd.R_drew)); exact (Kd.R_mono (Kd.R_far (p := ⟨gb114, 2, none⟩) (Kd.R_far (p := ⟨gb114, 1, none⟩) (Kd.R_far (p := ⟨gb114, 0, none⟩) (Kd.R_types HO106.out BK114.out (by decide)) (fun _ hk => hk.2) (.int .i64 t109)) (fun _ hk => hk.2) (.slice Ao27 t110.length co27)) (fun _ hk => hk.2) (.string t113)) (fun _ h_ => h_.1))) hb); have n1_ := Aside0.mk (Kd.R_below (by (with_reducible repeat (first | apply Kd.R_alloc | apply Kd.R_drewN | apply Kd.R_drew)); exact (Kd.R_mono (Kd.R_far (p := ⟨gb114, 2, none⟩) (Kd.R_far (p := ⟨gb114, 1, none⟩) (Kd.R_far (p := ⟨gb114, 0, none⟩) (Kd.R_types HO112.out BK114.out (by decide)) (fun _ hk => hk.2) (.int .i64 t109)) (fun _ hk => hk.2) (.slice Ao27 t110.length co27)) (fun _ hk => hk.2) (.string t113)) (fun _ h_ => h_.1))) hb); have n2_ := Aside0.mk (blk_below (g := gb101) (o := .cells #[.int .i64 a0_0, .slice A0_1 l0_1.length c0_1, .string a0_2] 44 (0, 0)) (by (with_reducible repeat (first | refine blk_drewN ?_ _ | refine blk_drew ?_ | refine blk_alloc ?_ _)); refine blk_far ?_ NB101_114.out _; (with_reducible repeat (first | refine blk_drewN ?_ _ | refine blk_drew ?_ | refine blk_alloc ?_ _)); refine blk_far ?_ NB101_114.out _; (with_reducible repeat (first | refine blk_drewN ?_ _ | refine blk_drew ?_ | refine blk_alloc ?_ _)); refine blk_far ?_ NB101_114.out _; (with_reducible repeat (first | refine blk_drewN ?_ _ | refine blk_drew ?_ | refine blk_alloc ?_ _)); exact BK101.out) hb); have n3_ := Aside0.mk (blk_below (g := gb114) (o := .cells #[.int .i64 t109, .slice Ao27 t110.length co27, .string t113] 48 (0, 0)) (by (with_reducible repeat (first | refine blk_drewN ?_ _ | refine blk_drew ?_ | refine blk_alloc ?_ _)); refine blk_put (cs := #[.int .i64 t109, .slice Ao27 t110.length co27, .string (⟨#[]⟩ : ByteArray)]) ?_ 2 _ rfl; (with_reducible repeat (first | refine blk_drewN ?_ _ | refine blk_drew ?_ | refine blk_alloc ?_ _)); refine blk_put (cs := #[.int .i64 t109, .slice none 0 0, .string (⟨#[]⟩ : ByteArray)]) ?_ 1 _ rfl; (with_reducible repeat (first | refine blk_drewN ?_ _ | refine blk_drew ?_ | refine blk_alloc ?_ _)); refine blk_put (cs := #[.int .i64 0, .slice none 0 0, .string (⟨#[]⟩ : ByteArray)]) ?_ 0 _ rfl; (with_reducible repeat (first | refine blk_drewN ?_ _ | refine blk_drew ?_ | refine blk_alloc ?_ _)); exact BK114.out) hb); have n4_ := Aside0.mk (below_step (by repeat (first | (with_reducible first | exact HB.out | apply below_alloc | apply pw_below_drewN | apply below_drew1 | refine below_set ?_ GE101.out | refine below_set ?_ GE114.out) | exact HB.out)) hb); clear HO106; clear HO112; clear BK101; clear BK114; clear HB; have HO106 := n0_; have HO112 := n1_; have BK101 := n2_; have BK114 := n3_; have HB := n4_; clear n0_ n1_ n2_ n3_ n4_; (try clear hb); (try clear hb2); (try clear hk); (try clear hi)))
    have n0_ := Aside0.mk (Kd.R_drew HO106.out)
    have n1_ := Aside0.mk (Kd.R_drew HO112.out)
    have n2_ := Aside0.mk (blk_drew BK101.out)
    have n3_ := Aside0.mk (blk_drew BK114.out)
    have n4_ := Aside0.mk (below_drew1 HB.out)
    clear HO106
    clear HO112
    clear BK101
    clear BK114
    clear HB
    have HO106 := n0_
    have HO112 := n1_
    have BK101 := n2_
    have BK114 := n3_
    have HB := n4_
    clear n0_ n1_ n2_ n3_ n4_
    refine start_ (n := 5) (S := fun w' => w'.cell? ⟨gb114, 0, none⟩ = some (.int .i64 t109) ∧ w'.cell? ⟨gb114, 1, none⟩ = some (.slice Ao27 t110.length co27) ∧ w'.cell? ⟨gb114, 2, none⟩ = some (.string t113) ∧ w'.cell? ⟨gb101, 0, none⟩ = some (.int .i64 a0_0) ∧ w'.cell? ⟨gb101, 1, none⟩ = some (.slice A0_1 l0_1.length c0_1) ∧ w'.cell? ⟨gb101, 2, none⟩ = some (.string a0_2)) (ds := []) #[false, false, false, false, false] (by kernel_rfl) rfl rfl ⟨(blk_cell BK114.out 0).trans rfl, (blk_cell BK114.out 1).trans rfl, (blk_cell BK114.out 2).trans rfl, (blk_cell BK101.out 0).trans rfl, (blk_cell BK101.out 1).trans rfl, (blk_cell BK101.out 2).trans rfl⟩ (fun hHeld => ?_)
    generalize w28.drew = w29 at HO106 HO112 BK101 BK114 HB hHeld ⊢
    refine take_ (i := 0) (N := some 22) (v := ?_) (a' := ?_) #[true, false, false, false, false] rfl rfl (by kernel_rfl) (fun _ _ _ h => h) (Or.inl ⟨by rfl, ?_⟩) hHeld ?_ ?_
    rotate_left
    ·
     rintro w' ⟨s0, s1, s2, s3, s4, s5⟩
     go_simp
     with_reducible rfl
    rotate_left
    ·
     simp only [Act.put, List.setIfInBounds_toArray, List.set_cons_zero, List.set_cons_succ, i64_w, i32_w]
     rfl
    refine take_ (i := 1) (N := some 23) (v := ?_) (a' := ?_) #[true, true, false, false, false] rfl rfl (by kernel_rfl) (fun _ _ _ h => h) (Or.inl ⟨by rfl, ?_⟩) hHeld ?_ ?_
    rotate_left
    ·
     rintro w' ⟨s0, s1, s2, s3, s4, s5⟩
     go_simp
     with_reducible rfl
    rotate_left
    ·
     simp only [Act.put, List.setIfInBounds_toArray, List.set_cons_zero, List.set_cons_succ, i64_w, i32_w]
     rfl
    refine one_ (i := 2) (N := some 24) #[true, true, true, false, false] rfl rfl (by kernel_rfl) (by decide) (fun K hK => ?_)
    refine goes_ Tryd.func35 (by kernel_rfl) rfl #[.agg #[.int .i64 a0_0, .slice A0_1 l0_1.length c0_1, .string a0_2]] (by rfl) rfl rfl (by (try simp only [List.map_toArray, List.map_cons, List.map_nil]); first | done | rfl | (simp only [List.length_drop, List.length_take]; rfl)) ?_
    with_reducible refine (laws_toResponse.calls k a0_0 _ _ l0_1 a0_2 t116 t117 t120 _ ?side1 ?side2 A12.out).mono ?_
    (case side1 => repeat (first | exact (Kd.C_below HR0_1.out HB.out) | (with_reducible refine Kd.C_alloc ?_ _) | (with_reducible refine Kd.C_drewN ?_ _) | (with_reducible refine Kd.C_drew ?_)))
    (case side2 => exact HC0_1.out)
    rintro e w30 ⟨v118, rfl, ho0, hb⟩
    refine ⟨_, rfl, ?_⟩
    have n0_ := Aside0.mk (Kd.R_elder' (by (with_reducible repeat (first | apply Kd.R_alloc | apply Kd.R_drewN | apply Kd.R_drew)); exact HO106.out) (Kd.R_base ho0) hb)
    have n1_ := Aside0.mk (Kd.R_elder' (by (with_reducible repeat (first | apply Kd.R_alloc | apply Kd.R_drewN | apply Kd.R_drew)); exact HO112.out) (Kd.R_base ho0) hb)
    have n2_ := Aside0.mk (Kd.R_lower (Kd.R_new' (Kd.R_new' ho0 (Kd.R_lt (by (with_reducible repeat (first | apply Kd.R_alloc | apply Kd.R_drewN | apply Kd.R_drew)); exact HO106.out))) (Kd.R_lt (by (with_reducible repeat (first | apply Kd.R_alloc | apply Kd.R_drewN | apply Kd.R_drew)); exact HO112.out))) (below_size (by repeat (first | (with_reducible first | exact HB.out | apply below_alloc | apply pw_below_drewN | apply below_drew1 | refine below_set ?_ GE101.out | refine below_set ?_ GE114.out) | exact HB.out))))
    have n3_ := Aside0.mk (blk_below (g := gb101) (o := .cells #[.int .i64 a0_0, .slice A0_1 l0_1.length c0_1, .string a0_2] 44 (0, 0)) (by (with_reducible repeat (first | refine blk_drewN ?_ _ | refine blk_drew ?_ | refine blk_alloc ?_ _)); exact BK101.out) hb)
    have n4_ := Aside0.mk (blk_below (g := gb114) (o := .cells #[.int .i64 t109, .slice Ao27 t110.length co27, .string t113] 48 (0, 0)) (by (with_reducible repeat (first | refine blk_drewN ?_ _ | refine blk_drew ?_ | refine blk_alloc ?_ _)); exact BK114.out) hb)
    have n5_ := Aside0.mk (below_step (by repeat (first | (with_reducible first | exact HB.out | apply below_alloc | apply pw_below_drewN | apply below_drew1 | refine below_set ?_ GE101.out | refine below_set ?_ GE114.out) | exact HB.out)) hb)
    clear HO106
    clear HO112
    clear BK101
    clear BK114
    clear HB
    have HO106 := n0_
    have HO112 := n1_
    have HO119 := n2_
    have BK101 := n3_
    have BK114 := n4_
    have HB := n5_
    clear n0_ n1_ n2_ n3_ n4_ n5_
    (try clear hb)
    (try clear hb2)
    (try clear hk)
    (try clear hi)
    (try clear ho0)
    obtain ⟨Ao31, co31, eo31⟩ := Kd.R_slice HO119.out
    (first | subst eo31 | (injection eo31 with f1_ f2_ f3_; have f4_ := f1_.symm; have f5_ := f3_.symm; clear f1_ f2_ f3_; subst f4_; subst f5_))
    refine hK.out _ _ ⟨(blk_cell BK114.out 0).trans rfl, (blk_cell BK114.out 1).trans rfl, (blk_cell BK114.out 2).trans rfl, (blk_cell BK101.out 0).trans rfl, (blk_cell BK101.out 1).trans rfl, (blk_cell BK101.out 2).trans rfl⟩ (fun hHeld => ?_)
    clear hK K
    refine norm_ (a' := ?_) ?_ ?_
    rotate_left
    ·
     show Act.put _ (some 24) _ = _
     simp only [Act.put, List.setIfInBounds_toArray, List.set_cons_zero, List.set_cons_succ, i64_w, i32_w]
     rfl
    refine one_ (i := 3) (N := some 25) #[true, true, true, true, false] rfl rfl (by kernel_rfl) (by decide) (fun K hK => ?_)
    refine goes_ Tryd.func37 (by kernel_rfl) rfl #[.agg #[.int .i64 t109, .slice Ao27 t110.length co27, .string t113], .agg #[.int .i64 t116, .slice Ao31 t117.length co31, .string t120]] (by rfl) rfl rfl (by (try simp only [List.map_toArray, List.map_cons, List.map_nil]); first | done | rfl | (simp only [List.length_drop, List.length_take]; rfl)) ?_
    with_reducible refine (laws_eqResponse.calls k t109 _ _ t110 t113 t116 _ _ t117 t120 true _ ?side1 ?side2 ?side3 ?side4 A13.out).mono ?_
    (case side1 => repeat (first | exact (Kd.R_reads' HO112.out).2.2 | (with_reducible refine Kd.C_alloc ?_ _) | (with_reducible refine Kd.C_drewN ?_ _) | (with_reducible refine Kd.C_drew ?_)))
    (case side2 => exact (Kd.R_reads' HO112.out).2.1)
    (case side3 => repeat (first | exact (Kd.R_reads' HO119.out).2.2 | (with_reducible refine Kd.C_alloc ?_ _) | (with_reducible refine Kd.C_drewN ?_ _) | (with_reducible refine Kd.C_drew ?_)))
    (case side4 => exact (Kd.R_reads' HO119.out).2.1)
    rintro e w32 ⟨rfl, hb⟩
    refine ⟨_, rfl, ?_⟩
    have n0_ := Aside0.mk (Kd.R_below (by (with_reducible repeat (first | apply Kd.R_alloc | apply Kd.R_drewN | apply Kd.R_drew)); exact HO106.out) hb)
    have n1_ := Aside0.mk (Kd.R_below (by (with_reducible repeat (first | apply Kd.R_alloc | apply Kd.R_drewN | apply Kd.R_drew)); exact HO112.out) hb)
    have n2_ := Aside0.mk (Kd.R_below (by (with_reducible repeat (first | apply Kd.R_alloc | apply Kd.R_drewN | apply Kd.R_drew)); exact HO119.out) hb)
    have n3_ := Aside0.mk (blk_below (g := gb101) (o := .cells #[.int .i64 a0_0, .slice A0_1 l0_1.length c0_1, .string a0_2] 44 (0, 0)) (by (with_reducible repeat (first | refine blk_drewN ?_ _ | refine blk_drew ?_ | refine blk_alloc ?_ _)); exact BK101.out) hb)
    have n4_ := Aside0.mk (blk_below (g := gb114) (o := .cells #[.int .i64 t109, .slice Ao27 t110.length co27, .string t113] 48 (0, 0)) (by (with_reducible repeat (first | refine blk_drewN ?_ _ | refine blk_drew ?_ | refine blk_alloc ?_ _)); exact BK114.out) hb)
    have n5_ := Aside0.mk (below_step (by repeat (first | (with_reducible first | exact HB.out | apply below_alloc | apply pw_below_drewN | apply below_drew1 | refine below_set ?_ GE101.out | refine below_set ?_ GE114.out) | exact HB.out)) hb)
    clear HO106
    clear HO112
    clear HO119
    clear BK101
    clear BK114
    clear HB
    have HO106 := n0_
    have HO112 := n1_
    have HO119 := n2_
    have BK101 := n3_
    have BK114 := n4_
    have HB := n5_
    clear n0_ n1_ n2_ n3_ n4_ n5_
    (try clear hb)
    (try clear hb2)
    (try clear hk)
    (try clear hi)
    refine hK.out _ _ ⟨(blk_cell BK114.out 0).trans rfl, (blk_cell BK114.out 1).trans rfl, (blk_cell BK114.out 2).trans rfl, (blk_cell BK101.out 0).trans rfl, (blk_cell BK101.out 1).trans rfl, (blk_cell BK101.out 2).trans rfl⟩ (fun hHeld => ?_)
    clear hK K
    refine norm_ (a' := ?_) ?_ ?_
    rotate_left
    ·
     show Act.put _ (some 25) _ = _
     simp only [Act.put, List.setIfInBounds_toArray, List.set_cons_zero, List.set_cons_succ, i64_w, i32_w]
     rfl
    refine pure_ (i := 4) (N := some 26) (v := ?_) (a' := ?_) #[true, true, true, true, true] rfl rfl (by kernel_rfl) (fun _ _ _ h => h) (Or.inl ⟨by rfl, ?_⟩) ?_ ?_
    rotate_left
    ·
     intro w'
     go_simp
     with_reducible rfl
    rotate_left
    ·
     simp only [Act.put, List.setIfInBounds_toArray, List.set_cons_zero, List.set_cons_succ, i64_w, i32_w]
     rfl
    refine done_ (by kernel_rfl) ?_
    try go_wp2
    go_ret
    exact ⟨by first | rfl | (simp [errW_none, errW_some] <;> rfl) | (simp [*, errW_none, errW_some] <;> rfl), by repeat (first | (with_reducible first | exact HB.out | apply below_alloc | apply pw_below_drewN | apply below_drew1 | refine below_set ?_ GE101.out | refine below_set ?_ GE114.out) | exact HB.out)⟩
   ·
    replace c14 := Bool.eq_false_iff.mpr c14
    subst c14
    have H1 : (some false) = some r := by rw [if_neg (show ¬ (false = true) by decide)] at H; exact H
    clear H
    have H := H1
    clear H1
    obtain rfl := Option.some.inj H
    go_enter Tryd.func12, Tryd.ntmps12
    try go_wp2_with (first | ((with_reducible refine gate_dst (N := 1) rfl ?_); refine box_event ?hg (N := 1) ?hd (cs := #[.int .i64 a0_0, .slice A0_1 l0_1.length c0_1, .string a0_2]) (t := 44) ?hr ?_; (case hd => rfl); (case hg => rfl); (case hr => first | (go_simp; done) | (go_simp; rfl)); intro gb101 hg w33 hbox hb; have n0_ := Aside0.mk (below_step (by repeat (first | (with_reducible first | exact HB.out | apply below_alloc | apply pw_below_drewN | apply below_drew1) | exact HB.out)) hb); have n1_ := Aside0.mk (hbox); have n2_ := Aside0.mk ((by rw [hg]; exact (below_size (by repeat (first | (with_reducible first | exact HB.out | apply below_alloc | apply pw_below_drewN | apply below_drew1) | exact HB.out))) : w.heap.size ≤ gb101)); have n3_ := Aside0.mk ((by rw [hg]; exact (below_size (by repeat (first | (with_reducible first | exact HB.out | apply below_alloc | apply pw_below_drewN | apply below_drew1) | exact HB.out))) : w.heap.size ≤ gb101)); clear HB; have HB := n0_; have BK101 := n1_; have GW101 := n2_; have GE101 := n3_; clear n0_ n1_ n2_ n3_; clear hb hbox hg; have hcz34_0 : w33.cell? ⟨gb101, 0, none⟩ = some (.int .i64 a0_0) := (blk_cell BK101.out 0).trans rfl; have hcz34_1 : w33.cell? ⟨gb101, 1, none⟩ = some (.slice A0_1 l0_1.length c0_1) := (blk_cell BK101.out 1).trans rfl; have hcz34_2 : w33.cell? ⟨gb101, 2, none⟩ = some (.string a0_2) := (blk_cell BK101.out 2).trans rfl; have hfz34_0 := blk_frozen BK101.out 0; have hfz34_1 := blk_frozen BK101.out 1; have hfz34_2 := blk_frozen BK101.out 2) | ((with_reducible refine gate_callee (f := 33) rfl ?_); refine goesL_ (some 9) rfl rfl Tryd.func33 (by kernel_rfl) rfl #[.agg #[.int .i64 a0_0, .slice A0_1 l0_1.length c0_1, .string a0_2], .int .i64 1048576] rfl (by (try simp only [List.map_toArray, List.map_cons, List.map_nil]); first | done | rfl | (simp only [List.length_drop, List.length_take]; rfl)) ?_; (with_reducible refine (laws_szResponse.calls k a0_0 _ _ l0_1 a0_2 1048576 t102 _ ?side1 ?side2 A2.out).mono ?_); (case side1 => repeat (first | exact (Kd.C_below HR0_1.out HB.out) | (with_reducible refine Kd.C_alloc ?_ _) | (with_reducible refine Kd.C_drewN ?_ _) | (with_reducible refine Kd.C_drew ?_))); (case side2 => exact HC0_1.out); rintro e w35 ⟨rfl, hb⟩; refine ⟨_, rfl, ?_⟩; have n0_ := Aside0.mk (blk_below (g := gb101) (o := .cells #[.int .i64 a0_0, .slice A0_1 l0_1.length c0_1, .string a0_2] 44 (0, 0)) (by (with_reducible repeat (first | refine blk_drewN ?_ _ | refine blk_drew ?_ | refine blk_alloc ?_ _)); exact BK101.out) hb); have n1_ := Aside0.mk (below_step (by repeat (first | (with_reducible first | exact HB.out | apply below_alloc | apply pw_below_drewN | apply below_drew1 | refine below_set ?_ GE101.out) | exact HB.out)) hb); clear BK101; clear HB; have BK101 := n0_; have HB := n1_; clear n0_ n1_; (try clear hb); (try clear hb2); (try clear hk); (try clear hi); have hcz36_0 : w35.cell? ⟨gb101, 0, none⟩ = some (.int .i64 a0_0) := (blk_cell BK101.out 0).trans rfl; have hcz36_1 : w35.cell? ⟨gb101, 1, none⟩ = some (.slice A0_1 l0_1.length c0_1) := (blk_cell BK101.out 1).trans rfl; have hcz36_2 : w35.cell? ⟨gb101, 2, none⟩ = some (.string a0_2) := (blk_cell BK101.out 2).trans rfl; have hfz36_0 := blk_frozen BK101.out 0; have hfz36_1 := blk_frozen BK101.out 1; have hfz36_2 := blk_frozen BK101.out 2) | ((with_reducible refine gate_callee (f := 35) rfl ?_); refine goesL_ (some 13) rfl rfl Tryd.func35 (by kernel_rfl) rfl #[.agg #[.int .i64 a0_0, .slice A0_1 l0_1.length c0_1, .string a0_2]] rfl (by (try simp only [List.map_toArray, List.map_cons, List.map_nil]); first | done | rfl | (simp only [List.length_drop, List.length_take]; rfl)) ?_; (with_reducible refine (laws_toResponse.calls k a0_0 _ _ l0_1 a0_2 t103 t104 t107 _ ?side1 ?side2 A7.out).mono ?_); (case side1 => repeat (first | exact (Kd.C_below HR0_1.out HB.out) | (with_reducible refine Kd.C_alloc ?_ _) | (with_reducible refine Kd.C_drewN ?_ _) | (with_reducible refine Kd.C_drew ?_))); (case side2 => exact HC0_1.out); rintro e w37 ⟨v105, rfl, ho0, hb⟩; refine ⟨_, rfl, ?_⟩; have n0_ := Aside0.mk (Kd.R_lower ho0 (below_size (by repeat (first | (with_reducible first | exact HB.out | apply below_alloc | apply pw_below_drewN | apply below_drew1 | refine below_set ?_ GE101.out) | exact HB.out)))); have n1_ := Aside0.mk (blk_below (g := gb101) (o := .cells #[.int .i64 a0_0, .slice A0_1 l0_1.length c0_1, .string a0_2] 44 (0, 0)) (by (with_reducible repeat (first | refine blk_drewN ?_ _ | refine blk_drew ?_ | refine blk_alloc ?_ _)); exact BK101.out) hb); have n2_ := Aside0.mk (below_step (by repeat (first | (with_reducible first | exact HB.out | apply below_alloc | apply pw_below_drewN | apply below_drew1 | refine below_set ?_ GE101.out) | exact HB.out)) hb); clear BK101; clear HB; have HO106 := n0_; have BK101 := n1_; have HB := n2_; clear n0_ n1_ n2_; (try clear hb); (try clear hb2); (try clear hk); (try clear hi); (try clear ho0); obtain ⟨Ao38, co38, eo38⟩ := Kd.R_slice HO106.out; subst eo38) | ((with_reducible refine gate_callee (f := 45) rfl ?_); refine goesL_ (some 14) rfl rfl Tryd.func45 (by kernel_rfl) rfl #[.agg #[.int .i64 t103, .slice Ao38 t104.length co38, .string t107]] rfl (by (try simp only [List.map_toArray, List.map_cons, List.map_nil]); first | done | rfl | (simp only [List.length_drop, List.length_take]; rfl)) ?_; (with_reducible refine (spec_ShowResponse.calls k t103 _ _ t104 t107 t108 _ ?side1 ?side2 A8.out).mono ?_); (case side1 => repeat (first | exact (Kd.R_reads' HO106.out).2.2 | (with_reducible refine Kd.C_alloc ?_ _) | (with_reducible refine Kd.C_drewN ?_ _) | (with_reducible refine Kd.C_drew ?_))); (case side2 => exact (Kd.R_reads' HO106.out).2.1); rintro e w39 ⟨rfl, hb⟩; refine ⟨_, rfl, ?_⟩; have n0_ := Aside0.mk (Kd.R_below (by (with_reducible repeat (first | apply Kd.R_alloc | apply Kd.R_drewN | apply Kd.R_drew)); exact HO106.out) hb); have n1_ := Aside0.mk (blk_below (g := gb101) (o := .cells #[.int .i64 a0_0, .slice A0_1 l0_1.length c0_1, .string a0_2] 44 (0, 0)) (by (with_reducible repeat (first | refine blk_drewN ?_ _ | refine blk_drew ?_ | refine blk_alloc ?_ _)); exact BK101.out) hb); have n2_ := Aside0.mk (below_step (by repeat (first | (with_reducible first | exact HB.out | apply below_alloc | apply pw_below_drewN | apply below_drew1 | refine below_set ?_ GE101.out) | exact HB.out)) hb); clear HO106; clear BK101; clear HB; have HO106 := n0_; have BK101 := n1_; have HB := n2_; clear n0_ n1_ n2_; (try clear hb); (try clear hb2); (try clear hk); (try clear hi); have hcz40_0 : w39.cell? ⟨gb101, 0, none⟩ = some (.int .i64 a0_0) := (blk_cell BK101.out 0).trans rfl; have hcz40_1 : w39.cell? ⟨gb101, 1, none⟩ = some (.slice A0_1 l0_1.length c0_1) := (blk_cell BK101.out 1).trans rfl; have hcz40_2 : w39.cell? ⟨gb101, 2, none⟩ = some (.string a0_2) := (blk_cell BK101.out 2).trans rfl; have hfz40_0 := blk_frozen BK101.out 0; have hfz40_1 := blk_frozen BK101.out 1; have hfz40_2 := blk_frozen BK101.out 2) | ((with_reducible refine gate_callee (f := 35) rfl ?_); refine goesL_ (some 16) rfl rfl Tryd.func35 (by kernel_rfl) rfl #[.agg #[.int .i64 a0_0, .slice A0_1 l0_1.length c0_1, .string a0_2]] rfl (by (try simp only [List.map_toArray, List.map_cons, List.map_nil]); first | done | rfl | (simp only [List.length_drop, List.length_take]; rfl)) ?_; (with_reducible refine (laws_toResponse.calls k a0_0 _ _ l0_1 a0_2 t109 t110 t113 _ ?side1 ?side2 A9.out).mono ?_); (case side1 => repeat (first | exact (Kd.C_below HR0_1.out HB.out) | (with_reducible refine Kd.C_alloc ?_ _) | (with_reducible refine Kd.C_drewN ?_ _) | (with_reducible refine Kd.C_drew ?_))); (case side2 => exact HC0_1.out); rintro e w41 ⟨v111, rfl, ho0, hb⟩; refine ⟨_, rfl, ?_⟩; have n0_ := Aside0.mk (Kd.R_elder' (by (with_reducible repeat (first | apply Kd.R_alloc | apply Kd.R_drewN | apply Kd.R_drew)); exact HO106.out) (Kd.R_base ho0) hb); have n1_ := Aside0.mk (Kd.R_lower (Kd.R_new' ho0 (Kd.R_lt (by (with_reducible repeat (first | apply Kd.R_alloc | apply Kd.R_drewN | apply Kd.R_drew)); exact HO106.out))) (below_size (by repeat (first | (with_reducible first | exact HB.out | apply below_alloc | apply pw_below_drewN | apply below_drew1 | refine below_set ?_ GE101.out) | exact HB.out)))); have n2_ := Aside0.mk (blk_below (g := gb101) (o := .cells #[.int .i64 a0_0, .slice A0_1 l0_1.length c0_1, .string a0_2] 44 (0, 0)) (by (with_reducible repeat (first | refine blk_drewN ?_ _ | refine blk_drew ?_ | refine blk_alloc ?_ _)); exact BK101.out) hb); have n3_ := Aside0.mk (below_step (by repeat (first | (with_reducible first | exact HB.out | apply below_alloc | apply pw_below_drewN | apply below_drew1 | refine below_set ?_ GE101.out) | exact HB.out)) hb); clear HO106; clear BK101; clear HB; have HO106 := n0_; have HO112 := n1_; have BK101 := n2_; have HB := n3_; clear n0_ n1_ n2_ n3_; (try clear hb); (try clear hb2); (try clear hk); (try clear hi); (try clear ho0)) | ((with_reducible refine gate_dst (N := 5) rfl ?_); refine box_event ?hg (N := 5) ?hd (cs := #[.int .i64 0, .slice none 0 0, .string (⟨#[]⟩ : ByteArray)]) (t := 48) ?hr ?_; (case hd => rfl); (case hg => rfl); (case hr => first | (go_simp; done) | (go_simp; rfl)); intro gb114 hg w42 hbox hb; have n0_ := Aside0.mk (Kd.R_below (by (with_reducible repeat (first | apply Kd.R_alloc | apply Kd.R_drewN | apply Kd.R_drew)); exact HO106.out) hb); have n1_ := Aside0.mk (Kd.R_below (by (with_reducible repeat (first | apply Kd.R_alloc | apply Kd.R_drewN | apply Kd.R_drew)); exact HO112.out) hb); have n2_ := Aside0.mk (blk_below (g := gb101) (o := .cells #[.int .i64 a0_0, .slice A0_1 l0_1.length c0_1, .string a0_2] 44 (0, 0)) (by (with_reducible repeat (first | refine blk_drewN ?_ _ | refine blk_drew ?_ | refine blk_alloc ?_ _)); exact BK101.out) hb); have n3_ := Aside0.mk (below_step (by repeat (first | (with_reducible first | exact HB.out | apply below_alloc | apply pw_below_drewN | apply below_drew1 | refine below_set ?_ GE101.out) | exact HB.out)) hb); have n4_ := Aside0.mk (hbox); have n5_ := Aside0.mk ((by rw [hg]; exact (below_size (by repeat (first | (with_reducible first | exact HB.out | apply below_alloc | apply pw_below_drewN | apply below_drew1 | refine below_set ?_ GE101.out) | exact HB.out))) : w.heap.size ≤ gb114)); have n6_ := Aside0.mk ((by rw [hg]; exact (below_size (by repeat (first | (with_reducible first | exact HB.out | apply below_alloc | apply pw_below_drewN | apply below_drew1 | refine below_set ?_ GE101.out) | exact HB.out))) : w.heap.size ≤ gb114)); have n7_ := Aside0.mk ((by rw [hg]; exact Nat.ne_of_lt (blk_lt (g := gb101) (o := .cells #[.int .i64 a0_0, .slice A0_1 l0_1.length c0_1, .string a0_2] 44 (0, 0)) (by (with_reducible repeat (first | refine blk_drewN ?_ _ | refine blk_drew ?_ | refine blk_alloc ?_ _)); exact BK101.out)) : gb101 ≠ gb114)); have n8_ := Aside0.mk ((by rw [hg]; exact Nat.ne_of_gt (blk_lt (g := gb101) (o := .cells #[.int .i64 a0_0, .slice A0_1 l0_1.length c0_1, .string a0_2] 44 (0, 0)) (by (with_reducible repeat (first | refine blk_drewN ?_ _ | refine blk_drew ?_ | refine blk_alloc ?_ _)); exact BK101.out)) : gb114 ≠ gb101)); clear HO106; clear HO112; clear BK101; clear HB; have HO106 := n0_; have HO112 := n1_; have BK101 := n2_; have HB := n3_; have BK114 := n4_; have GW114 := n5_; have GE114 := n6_; have NB101_114 := n7_; have NB114_101 := n8_; clear n0_ n1_ n2_ n3_ n4_ n5_ n6_ n7_ n8_; clear hb hbox hg; have hnb43 := NB114_101.out; have hnc43 := NB101_114.out; have hcz44_0 : w42.cell? ⟨gb114, 0, none⟩ = some (.int .i64 0) := (blk_cell BK114.out 0).trans rfl; have hcz44_1 : w42.cell? ⟨gb114, 1, none⟩ = some (.slice none 0 0) := (blk_cell BK114.out 1).trans rfl; have hcz44_2 : w42.cell? ⟨gb114, 2, none⟩ = some (.string (⟨#[]⟩ : ByteArray)) := (blk_cell BK114.out 2).trans rfl; have hfz44_0 := blk_frozen BK114.out 0; have hfz44_1 := blk_frozen BK114.out 1; have hfz44_2 := blk_frozen BK114.out 2; obtain ⟨Ao45, co45, eo45⟩ := Kd.R_slice HO112.out; subst eo45) | ((with_reducible refine gate_callee (f := 46) rfl ?_); refine goesL_ (some 18) rfl rfl Tryd.func46 (by kernel_rfl) rfl #[.agg #[.int .i64 t109, .slice Ao45 t110.length co45, .string t113]] rfl (by (try simp only [List.map_toArray, List.map_cons, List.map_nil]); first | done | rfl | (simp only [List.length_drop, List.length_take]; rfl)) ?_; (with_reducible refine (impl_ShowResponse.calls t109 _ _ t110 t113 t115 _ ?side1 ?side2 ?side3 A10.out).mono ?_); (case side1 => exact XW.to (XW.stays hX (by repeat (first | (with_reducible first | exact HB.out | apply below_alloc | apply pw_below_drewN | apply below_drew1 | refine below_set ?_ GE101.out | refine below_set ?_ GE114.out) | exact HB.out))) (by decide)); (case side2 => refine (Kd.R_reads' (e := 67) (base := w.heap.size) (ok := fun k_ => (True ∧ some k_ ≠ (.slice Ao38 t104.length co38 : Value).ownBlock)) (n := t110.length) (c := co45) ?_).2.2; exact (by (with_reducible repeat (first | apply Kd.R_alloc | apply Kd.R_drewN | apply Kd.R_drew)); exact (Kd.R_mono (Kd.R_far (p := ⟨gb114, 2, none⟩) (Kd.R_far (p := ⟨gb114, 1, none⟩) (Kd.R_far (p := ⟨gb114, 0, none⟩) (Kd.R_types HO112.out BK114.out (by decide)) (fun _ hk => hk.2) (.int .i64 t109)) (fun _ hk => hk.2) (.slice Ao45 t110.length co45)) (fun _ hk => hk.2) (.string t113)) (fun _ h_ => h_.1)))); (case side3 => exact (Kd.R_reads' HO112.out).2.1); rintro e w46 ⟨rfl, hb⟩; refine ⟨_, rfl, ?_⟩; have n0_ := Aside0.mk (Kd.R_below (by (with_reducible repeat (first | apply Kd.R_alloc | apply Kd.R_drewN | apply Kd.R_drew)); exact (Kd.R_mono (Kd.R_far (p := ⟨gb114, 2, none⟩) (Kd.R_far (p := ⟨gb114, 1, none⟩) (Kd.R_far (p := ⟨gb114, 0, none⟩) (Kd.R_types HO106.out BK114.out (by decide)) (fun _ hk => hk.2) (.int .i64 t109)) (fun _ hk => hk.2) (.slice Ao45 t110.length co45)) (fun _ hk => hk.2) (.string t113)) (fun _ h_ => h_.1))) hb); have n1_ := Aside0.mk (Kd.R_below (by (with_reducible repeat (first | apply Kd.R_alloc | apply Kd.R_drewN | apply Kd.R_drew)); exact (Kd.R_mono (Kd.R_far (p := ⟨gb114, 2, none⟩) (Kd.R_far (p := ⟨gb114, 1, none⟩) (Kd.R_far (p := ⟨gb114, 0, none⟩) (Kd.R_types HO112.out BK114.out (by decide)) (fun _ hk => hk.2) (.int .i64 t109)) (fun _ hk => hk.2) (.slice Ao45 t110.length co45)) (fun _ hk => hk.2) (.string t113)) (fun _ h_ => h_.1))) hb); have n2_ := Aside0.mk (blk_below (g := gb101) (o := .cells #[.int .i64 a0_0, .slice A0_1 l0_1.length c0_1, .string a0_2] 44 (0, 0)) (by (with_reducible repeat (first | refine blk_drewN ?_ _ | refine blk_drew ?_ | refine blk_alloc ?_ _)); refine blk_far ?_ NB101_114.out _; (with_reducible repeat (first | refine blk_drewN ?_ _ | refine blk_drew ?_ | refine blk_alloc ?_ _)); refine blk_far ?_ NB101_114.out _; (with_reducible repeat (first | refine blk_drewN ?_ _ | refine blk_drew ?_ | refine blk_alloc ?_ _)); refine blk_far ?_ NB101_114.out _; (with_reducible repeat (first | refine blk_drewN ?_ _ | refine blk_drew ?_ | refine blk_alloc ?_ _)); exact BK101.out) hb); have n3_ := Aside0.mk (blk_below (g := gb114) (o := .cells #[.int .i64 t109, .slice Ao45 t110.length co45, .string t113] 48 (0, 0)) (by (with_reducible repeat (first | refine blk_drewN ?_ _ | refine blk_drew ?_ | refine blk_alloc ?_ _)); refine blk_put (cs := #[.int .i64 t109, .slice Ao45 t110.length co45, .string (⟨#[]⟩ : ByteArray)]) ?_ 2 _ rfl; (with_reducible repeat (first | refine blk_drewN ?_ _ | refine blk_drew ?_ | refine blk_alloc ?_ _)); refine blk_put (cs := #[.int .i64 t109, .slice none 0 0, .string (⟨#[]⟩ : ByteArray)]) ?_ 1 _ rfl; (with_reducible repeat (first | refine blk_drewN ?_ _ | refine blk_drew ?_ | refine blk_alloc ?_ _)); refine blk_put (cs := #[.int .i64 0, .slice none 0 0, .string (⟨#[]⟩ : ByteArray)]) ?_ 0 _ rfl; (with_reducible repeat (first | refine blk_drewN ?_ _ | refine blk_drew ?_ | refine blk_alloc ?_ _)); exact BK114.out) hb); have n4_ := Aside0.mk (below_step (by repeat (first | (with_reducible first | exact HB.out | apply below_alloc | apply pw_below_drewN | apply below_drew1 | refine below_set ?_ GE101.out | refine below_set ?_ GE114.out) | exact HB.out)) hb); clear HO106; clear HO112; clear BK101; clear BK114; clear HB; have HO106 := n0_; have HO112 := n1_; have BK101 := n2_; have BK114 := n3_; have HB := n4_; clear n0_ n1_ n2_ n3_ n4_; (try clear hb); (try clear hb2); (try clear hk); (try clear hi)))
    have n0_ := Aside0.mk (Kd.R_drew HO106.out)
    have n1_ := Aside0.mk (Kd.R_drew HO112.out)
    have n2_ := Aside0.mk (blk_drew BK101.out)
    have n3_ := Aside0.mk (blk_drew BK114.out)
    have n4_ := Aside0.mk (below_drew1 HB.out)
    clear HO106
    clear HO112
    clear BK101
    clear BK114
    clear HB
    have HO106 := n0_
    have HO112 := n1_
    have BK101 := n2_
    have BK114 := n3_
    have HB := n4_
    clear n0_ n1_ n2_ n3_ n4_
    refine start_ (n := 5) (S := fun w' => w'.cell? ⟨gb114, 0, none⟩ = some (.int .i64 t109) ∧ w'.cell? ⟨gb114, 1, none⟩ = some (.slice Ao45 t110.length co45) ∧ w'.cell? ⟨gb114, 2, none⟩ = some (.string t113) ∧ w'.cell? ⟨gb101, 0, none⟩ = some (.int .i64 a0_0) ∧ w'.cell? ⟨gb101, 1, none⟩ = some (.slice A0_1 l0_1.length c0_1) ∧ w'.cell? ⟨gb101, 2, none⟩ = some (.string a0_2)) (ds := []) #[false, false, false, false, false] (by kernel_rfl) rfl rfl ⟨(blk_cell BK114.out 0).trans rfl, (blk_cell BK114.out 1).trans rfl, (blk_cell BK114.out 2).trans rfl, (blk_cell BK101.out 0).trans rfl, (blk_cell BK101.out 1).trans rfl, (blk_cell BK101.out 2).trans rfl⟩ (fun hHeld => ?_)
    generalize w46.drew = w47 at HO106 HO112 BK101 BK114 HB hHeld ⊢
    refine take_ (i := 0) (N := some 22) (v := ?_) (a' := ?_) #[true, false, false, false, false] rfl rfl (by kernel_rfl) (fun _ _ _ h => h) (Or.inl ⟨by rfl, ?_⟩) hHeld ?_ ?_
    rotate_left
    ·
     rintro w' ⟨s0, s1, s2, s3, s4, s5⟩
     go_simp
     with_reducible rfl
    rotate_left
    ·
     simp only [Act.put, List.setIfInBounds_toArray, List.set_cons_zero, List.set_cons_succ, i64_w, i32_w]
     rfl
    refine take_ (i := 1) (N := some 23) (v := ?_) (a' := ?_) #[true, true, false, false, false] rfl rfl (by kernel_rfl) (fun _ _ _ h => h) (Or.inl ⟨by rfl, ?_⟩) hHeld ?_ ?_
    rotate_left
    ·
     rintro w' ⟨s0, s1, s2, s3, s4, s5⟩
     go_simp
     with_reducible rfl
    rotate_left
    ·
     simp only [Act.put, List.setIfInBounds_toArray, List.set_cons_zero, List.set_cons_succ, i64_w, i32_w]
     rfl
    refine one_ (i := 2) (N := some 24) #[true, true, true, false, false] rfl rfl (by kernel_rfl) (by decide) (fun K hK => ?_)
    refine goes_ Tryd.func35 (by kernel_rfl) rfl #[.agg #[.int .i64 a0_0, .slice A0_1 l0_1.length c0_1, .string a0_2]] (by rfl) rfl rfl (by (try simp only [List.map_toArray, List.map_cons, List.map_nil]); first | done | rfl | (simp only [List.length_drop, List.length_take]; rfl)) ?_
    with_reducible refine (laws_toResponse.calls k a0_0 _ _ l0_1 a0_2 t116 t117 t120 _ ?side1 ?side2 A12.out).mono ?_
    (case side1 => repeat (first | exact (Kd.C_below HR0_1.out HB.out) | (with_reducible refine Kd.C_alloc ?_ _) | (with_reducible refine Kd.C_drewN ?_ _) | (with_reducible refine Kd.C_drew ?_)))
    (case side2 => exact HC0_1.out)
    rintro e w48 ⟨v118, rfl, ho0, hb⟩
    refine ⟨_, rfl, ?_⟩
    have n0_ := Aside0.mk (Kd.R_elder' (by (with_reducible repeat (first | apply Kd.R_alloc | apply Kd.R_drewN | apply Kd.R_drew)); exact HO106.out) (Kd.R_base ho0) hb)
    have n1_ := Aside0.mk (Kd.R_elder' (by (with_reducible repeat (first | apply Kd.R_alloc | apply Kd.R_drewN | apply Kd.R_drew)); exact HO112.out) (Kd.R_base ho0) hb)
    have n2_ := Aside0.mk (Kd.R_lower (Kd.R_new' (Kd.R_new' ho0 (Kd.R_lt (by (with_reducible repeat (first | apply Kd.R_alloc | apply Kd.R_drewN | apply Kd.R_drew)); exact HO106.out))) (Kd.R_lt (by (with_reducible repeat (first | apply Kd.R_alloc | apply Kd.R_drewN | apply Kd.R_drew)); exact HO112.out))) (below_size (by repeat (first | (with_reducible first | exact HB.out | apply below_alloc | apply pw_below_drewN | apply below_drew1 | refine below_set ?_ GE101.out | refine below_set ?_ GE114.out) | exact HB.out))))
    have n3_ := Aside0.mk (blk_below (g := gb101) (o := .cells #[.int .i64 a0_0, .slice A0_1 l0_1.length c0_1, .string a0_2] 44 (0, 0)) (by (with_reducible repeat (first | refine blk_drewN ?_ _ | refine blk_drew ?_ | refine blk_alloc ?_ _)); exact BK101.out) hb)
    have n4_ := Aside0.mk (blk_below (g := gb114) (o := .cells #[.int .i64 t109, .slice Ao45 t110.length co45, .string t113] 48 (0, 0)) (by (with_reducible repeat (first | refine blk_drewN ?_ _ | refine blk_drew ?_ | refine blk_alloc ?_ _)); exact BK114.out) hb)
    have n5_ := Aside0.mk (below_step (by repeat (first | (with_reducible first | exact HB.out | apply below_alloc | apply pw_below_drewN | apply below_drew1 | refine below_set ?_ GE101.out | refine below_set ?_ GE114.out) | exact HB.out)) hb)
    clear HO106
    clear HO112
    clear BK101
    clear BK114
    clear HB
    have HO106 := n0_
    have HO112 := n1_
    have HO119 := n2_
    have BK101 := n3_
    have BK114 := n4_
    have HB := n5_
    clear n0_ n1_ n2_ n3_ n4_ n5_
    (try clear hb)
    (try clear hb2)
    (try clear hk)
    (try clear hi)
    (try clear ho0)
    obtain ⟨Ao49, co49, eo49⟩ := Kd.R_slice HO119.out
    (first | subst eo49 | (injection eo49 with f1_ f2_ f3_; have f4_ := f1_.symm; have f5_ := f3_.symm; clear f1_ f2_ f3_; subst f4_; subst f5_))
    refine hK.out _ _ ⟨(blk_cell BK114.out 0).trans rfl, (blk_cell BK114.out 1).trans rfl, (blk_cell BK114.out 2).trans rfl, (blk_cell BK101.out 0).trans rfl, (blk_cell BK101.out 1).trans rfl, (blk_cell BK101.out 2).trans rfl⟩ (fun hHeld => ?_)
    clear hK K
    refine norm_ (a' := ?_) ?_ ?_
    rotate_left
    ·
     show Act.put _ (some 24) _ = _
     simp only [Act.put, List.setIfInBounds_toArray, List.set_cons_zero, List.set_cons_succ, i64_w, i32_w]
     rfl
    refine one_ (i := 3) (N := some 25) #[true, true, true, true, false] rfl rfl (by kernel_rfl) (by decide) (fun K hK => ?_)
    refine goes_ Tryd.func37 (by kernel_rfl) rfl #[.agg #[.int .i64 t109, .slice Ao45 t110.length co45, .string t113], .agg #[.int .i64 t116, .slice Ao49 t117.length co49, .string t120]] (by rfl) rfl rfl (by (try simp only [List.map_toArray, List.map_cons, List.map_nil]); first | done | rfl | (simp only [List.length_drop, List.length_take]; rfl)) ?_
    with_reducible refine (laws_eqResponse.calls k t109 _ _ t110 t113 t116 _ _ t117 t120 false _ ?side1 ?side2 ?side3 ?side4 A13.out).mono ?_
    (case side1 => repeat (first | exact (Kd.R_reads' HO112.out).2.2 | (with_reducible refine Kd.C_alloc ?_ _) | (with_reducible refine Kd.C_drewN ?_ _) | (with_reducible refine Kd.C_drew ?_)))
    (case side2 => exact (Kd.R_reads' HO112.out).2.1)
    (case side3 => repeat (first | exact (Kd.R_reads' HO119.out).2.2 | (with_reducible refine Kd.C_alloc ?_ _) | (with_reducible refine Kd.C_drewN ?_ _) | (with_reducible refine Kd.C_drew ?_)))
    (case side4 => exact (Kd.R_reads' HO119.out).2.1)
    rintro e w50 ⟨rfl, hb⟩
    refine ⟨_, rfl, ?_⟩
    have n0_ := Aside0.mk (Kd.R_below (by (with_reducible repeat (first | apply Kd.R_alloc | apply Kd.R_drewN | apply Kd.R_drew)); exact HO106.out) hb)
    have n1_ := Aside0.mk (Kd.R_below (by (with_reducible repeat (first | apply Kd.R_alloc | apply Kd.R_drewN | apply Kd.R_drew)); exact HO112.out) hb)
    have n2_ := Aside0.mk (Kd.R_below (by (with_reducible repeat (first | apply Kd.R_alloc | apply Kd.R_drewN | apply Kd.R_drew)); exact HO119.out) hb)
    have n3_ := Aside0.mk (blk_below (g := gb101) (o := .cells #[.int .i64 a0_0, .slice A0_1 l0_1.length c0_1, .string a0_2] 44 (0, 0)) (by (with_reducible repeat (first | refine blk_drewN ?_ _ | refine blk_drew ?_ | refine blk_alloc ?_ _)); exact BK101.out) hb)
    have n4_ := Aside0.mk (blk_below (g := gb114) (o := .cells #[.int .i64 t109, .slice Ao45 t110.length co45, .string t113] 48 (0, 0)) (by (with_reducible repeat (first | refine blk_drewN ?_ _ | refine blk_drew ?_ | refine blk_alloc ?_ _)); exact BK114.out) hb)
    have n5_ := Aside0.mk (below_step (by repeat (first | (with_reducible first | exact HB.out | apply below_alloc | apply pw_below_drewN | apply below_drew1 | refine below_set ?_ GE101.out | refine below_set ?_ GE114.out) | exact HB.out)) hb)
    clear HO106
    clear HO112
    clear HO119
    clear BK101
    clear BK114
    clear HB
    have HO106 := n0_
    have HO112 := n1_
    have HO119 := n2_
    have BK101 := n3_
    have BK114 := n4_
    have HB := n5_
    clear n0_ n1_ n2_ n3_ n4_ n5_
    (try clear hb)
    (try clear hb2)
    (try clear hk)
    (try clear hi)
    refine hK.out _ _ ⟨(blk_cell BK114.out 0).trans rfl, (blk_cell BK114.out 1).trans rfl, (blk_cell BK114.out 2).trans rfl, (blk_cell BK101.out 0).trans rfl, (blk_cell BK101.out 1).trans rfl, (blk_cell BK101.out 2).trans rfl⟩ (fun hHeld => ?_)
    clear hK K
    refine norm_ (a' := ?_) ?_ ?_
    rotate_left
    ·
     show Act.put _ (some 25) _ = _
     simp only [Act.put, List.setIfInBounds_toArray, List.set_cons_zero, List.set_cons_succ, i64_w, i32_w]
     rfl
    refine pure_ (i := 4) (N := some 26) (v := ?_) (a' := ?_) #[true, true, true, true, true] rfl rfl (by kernel_rfl) (fun _ _ _ h => h) (Or.inl ⟨by rfl, ?_⟩) ?_ ?_
    rotate_left
    ·
     intro w'
     go_simp
     with_reducible rfl
    rotate_left
    ·
     simp only [Act.put, List.setIfInBounds_toArray, List.set_cons_zero, List.set_cons_succ, i64_w, i32_w]
     rfl
    refine done_ (by kernel_rfl) ?_
    try go_wp2
    go_ret
    exact ⟨by first | rfl | (simp [errW_none, errW_some] <;> rfl) | (simp [*, errW_none, errW_some] <;> rfl), by repeat (first | (with_reducible first | exact HB.out | apply below_alloc | apply pw_below_drewN | apply below_drew1 | refine below_set ?_ GE101.out | refine below_set ?_ GE114.out) | exact HB.out)⟩
  ·
   rw [if_neg c11] at H
   have c11b0 : (t115.toList == t108.toList) = false := beq_eq_false_iff_ne.mpr c11
   have c11b1 : (t115.toList != t108.toList) = true := bne_iff_ne.mpr c11
   obtain rfl := Option.some.inj H
   go_enter Tryd.func12, Tryd.ntmps12
   go_wp2_with (first | ((with_reducible refine gate_dst (N := 1) rfl ?_); refine box_event ?hg (N := 1) ?hd (cs := #[.int .i64 a0_0, .slice A0_1 l0_1.length c0_1, .string a0_2]) (t := 44) ?hr ?_; (case hd => rfl); (case hg => rfl); (case hr => first | (go_simp; done) | (go_simp; rfl)); intro gb101 hg w51 hbox hb; have n0_ := Aside0.mk (below_step (by repeat (first | (with_reducible first | exact HB.out | apply below_alloc | apply pw_below_drewN | apply below_drew1) | exact HB.out)) hb); have n1_ := Aside0.mk (hbox); have n2_ := Aside0.mk ((by rw [hg]; exact (below_size (by repeat (first | (with_reducible first | exact HB.out | apply below_alloc | apply pw_below_drewN | apply below_drew1) | exact HB.out))) : w.heap.size ≤ gb101)); have n3_ := Aside0.mk ((by rw [hg]; exact (below_size (by repeat (first | (with_reducible first | exact HB.out | apply below_alloc | apply pw_below_drewN | apply below_drew1) | exact HB.out))) : w.heap.size ≤ gb101)); clear HB; have HB := n0_; have BK101 := n1_; have GW101 := n2_; have GE101 := n3_; clear n0_ n1_ n2_ n3_; clear hb hbox hg; have hcz52_0 : w51.cell? ⟨gb101, 0, none⟩ = some (.int .i64 a0_0) := (blk_cell BK101.out 0).trans rfl; have hcz52_1 : w51.cell? ⟨gb101, 1, none⟩ = some (.slice A0_1 l0_1.length c0_1) := (blk_cell BK101.out 1).trans rfl; have hcz52_2 : w51.cell? ⟨gb101, 2, none⟩ = some (.string a0_2) := (blk_cell BK101.out 2).trans rfl; have hfz52_0 := blk_frozen BK101.out 0; have hfz52_1 := blk_frozen BK101.out 1; have hfz52_2 := blk_frozen BK101.out 2) | ((with_reducible refine gate_callee (f := 33) rfl ?_); refine goesL_ (some 9) rfl rfl Tryd.func33 (by kernel_rfl) rfl #[.agg #[.int .i64 a0_0, .slice A0_1 l0_1.length c0_1, .string a0_2], .int .i64 1048576] rfl (by (try simp only [List.map_toArray, List.map_cons, List.map_nil]); first | done | rfl | (simp only [List.length_drop, List.length_take]; rfl)) ?_; (with_reducible refine (laws_szResponse.calls k a0_0 _ _ l0_1 a0_2 1048576 t102 _ ?side1 ?side2 A2.out).mono ?_); (case side1 => repeat (first | exact (Kd.C_below HR0_1.out HB.out) | (with_reducible refine Kd.C_alloc ?_ _) | (with_reducible refine Kd.C_drewN ?_ _) | (with_reducible refine Kd.C_drew ?_))); (case side2 => exact HC0_1.out); rintro e w53 ⟨rfl, hb⟩; refine ⟨_, rfl, ?_⟩; have n0_ := Aside0.mk (blk_below (g := gb101) (o := .cells #[.int .i64 a0_0, .slice A0_1 l0_1.length c0_1, .string a0_2] 44 (0, 0)) (by (with_reducible repeat (first | refine blk_drewN ?_ _ | refine blk_drew ?_ | refine blk_alloc ?_ _)); exact BK101.out) hb); have n1_ := Aside0.mk (below_step (by repeat (first | (with_reducible first | exact HB.out | apply below_alloc | apply pw_below_drewN | apply below_drew1 | refine below_set ?_ GE101.out) | exact HB.out)) hb); clear BK101; clear HB; have BK101 := n0_; have HB := n1_; clear n0_ n1_; (try clear hb); (try clear hb2); (try clear hk); (try clear hi); have hcz54_0 : w53.cell? ⟨gb101, 0, none⟩ = some (.int .i64 a0_0) := (blk_cell BK101.out 0).trans rfl; have hcz54_1 : w53.cell? ⟨gb101, 1, none⟩ = some (.slice A0_1 l0_1.length c0_1) := (blk_cell BK101.out 1).trans rfl; have hcz54_2 : w53.cell? ⟨gb101, 2, none⟩ = some (.string a0_2) := (blk_cell BK101.out 2).trans rfl; have hfz54_0 := blk_frozen BK101.out 0; have hfz54_1 := blk_frozen BK101.out 1; have hfz54_2 := blk_frozen BK101.out 2) | ((with_reducible refine gate_callee (f := 35) rfl ?_); refine goesL_ (some 13) rfl rfl Tryd.func35 (by kernel_rfl) rfl #[.agg #[.int .i64 a0_0, .slice A0_1 l0_1.length c0_1, .string a0_2]] rfl (by (try simp only [List.map_toArray, List.map_cons, List.map_nil]); first | done | rfl | (simp only [List.length_drop, List.length_take]; rfl)) ?_; (with_reducible refine (laws_toResponse.calls k a0_0 _ _ l0_1 a0_2 t103 t104 t107 _ ?side1 ?side2 A7.out).mono ?_); (case side1 => repeat (first | exact (Kd.C_below HR0_1.out HB.out) | (with_reducible refine Kd.C_alloc ?_ _) | (with_reducible refine Kd.C_drewN ?_ _) | (with_reducible refine Kd.C_drew ?_))); (case side2 => exact HC0_1.out); rintro e w55 ⟨v105, rfl, ho0, hb⟩; refine ⟨_, rfl, ?_⟩; have n0_ := Aside0.mk (Kd.R_lower ho0 (below_size (by repeat (first | (with_reducible first | exact HB.out | apply below_alloc | apply pw_below_drewN | apply below_drew1 | refine below_set ?_ GE101.out) | exact HB.out)))); have n1_ := Aside0.mk (blk_below (g := gb101) (o := .cells #[.int .i64 a0_0, .slice A0_1 l0_1.length c0_1, .string a0_2] 44 (0, 0)) (by (with_reducible repeat (first | refine blk_drewN ?_ _ | refine blk_drew ?_ | refine blk_alloc ?_ _)); exact BK101.out) hb); have n2_ := Aside0.mk (below_step (by repeat (first | (with_reducible first | exact HB.out | apply below_alloc | apply pw_below_drewN | apply below_drew1 | refine below_set ?_ GE101.out) | exact HB.out)) hb); clear BK101; clear HB; have HO106 := n0_; have BK101 := n1_; have HB := n2_; clear n0_ n1_ n2_; (try clear hb); (try clear hb2); (try clear hk); (try clear hi); (try clear ho0); obtain ⟨Ao56, co56, eo56⟩ := Kd.R_slice HO106.out; subst eo56) | ((with_reducible refine gate_callee (f := 45) rfl ?_); refine goesL_ (some 14) rfl rfl Tryd.func45 (by kernel_rfl) rfl #[.agg #[.int .i64 t103, .slice Ao56 t104.length co56, .string t107]] rfl (by (try simp only [List.map_toArray, List.map_cons, List.map_nil]); first | done | rfl | (simp only [List.length_drop, List.length_take]; rfl)) ?_; (with_reducible refine (spec_ShowResponse.calls k t103 _ _ t104 t107 t108 _ ?side1 ?side2 A8.out).mono ?_); (case side1 => repeat (first | exact (Kd.R_reads' HO106.out).2.2 | (with_reducible refine Kd.C_alloc ?_ _) | (with_reducible refine Kd.C_drewN ?_ _) | (with_reducible refine Kd.C_drew ?_))); (case side2 => exact (Kd.R_reads' HO106.out).2.1); rintro e w57 ⟨rfl, hb⟩; refine ⟨_, rfl, ?_⟩; have n0_ := Aside0.mk (Kd.R_below (by (with_reducible repeat (first | apply Kd.R_alloc | apply Kd.R_drewN | apply Kd.R_drew)); exact HO106.out) hb); have n1_ := Aside0.mk (blk_below (g := gb101) (o := .cells #[.int .i64 a0_0, .slice A0_1 l0_1.length c0_1, .string a0_2] 44 (0, 0)) (by (with_reducible repeat (first | refine blk_drewN ?_ _ | refine blk_drew ?_ | refine blk_alloc ?_ _)); exact BK101.out) hb); have n2_ := Aside0.mk (below_step (by repeat (first | (with_reducible first | exact HB.out | apply below_alloc | apply pw_below_drewN | apply below_drew1 | refine below_set ?_ GE101.out) | exact HB.out)) hb); clear HO106; clear BK101; clear HB; have HO106 := n0_; have BK101 := n1_; have HB := n2_; clear n0_ n1_ n2_; (try clear hb); (try clear hb2); (try clear hk); (try clear hi); have hcz58_0 : w57.cell? ⟨gb101, 0, none⟩ = some (.int .i64 a0_0) := (blk_cell BK101.out 0).trans rfl; have hcz58_1 : w57.cell? ⟨gb101, 1, none⟩ = some (.slice A0_1 l0_1.length c0_1) := (blk_cell BK101.out 1).trans rfl; have hcz58_2 : w57.cell? ⟨gb101, 2, none⟩ = some (.string a0_2) := (blk_cell BK101.out 2).trans rfl; have hfz58_0 := blk_frozen BK101.out 0; have hfz58_1 := blk_frozen BK101.out 1; have hfz58_2 := blk_frozen BK101.out 2) | ((with_reducible refine gate_callee (f := 35) rfl ?_); refine goesL_ (some 16) rfl rfl Tryd.func35 (by kernel_rfl) rfl #[.agg #[.int .i64 a0_0, .slice A0_1 l0_1.length c0_1, .string a0_2]] rfl (by (try simp only [List.map_toArray, List.map_cons, List.map_nil]); first | done | rfl | (simp only [List.length_drop, List.length_take]; rfl)) ?_; (with_reducible refine (laws_toResponse.calls k a0_0 _ _ l0_1 a0_2 t109 t110 t113 _ ?side1 ?side2 A9.out).mono ?_); (case side1 => repeat (first | exact (Kd.C_below HR0_1.out HB.out) | (with_reducible refine Kd.C_alloc ?_ _) | (with_reducible refine Kd.C_drewN ?_ _) | (with_reducible refine Kd.C_drew ?_))); (case side2 => exact HC0_1.out); rintro e w59 ⟨v111, rfl, ho0, hb⟩; refine ⟨_, rfl, ?_⟩; have n0_ := Aside0.mk (Kd.R_elder' (by (with_reducible repeat (first | apply Kd.R_alloc | apply Kd.R_drewN | apply Kd.R_drew)); exact HO106.out) (Kd.R_base ho0) hb); have n1_ := Aside0.mk (Kd.R_lower (Kd.R_new' ho0 (Kd.R_lt (by (with_reducible repeat (first | apply Kd.R_alloc | apply Kd.R_drewN | apply Kd.R_drew)); exact HO106.out))) (below_size (by repeat (first | (with_reducible first | exact HB.out | apply below_alloc | apply pw_below_drewN | apply below_drew1 | refine below_set ?_ GE101.out) | exact HB.out)))); have n2_ := Aside0.mk (blk_below (g := gb101) (o := .cells #[.int .i64 a0_0, .slice A0_1 l0_1.length c0_1, .string a0_2] 44 (0, 0)) (by (with_reducible repeat (first | refine blk_drewN ?_ _ | refine blk_drew ?_ | refine blk_alloc ?_ _)); exact BK101.out) hb); have n3_ := Aside0.mk (below_step (by repeat (first | (with_reducible first | exact HB.out | apply below_alloc | apply pw_below_drewN | apply below_drew1 | refine below_set ?_ GE101.out) | exact HB.out)) hb); clear HO106; clear BK101; clear HB; have HO106 := n0_; have HO112 := n1_; have BK101 := n2_; have HB := n3_; clear n0_ n1_ n2_ n3_; (try clear hb); (try clear hb2); (try clear hk); (try clear hi); (try clear ho0)) | ((with_reducible refine gate_dst (N := 5) rfl ?_); refine box_event ?hg (N := 5) ?hd (cs := #[.int .i64 0, .slice none 0 0, .string (⟨#[]⟩ : ByteArray)]) (t := 48) ?hr ?_; (case hd => rfl); (case hg => rfl); (case hr => first | (go_simp; done) | (go_simp; rfl)); intro gb114 hg w60 hbox hb; have n0_ := Aside0.mk (Kd.R_below (by (with_reducible repeat (first | apply Kd.R_alloc | apply Kd.R_drewN | apply Kd.R_drew)); exact HO106.out) hb); have n1_ := Aside0.mk (Kd.R_below (by (with_reducible repeat (first | apply Kd.R_alloc | apply Kd.R_drewN | apply Kd.R_drew)); exact HO112.out) hb); have n2_ := Aside0.mk (blk_below (g := gb101) (o := .cells #[.int .i64 a0_0, .slice A0_1 l0_1.length c0_1, .string a0_2] 44 (0, 0)) (by (with_reducible repeat (first | refine blk_drewN ?_ _ | refine blk_drew ?_ | refine blk_alloc ?_ _)); exact BK101.out) hb); have n3_ := Aside0.mk (below_step (by repeat (first | (with_reducible first | exact HB.out | apply below_alloc | apply pw_below_drewN | apply below_drew1 | refine below_set ?_ GE101.out) | exact HB.out)) hb); have n4_ := Aside0.mk (hbox); have n5_ := Aside0.mk ((by rw [hg]; exact (below_size (by repeat (first | (with_reducible first | exact HB.out | apply below_alloc | apply pw_below_drewN | apply below_drew1 | refine below_set ?_ GE101.out) | exact HB.out))) : w.heap.size ≤ gb114)); have n6_ := Aside0.mk ((by rw [hg]; exact (below_size (by repeat (first | (with_reducible first | exact HB.out | apply below_alloc | apply pw_below_drewN | apply below_drew1 | refine below_set ?_ GE101.out) | exact HB.out))) : w.heap.size ≤ gb114)); have n7_ := Aside0.mk ((by rw [hg]; exact Nat.ne_of_lt (blk_lt (g := gb101) (o := .cells #[.int .i64 a0_0, .slice A0_1 l0_1.length c0_1, .string a0_2] 44 (0, 0)) (by (with_reducible repeat (first | refine blk_drewN ?_ _ | refine blk_drew ?_ | refine blk_alloc ?_ _)); exact BK101.out)) : gb101 ≠ gb114)); have n8_ := Aside0.mk ((by rw [hg]; exact Nat.ne_of_gt (blk_lt (g := gb101) (o := .cells #[.int .i64 a0_0, .slice A0_1 l0_1.length c0_1, .string a0_2] 44 (0, 0)) (by (with_reducible repeat (first | refine blk_drewN ?_ _ | refine blk_drew ?_ | refine blk_alloc ?_ _)); exact BK101.out)) : gb114 ≠ gb101)); clear HO106; clear HO112; clear BK101; clear HB; have HO106 := n0_; have HO112 := n1_; have BK101 := n2_; have HB := n3_; have BK114 := n4_; have GW114 := n5_; have GE114 := n6_; have NB101_114 := n7_; have NB114_101 := n8_; clear n0_ n1_ n2_ n3_ n4_ n5_ n6_ n7_ n8_; clear hb hbox hg; have hnb61 := NB114_101.out; have hnc61 := NB101_114.out; have hcz62_0 : w60.cell? ⟨gb114, 0, none⟩ = some (.int .i64 0) := (blk_cell BK114.out 0).trans rfl; have hcz62_1 : w60.cell? ⟨gb114, 1, none⟩ = some (.slice none 0 0) := (blk_cell BK114.out 1).trans rfl; have hcz62_2 : w60.cell? ⟨gb114, 2, none⟩ = some (.string (⟨#[]⟩ : ByteArray)) := (blk_cell BK114.out 2).trans rfl; have hfz62_0 := blk_frozen BK114.out 0; have hfz62_1 := blk_frozen BK114.out 1; have hfz62_2 := blk_frozen BK114.out 2; obtain ⟨Ao63, co63, eo63⟩ := Kd.R_slice HO112.out; subst eo63) | ((with_reducible refine gate_callee (f := 46) rfl ?_); refine goesL_ (some 18) rfl rfl Tryd.func46 (by kernel_rfl) rfl #[.agg #[.int .i64 t109, .slice Ao63 t110.length co63, .string t113]] rfl (by (try simp only [List.map_toArray, List.map_cons, List.map_nil]); first | done | rfl | (simp only [List.length_drop, List.length_take]; rfl)) ?_; (with_reducible refine (impl_ShowResponse.calls t109 _ _ t110 t113 t115 _ ?side1 ?side2 ?side3 A10.out).mono ?_); (case side1 => exact XW.to (XW.stays hX (by repeat (first | (with_reducible first | exact HB.out | apply below_alloc | apply pw_below_drewN | apply below_drew1 | refine below_set ?_ GE101.out | refine below_set ?_ GE114.out) | exact HB.out))) (by decide)); (case side2 => refine (Kd.R_reads' (e := 67) (base := w.heap.size) (ok := fun k_ => (True ∧ some k_ ≠ (.slice Ao56 t104.length co56 : Value).ownBlock)) (n := t110.length) (c := co63) ?_).2.2; exact (by (with_reducible repeat (first | apply Kd.R_alloc | apply Kd.R_drewN | apply Kd.R_drew)); exact (Kd.R_mono (Kd.R_far (p := ⟨gb114, 2, none⟩) (Kd.R_far (p := ⟨gb114, 1, none⟩) (Kd.R_far (p := ⟨gb114, 0, none⟩) (Kd.R_types HO112.out BK114.out (by decide)) (fun _ hk => hk.2) (.int .i64 t109)) (fun _ hk => hk.2) (.slice Ao63 t110.length co63)) (fun _ hk => hk.2) (.string t113)) (fun _ h_ => h_.1)))); (case side3 => exact (Kd.R_reads' HO112.out).2.1); rintro e w64 ⟨rfl, hb⟩; refine ⟨_, rfl, ?_⟩; have n0_ := Aside0.mk (Kd.R_below (by (with_reducible repeat (first | apply Kd.R_alloc | apply Kd.R_drewN | apply Kd.R_drew)); exact (Kd.R_mono (Kd.R_far (p := ⟨gb114, 2, none⟩) (Kd.R_far (p := ⟨gb114, 1, none⟩) (Kd.R_far (p := ⟨gb114, 0, none⟩) (Kd.R_types HO106.out BK114.out (by decide)) (fun _ hk => hk.2) (.int .i64 t109)) (fun _ hk => hk.2) (.slice Ao63 t110.length co63)) (fun _ hk => hk.2) (.string t113)) (fun _ h_ => h_.1))) hb); have n1_ := Aside0.mk (Kd.R_below (by (with_reducible repeat (first | apply Kd.R_alloc | apply Kd.R_drewN | apply Kd.R_drew)); exact (Kd.R_mono (Kd.R_far (p := ⟨gb114, 2, none⟩) (Kd.R_far (p := ⟨gb114, 1, none⟩) (Kd.R_far (p := ⟨gb114, 0, none⟩) (Kd.R_types HO112.out BK114.out (by decide)) (fun _ hk => hk.2) (.int .i64 t109)) (fun _ hk => hk.2) (.slice Ao63 t110.length co63)) (fun _ hk => hk.2) (.string t113)) (fun _ h_ => h_.1))) hb); have n2_ := Aside0.mk (blk_below (g := gb101) (o := .cells #[.int .i64 a0_0, .slice A0_1 l0_1.length c0_1, .string a0_2] 44 (0, 0)) (by (with_reducible repeat (first | refine blk_drewN ?_ _ | refine blk_drew ?_ | refine blk_alloc ?_ _)); refine blk_far ?_ NB101_114.out _; (with_reducible repeat (first | refine blk_drewN ?_ _ | refine blk_drew ?_ | refine blk_alloc ?_ _)); refine blk_far ?_ NB101_114.out _; (with_reducible repeat (first | refine blk_drewN ?_ _ | refine blk_drew ?_ | refine blk_alloc ?_ _)); refine blk_far ?_ NB101_114.out _; (with_reducible repeat (first | refine blk_drewN ?_ _ | refine blk_drew ?_ | refine blk_alloc ?_ _)); exact BK101.out) hb); have n3_ := Aside0.mk (blk_below (g := gb114) (o := .cells #[.int .i64 t109, .slice Ao63 t110.length co63, .string t113] 48 (0, 0)) (by (with_reducible repeat (first | refine blk_drewN ?_ _ | refine blk_drew ?_ | refine blk_alloc ?_ _)); refine blk_put (cs := #[.int .i64 t109, .slice Ao63 t110.length co63, .string (⟨#[]⟩ : ByteArray)]) ?_ 2 _ rfl; (with_reducible repeat (first | refine blk_drewN ?_ _ | refine blk_drew ?_ | refine blk_alloc ?_ _)); refine blk_put (cs := #[.int .i64 t109, .slice none 0 0, .string (⟨#[]⟩ : ByteArray)]) ?_ 1 _ rfl; (with_reducible repeat (first | refine blk_drewN ?_ _ | refine blk_drew ?_ | refine blk_alloc ?_ _)); refine blk_put (cs := #[.int .i64 0, .slice none 0 0, .string (⟨#[]⟩ : ByteArray)]) ?_ 0 _ rfl; (with_reducible repeat (first | refine blk_drewN ?_ _ | refine blk_drew ?_ | refine blk_alloc ?_ _)); exact BK114.out) hb); have n4_ := Aside0.mk (below_step (by repeat (first | (with_reducible first | exact HB.out | apply below_alloc | apply pw_below_drewN | apply below_drew1 | refine below_set ?_ GE101.out | refine below_set ?_ GE114.out) | exact HB.out)) hb); clear HO106; clear HO112; clear BK101; clear BK114; clear HB; have HO106 := n0_; have HO112 := n1_; have BK101 := n2_; have BK114 := n3_; have HB := n4_; clear n0_ n1_ n2_ n3_ n4_; (try clear hb); (try clear hb2); (try clear hk); (try clear hi)))
   go_ret
   exact ⟨by first | rfl | (simp [errW_none, errW_some] <;> rfl) | (simp [*, errW_none, errW_some] <;> rfl), by repeat (first | (with_reducible first | exact HB.out | apply below_alloc | apply pw_below_drewN | apply below_drew1 | refine below_set ?_ GE101.out | refine below_set ?_ GE114.out) | exact HB.out)⟩

/-- THE ONE PURE STATEMENT of laws_FnExactShowResponse. -/
def laws_FnExactShowResponse.Pure : Prop := ∀ (a0_0 : Int) (l0_1 : List (S65)) (a0_2 : ByteArray), (Lit.int .i64 a0_0).wf = true → l0_1.length ≤ 9223372036854775807 → (∀ x ∈ l0_1, x.f0.size ≤ 9223372036854775807 ∧ x.f1.size ≤ 9223372036854775807) → a0_2.size ≤ 9223372036854775807 → ∃ k, laws_FnExactShowResponse.f k a0_0 l0_1 a0_2 = some true
theorem laws_FnExactShowResponse.walk (P : laws_FnExactShowResponse.Pure) (a0_0 : Int) (A0_1 : Option Addr) (c0_1 : Nat) (l0_1 : List (S65)) (a0_2 : ByteArray) (w : World) (hX : XW 6 w) (w0_0 : (Lit.int .i64 a0_0).wf = true) (wl0_1 : l0_1.length ≤ 9223372036854775807) (we0_1 : ∀ x ∈ l0_1, x.f0.size ≤ 9223372036854775807 ∧ x.f1.size ≤ 9223372036854775807) (w0_2 : a0_2.size ≤ 9223372036854775807) (hr0_1 : Kd.C k65 w A0_1 l0_1.length l0_1) (hc0_1 : l0_1.length ≤ c0_1) :
  Calls Tryd.prog 12 #[.agg #[.int .i64 a0_0, .slice A0_1 l0_1.length c0_1, .string a0_2]] w fun e w' => e = .returned (.bool true) ∧ Below w.heap.size w w' := by
 obtain ⟨k, h⟩ := P a0_0 l0_1 a0_2 w0_0 wl0_1 we0_1 w0_2
 refine (laws_FnExactShowResponse.calls k a0_0 A0_1 c0_1 l0_1 a0_2 true w hX hr0_1 hc0_1 h).mono ?_
 rintro e w' ⟨rfl, hd⟩
 exact ⟨rfl, hd⟩
end Go.Proofs.YtfebipiccpbdbaaDoor.P
namespace Go.Proofs.YtfebipiccpbdbaaDoor.Q
open Go.RowKit Go.Proofs.YtfebipiccpbdbaaDoorW.PrintWords Go.Proofs.YtfebipiccpbdbaaDoorW.PrintLast Go.Proofs.YtfebipiccpbdbaaDoorW.PrintMore

theorem wrap_in {i : Int} (h0 : -9223372036854775808 ≤ i) (h1 : i ≤ 9223372036854775807) : wrap64 i = i := by unfold wrap64; omega
theorem wrap_next {i : Nat} {n : Nat} (h : i < n) (hn : n ≤ 4611686018427387904) : wrap64 ((i : Int) + 1) = ((i + 1 : Nat) : Int) := by unfold wrap64; omega

theorem toList_data (s : ByteArray) : s.toList = s.data.toList := ByteArray.toList_eq s
theorem eq_of_toList {a b : ByteArray} (h : a.toList = b.toList) : a = b := by
  rw [toList_data, toList_data] at h
  exact ByteArray.ext (Array.toList_inj.1 h)
theorem bt_get (s : ByteArray) (i : Nat) (h : i < s.size) : (bytesOf s)[i]? = some (bt s i) := by
  rw [← rd_bytesOf]
  have h1 : i < (bytesOf s).length := by rw [bytesOf_length]; exact h
  simp [rd, List.getD_eq_getElem?_getD, List.getElem?_eq_getElem h1]
theorem drop_bt (s : ByteArray) (i : Nat) (h : i < s.size) : (bytesOf s).drop i = bt s i :: (bytesOf s).drop (i + 1) := by
  have h1 : i < (bytesOf s).length := by rw [bytesOf_length]; exact h
  rw [List.drop_eq_getElem_cons h1]
  have := bt_get s i h
  rw [List.getElem?_eq_getElem h1] at this
  rw [Option.some.inj this]
theorem mem_bytes {s : ByteArray} {c : Int} (h : c ∈ bytesOf s) : 0 ≤ c ∧ c ≤ 255 := by
  unfold bytesOf at h
  obtain ⟨b, _, rfl⟩ := List.mem_map.1 h
  have := b.toNat_lt
  omega
theorem bytes_nums (l : List Int) (h : ∀ c ∈ l, 0 ≤ c ∧ c ≤ 255) : bytesOf (strOfNums l) = l := by
  unfold bytesOf
  rw [strOfNums_data, List.map_map]
  refine (List.map_congr_left fun c hc => ?_).trans (List.map_id l)
  have := h c hc
  simp only [Function.comp, UInt8.toNat_ofNat', id]
  omega
theorem nums_bytes (s : ByteArray) : strOfNums (bytesOf s) = s := by
  apply ByteArray.ext
  apply Array.toList_inj.1
  rw [strOfNums_data]
  unfold bytesOf
  rw [List.map_map]
  refine (List.map_congr_left fun c hc => ?_).trans (List.map_id _)
  simp
theorem bytes_inj {a b : ByteArray} (h : bytesOf a = bytesOf b) : a = b := by rw [← nums_bytes a, ← nums_bytes b, h]
theorem bytes_append (a b : ByteArray) : bytesOf (a ++ b) = bytesOf a ++ bytesOf b := by
  unfold bytesOf
  rw [← List.map_append]
  simp [ByteArray.data_append]

/-- A loop over bytes: what a round does with its state and a byte; an end ahead of time. -/
def runL {σ β : Type} (f : σ → Int → σ ⊕ β) (fin : σ → β) : List Int → σ → β
  | [], st => fin st
  | c :: cs, st => match f st c with
    | .inl st' => runL f fin cs st'
    | .inr b => b
/-- The printed loop comes to what 'runL' comes to, from some number of rounds on. -/
theorem ev_run {σ β : Type} (s : ByteArray) (I : σ → Nat → Prop) (f : σ → Int → σ ⊕ β) (fin : σ → β) (g : Nat → σ → Int → Option β) (K : Nat)
    (hstep : ∀ k st (i : Nat), K ≤ k → i < s.size → I st i → (∀ st', f st (bt s i) = .inl st' → g (k + 1) st i = g k st' ((i + 1 : Nat) : Int) ∧ I st' (i + 1)) ∧ (∀ b, f st (bt s i) = .inr b → g (k + 1) st i = some b))
    (hend : ∀ k st, K ≤ k → I st s.size → g (k + 1) st (s.size : Int) = some (fin st)) (st : σ) (h0 : I st 0) :
    Ev (fun k => g k st 0) (runL f fin (bytesOf s) st) := by
  have key : ∀ (d i : Nat) (st : σ), i + d = s.size → I st i → ∀ k, K + d < k → g k st (i : Int) = some (runL f fin ((bytesOf s).drop i) st) := by
    intro d
    induction d with
    | zero =>
      intro i st hd hI k hk
      obtain ⟨k, rfl⟩ : ∃ m, k = m + 1 := ⟨k - 1, by omega⟩
      have e : i = s.size := by omega
      subst e
      rw [hend k st (by omega) hI, List.drop_of_length_le (by rw [bytesOf_length]; exact Nat.le_refl _)]
      rfl
    | succ d ih =>
      intro i st hd hI k hk
      obtain ⟨k, rfl⟩ : ∃ m, k = m + 1 := ⟨k - 1, by omega⟩
      obtain ⟨h1, h2⟩ := hstep k st i (by omega) (by omega) hI
      rw [drop_bt s i (by omega)]
      show g (k + 1) st i = some (match f st (bt s i) with | .inl st' => runL f fin ((bytesOf s).drop (i + 1)) st' | .inr b => b)
      cases hf : f st (bt s i) with
      | inl st' =>
        obtain ⟨e, hI'⟩ := h1 st' hf
        rw [e]
        exact ih (i + 1) st' (by omega) hI' k (by omega)
      | inr b => exact h2 b hf
  refine ⟨K + s.size + 1, fun k hk => ?_⟩
  have := key s.size 0 st (by omega) h0 k (by omega)
  rw [List.drop_zero] at this
  exact this

/-- A loop that asks each byte. -/
theorem ev_all (s : ByteArray) (p : Int → Bool) (g : Nat → Int → Option Bool) (K : Nat)
    (h1 : ∀ k (i : Nat), K ≤ k → i < s.size → p (bt s i) = true → g (k + 1) i = g k ((i + 1 : Nat) : Int))
    (h0 : ∀ k (i : Nat), K ≤ k → i < s.size → p (bt s i) = false → g (k + 1) i = some false)
    (he : ∀ k, K ≤ k → g (k + 1) (s.size : Int) = some true) : Ev (fun k => g k 0) ((bytesOf s).all p) := by
  have h := ev_run (σ := Unit) (β := Bool) s (fun _ _ => True) (fun _ c => if p c = true then .inl () else .inr false) (fun _ => true) (fun k _ i => g k i) K
    (fun k st i hk hi _ => ⟨fun st' e => ⟨h1 k i hk hi (by
        by_cases hp : p (bt s i) = true
        · exact hp
        · rw [if_neg hp] at e; cases e), trivial⟩, fun b e => by
        by_cases hp : p (bt s i) = true
        · rw [if_pos hp] at e; cases e
        · rw [if_neg hp] at e
          obtain rfl : false = b := by injection e
          exact h0 k i hk hi (by simpa using hp)⟩)
    (fun k st hk _ => he k hk) () trivial
  have e : ∀ l : List Int, runL (σ := Unit) (β := Bool) (fun _ c => if p c = true then .inl () else .inr false) (fun _ => true) l () = l.all p := by
    intro l
    induction l with
    | nil => rfl
    | cons c cs ih =>
      rw [List.all_cons]
      unfold runL
      by_cases hp : p c = true
      · simp only [hp, if_true, Bool.true_and]; exact ih
      · simp only [(by simpa using hp : p c = false), Bool.false_and, Bool.false_eq_true, if_false]
  rw [e] at h
  exact h
theorem runL_all {β : Type} (p : Int → Bool) (r b : β) (l : List Int) : runL (σ := Unit) (fun _ c => if p c = true then .inl () else .inr b) (fun _ => r) l () = if l.all p = true then r else b := by
  induction l with
  | nil => rfl
  | cons c cs ih =>
    rw [List.all_cons]
    unfold runL
    by_cases hp : p c = true
    · simp only [hp, if_true, Bool.true_and]; exact ih
    · simp only [(by simpa using hp : p c = false), Bool.false_and, Bool.false_eq_true, if_false]
/-- A loop that asks each byte, and goes on behind it. -/
theorem ev_allr {β : Type} (s : ByteArray) (p : Int → Bool) (r b : β) (g : Nat → Int → Option β) (K : Nat)
    (h1 : ∀ k (i : Nat), K ≤ k → i < s.size → p (bt s i) = true → g (k + 1) i = g k ((i + 1 : Nat) : Int))
    (h0 : ∀ k (i : Nat), K ≤ k → i < s.size → p (bt s i) = false → g (k + 1) i = some b)
    (he : ∀ k, K ≤ k → g (k + 1) (s.size : Int) = some r) : Ev (fun k => g k 0) (if (bytesOf s).all p = true then r else b) := by
  rw [← runL_all p r b (bytesOf s)]
  refine ev_run (σ := Unit) s (fun _ _ => True) (fun _ c => if p c = true then .inl () else .inr b) (fun _ => r) (fun k _ i => g k i) K
    (fun k st i hk hi _ => ⟨fun st' e => ⟨h1 k i hk hi (by
        by_cases hp : p (bt s i) = true
        · exact hp
        · rw [if_neg hp] at e; cases e), trivial⟩, fun b' e => by
        by_cases hp : p (bt s i) = true
        · rw [if_pos hp] at e; cases e
        · rw [if_neg hp] at e
          obtain rfl : b = b' := by injection e
          exact h0 k i hk hi (by simpa using hp)⟩)
    (fun k st hk _ => he k hk) () trivial
/-- A loop that puts something behind a list for each byte. -/
theorem runL_flat {β : Type} (f : Int → List Int) (fin : List Int → β) (l st : List Int) : runL (fun st c => .inl (st ++ f c)) fin l st = fin (st ++ l.flatMap f) := by
  induction l generalizing st with
  | nil => simp [runL]
  | cons c cs ih =>
    unfold runL
    simp only [ih, List.flatMap_cons, List.append_assoc]
theorem ev_const {α : Type} {x : Option α} {r : α} (h : x = some r) : Ev (fun _ => x) r := ⟨0, fun _ _ => h⟩
theorem ev_eq {α : Type} {g : Nat → Option α} {r r' : α} (h : Ev g r) (e : r = r') : Ev g r' := e ▸ h
/-- From a number of rounds on: a law that holds at each such number. -/
theorem ev_now {α : Type} {g : Nat → Option α} {r : α} (K : Nat) (h : ∀ k, K ≤ k → g k = some r) : Ev g r := ⟨K, h⟩
theorem all_congr' {l : List Int} {p q : Int → Bool} (h : ∀ c ∈ l, p c = q c) : l.all p = l.all q := by
  induction l with
  | nil => rfl
  | cons a l ih =>
    rw [List.all_cons, List.all_cons, h a List.mem_cons_self, ih fun c hc => h c (List.mem_cons_of_mem _ hc)]
end Go.Proofs.YtfebipiccpbdbaaDoor.Q
namespace Go.Proofs.YtfebipiccpbdbaaDoor.Q
set_option linter.unusedVariables false
set_option linter.unusedSimpArgs false
open Go.RowKit Go.Proofs.YtfebipiccpbdbaaDoor.P Go.Proofs.YtfebipiccpbdbaaDoorW.PrintWords Go.Proofs.YtfebipiccpbdbaaDoorW.PrintLast Go.Proofs.YtfebipiccpbdbaaDoorW.PrintMore

def ofL (l : List UInt8) : ByteArray := ⟨l.toArray⟩
theorem ofL_append (a b : List UInt8) : ofL a ++ ofL b = ofL (a ++ b) := by
  apply ByteArray.ext
  apply Array.toList_inj.1
  simp [ofL, ByteArray.data_append]
theorem ofL_size (l : List UInt8) : (ofL l).size = l.length := by
  show l.toArray.size = l.length
  simp
theorem ofL_toList (l : List UInt8) : (ofL l).toList = l := by
  rw [toList_data]
  rfl
theorem ofL_data (s : ByteArray) : ofL s.data.toList = s := by
  apply ByteArray.ext
  apply Array.toList_inj.1
  rfl
theorem strOf_one (c : Int) : strOfNums [c] = ofL [UInt8.ofNat c.toNat] := by
  apply ByteArray.ext
  apply Array.toList_inj.1
  rw [strOfNums_data]
  rfl
/-- A number's decimal numeral. -/
def decT (n : Int) : ByteArray := ofL (Lib.itoa n)
theorem spec_l1Int_loop (d : Nat) : ∀ (m : Nat) (s : List UInt8), m < 10 ^ (d + 1) → m ≤ 9000000000000000000 → s.length + d + 2 ≤ 9223372036854775807 → Ev (fun k => spec_l1Int.j1 k (m : Int) (ofL s) false true) (ofL (Lib.decDigits m ++ s)) := by
  induction d with
  | zero =>
    intro m s hm hb hs
    have h10 : m < 10 := by simpa using hm
    refine Ev.step (f := fun k => spec_l1Int.l0 k 0 (ofL (UInt8.ofNat (48 + m) :: s)) false) (fun k => ?_) ?_
    · simp only [spec_l1Int.j1, if_true]
      rw [Int.tmod_eq_emod_of_nonneg (by omega), Int.tdiv_eq_ediv_of_nonneg (by omega), if_neg (by omega)]
      simp only [Option.bind_some]
      rw [strOf_one, ofL_size, ofL_size, if_pos (by simp; omega), ofL_append, wrap_in (i := 48 + (m : Int) % 10) (by omega) (by omega), wrap_in (by omega) (by omega), show (m : Int) / 10 = 0 by omega, show ((48 + (m : Int) % 10) % 256).toNat = 48 + m by omega]
      rfl
    · refine Ev.step (f := fun k => spec_l1Int.j1 k 0 (ofL (UInt8.ofNat (48 + m) :: s)) false false) (fun k => ?_) (Ev.step (f := fun _ => some (ofL (UInt8.ofNat (48 + m) :: s))) (fun k => ?_) ?_)
      · simp only [spec_l1Int.l0, ofL_toList]
        rw [if_neg (by simp)]
        rfl
      · simp only [spec_l1Int.j1, Bool.false_eq_true, if_false]
      · rw [Lib.decDigits, dif_pos h10]
        exact Ev.now _
  | succ d ih =>
    intro m s hm hb hs
    have e1 : ∀ k, spec_l1Int.j1 (k + 1) (m : Int) (ofL s) false true = spec_l1Int.l0 k ((m / 10 : Nat) : Int) (ofL (UInt8.ofNat (48 + m % 10) :: s)) false := by
      intro k
      simp only [spec_l1Int.j1, if_true]
      rw [Int.tmod_eq_emod_of_nonneg (by omega), Int.tdiv_eq_ediv_of_nonneg (by omega), if_neg (by omega)]
      simp only [Option.bind_some]
      rw [strOf_one, ofL_size, ofL_size, if_pos (by simp; omega), ofL_append, wrap_in (i := 48 + (m : Int) % 10) (by omega) (by omega), wrap_in (by omega) (by omega), show ((48 + (m : Int) % 10) % 256).toNat = 48 + m % 10 by omega]
      rfl
    by_cases h10 : m < 10
    · refine Ev.step (fun k => e1 k) ?_
      refine Ev.step (f := fun k => spec_l1Int.j1 k 0 (ofL (UInt8.ofNat (48 + m % 10) :: s)) false false) (fun k => ?_) (Ev.step (f := fun _ => some (ofL (UInt8.ofNat (48 + m % 10) :: s))) (fun k => ?_) ?_)
      · simp only [spec_l1Int.l0, ofL_toList]
        rw [if_neg (by simp), show m / 10 = 0 by omega]
        rfl
      · simp only [spec_l1Int.j1, Bool.false_eq_true, if_false]
      · rw [Lib.decDigits, dif_pos h10, show m % 10 = m by omega]
        exact Ev.now _
    · refine Ev.step (fun k => e1 k) ?_
      refine Ev.step (f := fun k => spec_l1Int.j1 k ((m / 10 : Nat) : Int) (ofL (UInt8.ofNat (48 + m % 10) :: s)) false true) (fun k => ?_) ?_
      · simp only [spec_l1Int.l0, ofL_toList]
        rw [if_neg (by simp), show (((m / 10 : Nat) : Int) != 0) = true from bne_iff_ne.2 (by omega)]
      · rw [Lib.decDigits, dif_neg h10, List.append_assoc]
        exact ih (m / 10) (UInt8.ofNat (48 + m % 10) :: s) (by rw [Nat.pow_succ] at hm; omega) (by omega) (by simp; omega)
theorem spec_l1Int_ev (n : Int) (h0 : 0 ≤ n) (h1 : n ≤ 9000000000000000000) : Ev (fun k => spec_l1Int.f k n) (decT n) := by
  unfold spec_l1Int.f decT Lib.itoa
  obtain ⟨m, rfl⟩ : ∃ m : Nat, n = (m : Int) := ⟨n.toNat, by omega⟩
  rw [decide_eq_false (by omega), if_neg (by omega), Int.toNat_natCast]
  refine Ev.step (f := fun k => spec_l1Int.j1 k (m : Int) (ofL []) false true) (fun k => ?_) ?_
  · simp only [spec_l1Int.l0]
    rw [if_pos (show (⟨#[]⟩ : ByteArray).toList = [] from ofL_toList [])]
    rfl
  · have := spec_l1Int_loop 18 m [] (by omega) (by omega) (by decide)
    rwa [List.append_nil] at this
theorem impl_decimal_is (n : Int) (h0 : -9223372036854775808 ≤ n) (h1 : n ≤ 9223372036854775807) : impl_decimal.f n = some (decT n) := by
  unfold impl_decimal.f strconv_FormatInt.f
  rw [if_pos ⟨rfl, h0, h1⟩]
  rfl
theorem decT_size (n : Int) (h0 : 0 ≤ n) (h1 : n ≤ 9000000000000000000) : (decT n).size ≤ 19 := by
  unfold decT
  rw [ofL_size]
  unfold Lib.itoa
  rw [if_neg (by omega), Lib.decDigits_length]
  have key : ∀ (d u : Nat), u < 10 ^ (d + 1) → Lib.nDigits u ≤ d + 1 := by
    intro d
    induction d with
    | zero => intro u hu; rw [Lib.nDigits_small (by simpa using hu)]; omega
    | succ d ih =>
      intro u hu
      by_cases h : u < 10
      · rw [Lib.nDigits_small h]; omega
      · rw [Lib.nDigits_big h]
        have := ih (u / 10) (by rw [Nat.pow_succ] at hu; omega)
        omega
  exact key 18 n.toNat (by omega)
theorem drop_at {α : Type} (l : List α) (d : α) (i : Nat) (h : i < l.length) : l.drop i = l.getD i d :: l.drop (i + 1) := by
  rw [List.getD_eq_getElem?_getD, List.getElem?_eq_getElem h]
  exact List.drop_eq_getElem_cons h
/-- A loop over a list: what a round does with its state and an element; an end ahead of time. -/
def runA {α σ β : Type} (f : σ → α → σ ⊕ β) (fin : σ → β) : List α → σ → β
  | [], st => fin st
  | c :: cs, st => match f st c with
    | .inl st' => runA f fin cs st'
    | .inr b => b
theorem ev_list {α σ β : Type} (l : List α) (d : α) (I : σ → Nat → Prop) (f : σ → α → σ ⊕ β) (fin : σ → β) (g : Nat → σ → Int → Option β)
    (hstep : ∀ st (i : Nat), i < l.length → I st i → (∀ st', f st (l.getD i d) = .inl st' → I st' (i + 1) ∧ ∀ r, Ev (fun k => g k st' ((i + 1 : Nat) : Int)) r → Ev (fun k => g k st (i : Int)) r) ∧ (∀ b, f st (l.getD i d) = .inr b → Ev (fun k => g k st (i : Int)) b))
    (hend : ∀ st, I st l.length → Ev (fun k => g k st (l.length : Int)) (fin st)) (st : σ) (h0 : I st 0) :
    Ev (fun k => g k st 0) (runA f fin l st) := by
  have key : ∀ (n i : Nat) (st : σ), i + n = l.length → I st i → Ev (fun k => g k st (i : Int)) (runA f fin (l.drop i) st) := by
    intro n
    induction n with
    | zero =>
      intro i st hd hI
      have e : i = l.length := by omega
      subst e
      rw [List.drop_of_length_le (Nat.le_refl _)]
      exact hend st hI
    | succ n ih =>
      intro i st hd hI
      obtain ⟨h1, h2⟩ := hstep st i (by omega) hI
      rw [drop_at l d i (by omega)]
      show Ev _ (match f st (l.getD i d) with | .inl st' => runA f fin (l.drop (i + 1)) st' | .inr b => b)
      cases hf : f st (l.getD i d) with
      | inl st' =>
        obtain ⟨hI', hr⟩ := h1 st' hf
        exact hr _ (ih (i + 1) st' (by omega) hI')
      | inr b => exact h2 b hf
  have := key l.length 0 st (by omega) h0
  rw [List.drop_zero] at this
  exact this
theorem mem_getD {α : Type} {l : List α} {d : α} {i : Nat} (h : i < l.length) : l.getD i d ∈ l := by
  rw [List.getD_eq_getElem?_getD, List.getElem?_eq_getElem h]
  exact List.getElem_mem h
/-- A loop that asks each element, and goes on behind it. -/
theorem ev_listAll {α β : Type} (l : List α) (d : α) (p : α → Bool) (r b : β) (g : Nat → Int → Option β)
    (h1 : ∀ (i : Nat), i < l.length → p (l.getD i d) = true → ∀ x, Ev (fun k => g k ((i + 1 : Nat) : Int)) x → Ev (fun k => g k (i : Int)) x)
    (h0 : ∀ (i : Nat), i < l.length → p (l.getD i d) = false → Ev (fun k => g k (i : Int)) b)
    (he : Ev (fun k => g k (l.length : Int)) r) : Ev (fun k => g k 0) (if l.all p = true then r else b) := by
  have h := ev_list (σ := Unit) (β := β) l d (fun _ _ => True) (fun _ c => if p c = true then .inl () else .inr b) (fun _ => r) (fun k _ i => g k i)
    (fun st i hi _ => ⟨fun st' e => ⟨trivial, by
        by_cases hp : p (l.getD i d) = true
        · exact h1 i hi hp
        · rw [if_neg hp] at e; cases e⟩, fun b' e => (by
        by_cases hp : p (l.getD i d) = true
        · rw [if_pos hp] at e; cases e
        · rw [if_neg hp] at e
          obtain rfl : b = b' := by injection e
          exact h0 i hi (by simpa using hp))⟩)
    (fun st _ => he) () trivial
  have e : ∀ l : List α, runA (σ := Unit) (β := β) (fun _ c => if p c = true then .inl () else .inr b) (fun _ => r) l () = if l.all p = true then r else b := by
    intro l
    induction l with
    | nil => rfl
    | cons c cs ih =>
      rw [List.all_cons]
      unfold runA
      by_cases hp : p c = true
      · simp only [hp, if_true, Bool.true_and]; exact ih
      · simp only [(by simpa using hp : p c = false), Bool.false_and, Bool.false_eq_true, if_false]
  rw [e] at h
  exact h
theorem all_congrA {α : Type} {l : List α} {p q : α → Bool} (h : ∀ c ∈ l, p c = q c) : l.all p = l.all q := by
  induction l with
  | nil => rfl
  | cons a l ih =>
    rw [List.all_cons, List.all_cons, h a List.mem_cons_self, ih fun c hc => h c (List.mem_cons_of_mem _ hc)]
def visB (c : Int) : Bool := decide (32 ≤ c) && decide (c ≤ 126) || decide (c = 9)
def digB (c : Int) : Bool := decide (48 ≤ c) && decide (c ≤ 57)
def letB (c : Int) : Bool := decide (97 ≤ c) && decide (c ≤ 122) || decide (65 ≤ c) && decide (c ≤ 90)
def hexB (c : Int) : Bool := digB c || decide (97 ≤ c) && decide (c ≤ 102) || decide (65 ≤ c) && decide (c ≤ 70)
def tagB (c : Int) : Bool := decide (33 ≤ c) && decide (c ≤ 126) && decide (c ≠ 34)
def tokB (c : Int) : Bool := letB c || digB c || decide (c ∈ [33, 35, 36, 37, 38, 39, 42, 43, 45, 46, 94, 95, 124, 126, 96])
def plaB (c : Int) : Bool := letB c || digB c || decide (c ∈ [45, 46, 95, 126, 47, 58, 64, 33, 36, 38, 39, 40, 41, 42, 43, 44, 59, 61])

theorem impl_isVisible_is (c : Int) : impl_isVisible.f c = some (visB c) := by
  unfold impl_isVisible.f visB
  by_cases h1 : c ≥ 32 <;> by_cases h2 : c ≤ 126 <;> simp [h1, h2] <;> (try omega) <;> (try (by_cases h3 : c = 9 <;> simp [h3] <;> omega))
theorem impl_isDigit_is (c : Int) : impl_isDigit.f c = some (digB c) := by
  unfold impl_isDigit.f digB
  by_cases h1 : c ≥ 48 <;> simp [h1] <;> omega
theorem impl_isLetter_is (c : Int) : impl_isLetter.f c = some (letB c) := by
  unfold impl_isLetter.f letB
  by_cases h1 : c ≥ 97 <;> by_cases h2 : c ≤ 122 <;> by_cases h3 : c ≥ 65 <;> by_cases h4 : c ≤ 90 <;> simp [h1, h2, h3, h4] <;> omega

/-- A law on bytes, tried at each. -/
theorem byte_cases {p : Int → Prop} (h : ∀ n : Fin 256, p (n.val : Int)) (c : Int) (h0 : 0 ≤ c) (h1 : c ≤ 255) : p c := by
  have := h ⟨c.toNat, by omega⟩
  rwa [show ((⟨c.toNat, by omega⟩ : Fin 256).val : Int) = c from by show (c.toNat : Int) = c; omega] at this
theorem impl_TokenOk_1_is (c : Int) (h0 : 0 ≤ c) (h1 : c ≤ 255) : impl_TokenOk_1.f c = some (tokB c) :=
  byte_cases (p := fun c => impl_TokenOk_1.f c = some (tokB c)) (by decide +kernel) c h0 h1
theorem spec_l1Token_is (c : Int) (h0 : 0 ≤ c) (h1 : c ≤ 255) : spec_l1Token.f c = some (tokB c) :=
  byte_cases (p := fun c => spec_l1Token.f c = some (tokB c)) (by decide +kernel) c h0 h1
/-- A hexadecimal digit's value, or -1. -/
def hexV (c : Int) : Int := if digB c = true then c - 48 else if 97 ≤ c ∧ c ≤ 102 then c - 87 else if 65 ≤ c ∧ c ≤ 70 then c - 55 else -1
theorem hexV_neg (c : Int) : decide (hexV c < 0) = !hexB c := by
  unfold hexV hexB
  cases h0 : digB c
  · by_cases h1 : 97 ≤ c ∧ c ≤ 102
    · simp [h1]; omega
    · by_cases h2 : 65 ≤ c ∧ c ≤ 70
      · have h1' : (decide (97 ≤ c) && decide (c ≤ 102)) = false := by simp; omega
        simp [h1, h1', h2]; omega
      · have h1' : (decide (97 ≤ c) && decide (c ≤ 102)) = false := by simp; omega
        have h2' : (decide (65 ≤ c) && decide (c ≤ 70)) = false := by simp; omega
        simp [h1, h1', h2, h2']
  · unfold digB at h0
    simp at h0
    simp
    omega
/-- 'all' over a predicate. -/
theorem all_vis (s : ByteArray) (hs : s.size ≤ 9223372036854775807) : impl_all.f s 111 = some ((bytesOf s).all visB) := by
  unfold impl_all.f
  rw [if_pos hs]
  simp only [Nat.reduceEqDiff, if_true, if_false, reduceIte]
  rw [all_congr' fun c hc => (by rw [impl_isVisible_is]; cases visB c <;> rfl : (impl_isVisible.f c == some true) = visB c)]
theorem all_dig (s : ByteArray) (hs : s.size ≤ 9223372036854775807) : impl_all.f s 95 = some ((bytesOf s).all digB) := by
  unfold impl_all.f
  rw [if_pos hs]
  simp only [Nat.reduceEqDiff, if_true, if_false, reduceIte]
  rw [all_congr' fun c hc => (by rw [impl_isDigit_is]; cases digB c <;> rfl : (impl_isDigit.f c == some true) = digB c)]
theorem all_tok (s : ByteArray) (hs : s.size ≤ 9223372036854775807) : impl_all.f s 93 = some ((bytesOf s).all tokB) := by
  unfold impl_all.f
  rw [if_pos hs]
  simp only [Nat.reduceEqDiff, if_true, if_false, reduceIte]
  rw [all_congr' fun c hc => (by rw [impl_TokenOk_1_is c (mem_bytes hc).1 (mem_bytes hc).2]; cases tokB c <;> rfl : (impl_TokenOk_1.f c == some true) = tokB c)]
def tokOk (s : ByteArray) : Bool := decide (1 ≤ s.size) && decide (s.size ≤ 64) && (bytesOf s).all tokB
theorem spec_TokenOk_ev (s : ByteArray) (hs : s.size ≤ 4611686018427387904) : Ev (fun k => spec_TokenOk.f k s) (tokOk s) := by
  unfold spec_TokenOk.f tokOk
  by_cases h : (s.size : Int) < 1
  · simp only [if_pos h]
    rw [decide_eq_false (by omega : ¬ 1 ≤ s.size)]
    exact Ev.step (f := fun _ => some false) (fun k => by simp only [spec_TokenOk.j0, if_true]) (Ev.now _)
  · simp only [if_neg h]
    rw [decide_eq_true (by omega : 1 ≤ s.size)]
    by_cases h' : (s.size : Int) > 64
    · rw [decide_eq_true h', decide_eq_false (by omega : ¬ s.size ≤ 64)]
      exact Ev.step (f := fun _ => some false) (fun k => by simp only [spec_TokenOk.j0, if_true]) (Ev.now _)
    · rw [decide_eq_false h', decide_eq_true (by omega : s.size ≤ 64), Bool.true_and, Bool.true_and]
      refine Ev.step (f := fun k => spec_TokenOk.l0 k s 0) (fun k => by simp only [spec_TokenOk.j0, Bool.false_eq_true, if_false]) ?_
      refine ev_all s tokB (fun k i => spec_TokenOk.l0 k s i) 0 (fun k i _ hi hp => ?_) (fun k i _ hi hp => ?_) (fun k _ => ?_)
      · simp only [spec_TokenOk.l0]
        rw [if_pos (by omega), if_pos (by omega), spec_l1Token_is _ (bt_range s i).1 (bt_range s i).2, hp, wrap_next hi hs]
        rfl
      · simp only [spec_TokenOk.l0]
        rw [if_pos (by omega), if_pos (by omega), spec_l1Token_is _ (bt_range s i).1 (bt_range s i).2, hp]
        rfl
      · simp only [spec_TokenOk.l0]
        rw [if_neg (by omega)]
theorem impl_TokenOk_is (s : ByteArray) (hs : s.size ≤ 4611686018427387904) : impl_TokenOk.f s = some (tokOk s) := by
  unfold impl_TokenOk.f tokOk
  by_cases h : (s.size : Int) ≥ 1
  · rw [if_pos h]
    by_cases h' : (s.size : Int) ≤ 64
    · rw [if_pos h', all_tok s (by omega), decide_eq_true (by omega : 1 ≤ s.size), decide_eq_true (by omega : s.size ≤ 64), Bool.true_and, Bool.true_and]; rfl
    · rw [if_neg h', decide_eq_false (by omega : ¬ s.size ≤ 64), Bool.and_false]; rfl
  · rw [if_neg h, decide_eq_false (by omega : ¬ 1 ≤ s.size)]; rfl
theorem bytes_extract (s : ByteArray) (a b : Nat) : bytesOf (s.extract a b) = ((bytesOf s).drop a).take (b - a) := by
  unfold bytesOf
  rw [Lib.extract_data, List.map_take, List.map_drop]
theorem bytes_last (s : ByteArray) (h : 0 < s.size) : bytesOf s = bytesOf (s.extract 0 (s.size - 1)) ++ [bt s ((s.size - 1 : Nat) : Int)] := by
  rw [bytes_extract, List.drop_zero, Nat.sub_zero]
  have h1 := drop_bt s (s.size - 1) (by omega)
  have h2 : (bytesOf s).drop (s.size - 1 + 1) = [] := List.drop_of_length_le (by rw [bytesOf_length]; omega)
  rw [h2] at h1
  rw [← h1, List.take_append_drop]
theorem bytes_first (s : ByteArray) (h : 0 < s.size) : bytesOf s = bt s 0 :: bytesOf (s.extract 1 s.size) := by
  rw [bytes_extract]
  have h1 := drop_bt s 0 h
  rw [List.drop_zero] at h1
  rw [List.take_of_length_le (by rw [List.length_drop, bytesOf_length]; exact Nat.le_refl _)]
  exact h1
theorem size_extract (s : ByteArray) (a b : Nat) (hb : b ≤ s.size) : (s.extract a b).size = b - a := by
  rw [← bytesOf_length, bytes_extract, List.length_take, List.length_drop, bytesOf_length]
  omega
theorem toList_nil (s : ByteArray) : s.toList = [] ↔ s.size = 0 := by
  rw [toList_data, ← data_length]
  exact List.length_eq_zero_iff.symm
theorem bytes_nil (s : ByteArray) (h : s.size = 0) : bytesOf s = [] := List.eq_nil_of_length_eq_zero (by rw [bytesOf_length]; exact h)
theorem bytes_ofList (l : List UInt8) : bytesOf ⟨l.toArray⟩ = l.map fun b => (b.toNat : Int) := by
  unfold bytesOf
  rfl
theorem bytes_two (s : ByteArray) (i : Nat) (h : i + 2 ≤ s.size) : bytesOf (s.extract i (i + 2)) = [bt s (i : Int), bt s ((i + 1 : Nat) : Int)] := by
  rw [bytes_extract, drop_bt s i (by omega), drop_bt s (i + 1) (by omega), show i + 2 - i = 2 from by omega]
  rfl
def blaB (c : Int) : Bool := decide (c = 32) || decide (c = 9)
/-- A list without the blanks at its beginning, at its end. -/
def dropL (l : List Int) : List Int := l.dropWhile blaB
def dropR (l : List Int) : List Int := (l.reverse.dropWhile blaB).reverse
def trimN (l : List Int) : List Int := dropL (dropR l)
theorem dropR_nil : dropR [] = [] := rfl
theorem dropR_snoc (l : List Int) (c : Int) : dropR (l ++ [c]) = if blaB c = true then dropR l else l ++ [c] := by
  unfold dropR
  rw [List.reverse_append, List.reverse_singleton, List.singleton_append, List.dropWhile_cons]
  split
  · rfl
  · simp
theorem dropL_cons (l : List Int) (c : Int) : dropL (c :: l) = if blaB c = true then dropL l else c :: l := by
  unfold dropL
  rw [List.dropWhile_cons]
theorem drop_comm (l : List Int) : dropR (dropL l) = dropL (dropR l) := by
  induction l with
  | nil => rfl
  | cons c cs ih =>
    rw [dropL_cons]
    by_cases h : blaB c = true
    · rw [if_pos h, ih]
      have key : ∀ l : List Int, dropL (dropR (c :: l)) = dropL (dropR l) := by
        intro l
        have aux : ∀ n : Nat, ∀ l : List Int, l.length = n → dropL (dropR (c :: l)) = dropL (dropR l) := by
          intro n
          induction n with
          | zero =>
            intro l hl
            obtain rfl := List.eq_nil_of_length_eq_zero hl
            have : dropR [c] = [] := by
              have := dropR_snoc [] c
              rw [List.nil_append, if_pos h] at this
              exact this
            rw [this, dropR_nil]
          | succ n ihn =>
            intro l hl
            obtain ⟨l', x, rfl⟩ : ∃ l' x, l = l' ++ [x] := ⟨l.dropLast, l.getLast (by intro e; rw [e] at hl; cases hl), (List.dropLast_concat_getLast _).symm⟩
            rw [← List.cons_append, dropR_snoc, dropR_snoc]
            by_cases hx : blaB x = true
            · rw [if_pos hx, if_pos hx]
              exact ihn l' (by simpa using hl)
            · rw [if_neg hx, if_neg hx, List.cons_append, dropL_cons, if_pos h]
        exact aux _ l rfl
      exact (key cs).symm
    · rw [if_neg h]
      have : ∃ l', dropR (c :: cs) = c :: l' := by
        have aux : ∀ n : Nat, ∀ l : List Int, l.length = n → ∃ l', dropR (c :: l) = c :: l' := by
          intro n
          induction n with
          | zero =>
            intro l hl
            obtain rfl := List.eq_nil_of_length_eq_zero hl
            have := dropR_snoc [] c
            rw [List.nil_append, if_neg h] at this
            exact ⟨[], this⟩
          | succ n ihn =>
            intro l hl
            obtain ⟨l', x, rfl⟩ : ∃ l' x, l = l' ++ [x] := ⟨l.dropLast, l.getLast (by intro e; rw [e] at hl; cases hl), (List.dropLast_concat_getLast _).symm⟩
            rw [← List.cons_append, dropR_snoc]
            by_cases hx : blaB x = true
            · rw [if_pos hx]
              exact ihn l' (by simpa using hl)
            · rw [if_neg hx]
              exact ⟨l' ++ [x], rfl⟩
        exact aux _ cs rfl
      obtain ⟨l', e⟩ := this
      rw [e, dropL_cons, if_neg h]
theorem spec_l1Blank_is (c : Int) : spec_l1Blank.f c = some (blaB c) := by
  unfold spec_l1Blank.f blaB
  by_cases h : c = 32
  · simp [h]
  · by_cases h2 : c = 9 <;> simp [h, h2]
theorem spec_Trimmed_right (n : Nat) : ∀ s : ByteArray, s.size = n → n ≤ 4611686018427387904 → Ev (fun k => spec_Trimmed.l1 k s) (strOfNums (dropR (bytesOf s))) := by
  induction n with
  | zero =>
    intro s hs _
    refine Ev.step (f := fun _ => some s) (fun k => ?_) (ev_eq (Ev.now _) ?_)
    · simp only [spec_Trimmed.l1]
      rw [if_pos ((toList_nil s).2 hs)]
    · rw [bytes_nil s hs, dropR_nil, ← bytes_nil s hs, nums_bytes]
  | succ n ih =>
    intro s hs hn
    have e := bytes_last s (by omega)
    have hi : wrap64 ((s.size : Int) - 1) = ((s.size - 1 : Nat) : Int) := by rw [wrap_in (by omega) (by omega)]; omega
    rw [e, dropR_snoc, ← e]
    by_cases hb : blaB (bt s ((s.size - 1 : Nat) : Int)) = true
    · rw [if_pos hb]
      refine Ev.step (f := fun k => spec_Trimmed.l1 k (s.extract 0 (s.size - 1))) (fun k => ?_) (ih _ (by rw [size_extract s _ _ (by omega)]; omega) (by omega))
      simp only [spec_Trimmed.l1]
      rw [if_neg (by rw [toList_nil]; omega), hi, if_pos (by omega), if_pos (by omega), spec_l1Blank_is]
      simp only [Option.bind_some]
      rw [if_pos hb, if_pos (by omega), Int.toNat_natCast]
    · rw [if_neg hb, nums_bytes]
      refine Ev.step (f := fun _ => some s) (fun k => ?_) (Ev.now _)
      simp only [spec_Trimmed.l1]
      rw [if_neg (by rw [toList_nil]; omega), hi, if_pos (by omega), if_pos (by omega), spec_l1Blank_is]
      simp only [Option.bind_some]
      rw [if_neg hb]
theorem spec_Trimmed_left (n : Nat) : ∀ s : ByteArray, s.size = n → n ≤ 4611686018427387904 → Ev (fun k => spec_Trimmed.l0 k s) (strOfNums (dropR (dropL (bytesOf s)))) := by
  induction n with
  | zero =>
    intro s hs h0
    refine Ev.step (f := fun k => spec_Trimmed.j1 k s) (fun k => ?_) (Ev.step (f := fun k => spec_Trimmed.l1 k s) (fun k => ?_) (ev_eq (spec_Trimmed_right 0 s hs h0) ?_))
    · simp only [spec_Trimmed.l0]
      rw [if_pos ((toList_nil s).2 hs)]
    · simp only [spec_Trimmed.j1]
    · rw [bytes_nil s hs]; rfl
  | succ n ih =>
    intro s hs hn
    have e := bytes_first s (by omega)
    rw [e, dropL_cons, ← e]
    by_cases hb : blaB (bt s 0) = true
    · rw [if_pos hb]
      refine Ev.step (f := fun k => spec_Trimmed.l0 k (s.extract 1 s.size)) (fun k => ?_) (ih _ (by rw [size_extract s _ _ (by omega)]; omega) (by omega))
      simp only [spec_Trimmed.l0]
      rw [if_neg (by rw [toList_nil]; omega), if_pos (by omega), spec_l1Blank_is]
      simp only [Option.bind_some]
      rw [if_pos hb, if_pos (by omega)]
    · rw [if_neg hb]
      refine Ev.step (f := fun k => spec_Trimmed.j1 k s) (fun k => ?_) (Ev.step (f := fun k => spec_Trimmed.l1 k s) (fun k => ?_) (spec_Trimmed_right _ s rfl (by omega)))
      · simp only [spec_Trimmed.l0]
        rw [if_neg (by rw [toList_nil]; omega), if_pos (by omega), spec_l1Blank_is]
        simp only [Option.bind_some]
        rw [if_neg hb]
      · simp only [spec_Trimmed.j1]
/-- A text without the blanks at its ends. -/
def trimT (s : ByteArray) : ByteArray := strOfNums (trimN (bytesOf s))
theorem spec_Trimmed_ev (s : ByteArray) (hs : s.size ≤ 4611686018427387904) : Ev (fun k => spec_Trimmed.f k s) (trimT s) := by
  unfold spec_Trimmed.f trimT trimN
  rw [← drop_comm]
  exact spec_Trimmed_left _ s rfl hs
theorem bla_u8 (b : UInt8) : ([32, 9] : List UInt8).contains b = blaB (b.toNat : Int) := by
  have n32 : (b.toNat : Int) = 32 → b = 32 := fun h => by
    refine UInt8.toNat_inj.1 ?_
    have e : b.toNat = 32 := by omega
    rw [e]; rfl
  have n9 : (b.toNat : Int) = 9 → b = 9 := fun h => by
    refine UInt8.toNat_inj.1 ?_
    have e : b.toNat = 9 := by omega
    rw [e]; rfl
  have h1 : b = 32 ↔ (b.toNat : Int) = 32 := ⟨fun h => by rw [h]; rfl, n32⟩
  have h2 : b = 9 ↔ (b.toNat : Int) = 9 := ⟨fun h => by rw [h]; rfl, n9⟩
  unfold blaB
  rw [show decide ((b.toNat : Int) = 32) = decide (b = 32) from decide_eq_decide.2 h1.symm, show decide ((b.toNat : Int) = 9) = decide (b = 9) from decide_eq_decide.2 h2.symm]
  by_cases a : b = 32
  · simp [a]
  · by_cases c : b = 9 <;> simp [a, c]
theorem dropW_map (l : List UInt8) : (l.dropWhile (([32, 9] : List UInt8).contains ·)).map (fun b => (b.toNat : Int)) = dropL (l.map fun b => (b.toNat : Int)) := by
  induction l with
  | nil => rfl
  | cons b l ih =>
    rw [List.map_cons, dropL_cons, List.dropWhile_cons, bla_u8]
    split
    · exact ih
    · rfl
theorem impl_Trimmed_is (s : ByteArray) (hs : s.size ≤ 9223372036854775807) : impl_Trimmed.f s = some (trimT s) := by
  unfold impl_Trimmed.f strings_Trim.f
  rw [if_pos ⟨hs, by decide, by decide⟩]
  refine congrArg some (bytes_inj ?_)
  have h0 : ∀ c ∈ trimN (bytesOf s), 0 ≤ c ∧ c ≤ 255 := by
    intro c hc
    refine mem_bytes (s := s) ?_
    unfold trimN dropL dropR at hc
    have h1 := (List.dropWhile_sublist _).subset hc
    rw [List.mem_reverse] at h1
    have h2 := (List.dropWhile_sublist _).subset h1
    rwa [List.mem_reverse] at h2
  unfold trimT
  rw [bytes_nums _ h0, bytes_ofList]
  unfold Lib.trimS Lib.trimLeftS Lib.trimRightS trimN dropR
  rw [show ((⟨#[32, 9]⟩ : ByteArray).data.toList) = ([32, 9] : List UInt8) from rfl, dropW_map, List.map_reverse, dropW_map, List.map_reverse]
  rfl
def visOk (s : ByteArray) : Bool := decide (s.size ≤ 400) && (bytesOf s).all visB
theorem spec_VisibleOk_ev (s : ByteArray) (hs : s.size ≤ 4611686018427387904) : Ev (fun k => spec_VisibleOk.f k s) (visOk s) := by
  unfold spec_VisibleOk.f visOk
  by_cases h : (s.size : Int) > 400
  · simp only [if_pos h]
    exact ev_const (by rw [decide_eq_false (by omega), Bool.false_and])
  · simp only [if_neg h]
    rw [decide_eq_true (by omega), Bool.true_and]
    refine ev_all s visB (fun k i => spec_VisibleOk.l0 k s i) 0 (fun k i _ hi hp => ?_) (fun k i _ hi hp => ?_) (fun k _ => ?_)
    · simp only [spec_VisibleOk.l0]
      rw [if_pos (by omega), if_pos (by omega), wrap_next hi hs]
      unfold visB at hp
      by_cases h1 : bt s i < 32
      · have h9 : bt s i = 9 := by simp at hp; omega
        rw [if_pos h1, if_pos h9]
      · rw [if_neg h1]
        by_cases h2 : bt s i > 126
        · have h9 : bt s i = 9 := by simp at hp; omega
          rw [if_pos h2, if_pos h9]
        · rw [if_neg h2]
    · simp only [spec_VisibleOk.l0]
      rw [if_pos (by omega), if_pos (by omega)]
      unfold visB at hp
      simp at hp
      by_cases h1 : bt s i < 32
      · rw [if_pos h1, if_neg hp.2]
      · rw [if_neg h1, if_pos (by omega), if_neg hp.2]
    · simp only [spec_VisibleOk.l0]
      rw [if_neg (by omega)]
theorem impl_VisibleOk_is (s : ByteArray) (hs : s.size ≤ 4611686018427387904) : impl_VisibleOk.f s = some (visOk s) := by
  unfold impl_VisibleOk.f visOk
  by_cases h : (s.size : Int) ≤ 400
  · rw [if_pos h, all_vis s (by omega), decide_eq_true (by omega), Bool.true_and]; rfl
  · rw [if_neg h, decide_eq_false (by omega), Bool.false_and]
abbrev Fld := S67
abbrev FldL := S65
def isFieldB (n v : ByteArray) : Bool := tokOk n && (visOk v && (trimT v).toList == v.toList)
theorem spec_l4Field_ev (n v : ByteArray) (hn : n.size ≤ 4611686018427387904) (hv : v.size ≤ 4611686018427387904) : Ev (fun k => spec_l4Field.f k n v) (isFieldB n v) := by
  unfold spec_l4Field.f isFieldB
  refine Ev.bind (spec_TokenOk_ev n hn) ?_
  cases tokOk n
  · exact Ev.now _
  · simp only [if_true, Bool.true_and]
    refine Ev.bind (spec_VisibleOk_ev v hv) ?_
    cases visOk v
    · exact Ev.now _
    · simp only [if_true, Bool.true_and]
      exact Ev.bind (spec_Trimmed_ev v hv) (Ev.now _)
theorem impl_isField_is (n v : ByteArray) (hn : n.size ≤ 4611686018427387904) (hv : v.size ≤ 4611686018427387904) : impl_isField.f n v = some (isFieldB n v) := by
  unfold impl_isField.f isFieldB
  rw [impl_TokenOk_is n hn, impl_VisibleOk_is v hv, impl_Trimmed_is v (by omega)]
  cases tokOk n <;> cases visOk v <;> rfl
/-- Fields whose texts are not longer than a machine's memory. -/
def Mild (l : List Fld) : Prop := l.length ≤ 1048576 ∧ ∀ x ∈ l, x.f0.size ≤ 1048576 ∧ x.f1.size ≤ 1048576
def fieldsOk (l : List Fld) : Bool := decide (l.length ≤ 30) && l.all fun x => isFieldB x.f0 x.f1
theorem rd_fld (l : List Fld) (i : Nat) : rd_T67 l (i : Int) = l.getD i z67 := by
  unfold rd_T67
  rw [Int.toNat_natCast]
theorem rd_fldL (l : List FldL) (i : Nat) : rd_T65 l (i : Int) = l.getD i z65 := by
  unfold rd_T65
  rw [Int.toNat_natCast]
theorem spec_FieldsOk_ev (l : List Fld) (h : Mild l) : Ev (fun k => spec_FieldsOk.f k l) (fieldsOk l) := by
  unfold spec_FieldsOk.f fieldsOk
  have hl := h.1
  by_cases h0 : (l.length : Int) > 30
  · simp only [if_pos h0]
    rw [decide_eq_false (by omega), Bool.false_and]
    exact Ev.now _
  · simp only [if_neg h0]
    rw [decide_eq_true (by omega), Bool.true_and]
    refine ev_eq (ev_listAll l z67 (fun x => isFieldB x.f0 x.f1) true false (fun k i => spec_FieldsOk.l0 k l i) (fun i hi hp x hx => ?_) (fun i hi hp => ?_) ?_) (by cases l.all _ <;> rfl)
    · have hm := h.2 _ (mem_getD (d := z67) hi)
      refine Ev.step (f := fun k => (spec_l4Field.f k (l.getD i z67).f0 (l.getD i z67).f1).bind fun t => if t = true then spec_FieldsOk.l0 k l (((i + 1 : Nat) : Int)) else some false) (fun k => ?_) (Ev.bind (spec_l4Field_ev _ _ (by omega) (by omega)) ?_)
      · simp only [spec_FieldsOk.l0]
        rw [if_pos (by omega), if_pos (by omega), rd_fld, wrap_next hi (by omega)]
      · simp only [hp, if_true]
        exact hx
    · have hm := h.2 _ (mem_getD (d := z67) hi)
      refine Ev.step (f := fun k => (spec_l4Field.f k (l.getD i z67).f0 (l.getD i z67).f1).bind fun t => if t = true then spec_FieldsOk.l0 k l (((i + 1 : Nat) : Int)) else some false) (fun k => ?_) (Ev.bind (spec_l4Field_ev _ _ (by omega) (by omega)) ?_)
      · simp only [spec_FieldsOk.l0]
        rw [if_pos (by omega), if_pos (by omega), rd_fld, wrap_next hi (by omega)]
      · simp only [hp]
        exact Ev.now _
    · refine Ev.step (f := fun _ => some true) (fun k => ?_) (Ev.now _)
      simp only [spec_FieldsOk.l0]
      rw [if_neg (by omega)]
theorem impl_FieldsOk_is (l : List Fld) (h : Mild l) : impl_FieldsOk.f l = some (fieldsOk l) := by
  unfold impl_FieldsOk.f fieldsOk
  by_cases h0 : (l.length : Int) ≤ 30
  · rw [if_pos h0, decide_eq_true (by omega), Bool.true_and]
    have hx : ∀ x ∈ l, impl_FieldsOk_1.f x.f0 x.f1 = some (!isFieldB x.f0 x.f1) := by
      intro x hx
      have := h.2 x hx
      unfold impl_FieldsOk_1.f
      rw [impl_isField_is _ _ (by omega) (by omega)]
      rfl
    unfold impl_Field.f
    rw [if_pos ⟨rfl, List.all_eq_true.2 fun x hm => by rw [hx x hm]; rfl⟩]
    simp only [Option.bind_some]
    refine congrArg some ?_
    have : ∀ m : List Fld, (∀ x ∈ m, impl_FieldsOk_1.f x.f0 x.f1 = some (!isFieldB x.f0 x.f1)) → (!(m.any fun x => impl_FieldsOk_1.f x.f0 x.f1 == some true)) = m.all fun x => isFieldB x.f0 x.f1 := by
      intro m
      induction m with
      | nil => intro _; rfl
      | cons a m ih =>
        intro hm
        rw [List.any_cons, List.all_cons, hm a List.mem_cons_self, Bool.not_or, ih fun x hx => hm x (List.mem_cons_of_mem _ hx)]
        cases isFieldB a.f0 a.f1 <;> rfl
    exact this l hx
  · rw [if_neg h0, decide_eq_false (by omega), Bool.false_and]
/-- A field as the laws have it, turned into one of the program's. -/
def conv (x : FldL) : Fld := ⟨x.f0, x.f1⟩
/-- How laws measure fields: what is left, or nothing. -/
theorem szFieldS_ev (l : List FldL) (left : Int) (h0 : 0 ≤ left) (h1 : left ≤ 1048576) (hl : l.length ≤ 9223372036854775807) (hx : ∀ x ∈ l, x.f0.size ≤ 9223372036854775807 ∧ x.f1.size ≤ 9223372036854775807) :
    ∃ r, Ev (fun k => laws_szFieldS.f k l left) r ∧ r ≤ left ∧ (0 ≤ r → Mild (l.map conv)) := by
  have hw : wrap64 (left - (l.length : Int)) = left - (l.length : Int) := wrap_in (by omega) (by omega)
  unfold laws_szFieldS.f
  rw [hw]
  by_cases hn : left - (l.length : Int) < 0
  · simp only [if_pos hn]
    exact ⟨-1, Ev.now _, by omega, fun h => by omega⟩
  · simp only [if_neg hn]
    have key : ∀ (n i : Nat) (st : Int), i + n = l.length → 0 ≤ st → st ≤ 1048576 → ∃ r, Ev (fun k => laws_szFieldS.l0 k l st (i : Int)) r ∧ r ≤ st ∧ (0 ≤ r → ∀ x ∈ l.drop i, x.f0.size ≤ 1048576 ∧ x.f1.size ≤ 1048576) := by
      intro n
      induction n with
      | zero =>
        intro i st hd _ _
        refine ⟨st, Ev.step (f := fun _ => some st) (fun k => ?_) (Ev.now _), Int.le_refl _, fun _ x hx => ?_⟩
        · simp only [laws_szFieldS.l0]
          rw [if_neg (by omega)]
        · rw [List.drop_of_length_le (by omega)] at hx
          cases hx
      | succ n ih =>
        intro i st hd s0 s1
        have hm := hx _ (mem_getD (l := l) (d := z65) (i := i) (by omega))
        obtain ⟨x, hxe⟩ : ∃ x, l.getD i z65 = x := ⟨_, rfl⟩
        rw [hxe] at hm
        have e0 : ∀ k, laws_szFieldS.l0 (k + 1) l st (i : Int) = (laws_szField.f x.f0 x.f1 st).bind fun t => if t < 0 then some (-1) else laws_szFieldS.l0 k l t (((i + 1 : Nat) : Int)) := by
          intro k
          simp only [laws_szFieldS.l0]
          have hw2 : wrap64 ((i : Int) + 1) = ((i + 1 : Nat) : Int) := by rw [wrap_in (by omega) (by omega)]; omega
          rw [if_pos (by omega), if_pos (by omega), rd_fldL, hxe, hw2]
        have e1 : laws_szField.f x.f0 x.f1 st = some (if st - (x.f0.size : Int) < 0 then -1 else if st - (x.f0.size : Int) - (x.f1.size : Int) < 0 then -1 else st - (x.f0.size : Int) - (x.f1.size : Int)) := by
          unfold laws_szField.f
          rw [wrap_in (i := st - (x.f0.size : Int)) (by omega) (by omega)]
          by_cases a : st - (x.f0.size : Int) < 0
          · rw [if_pos a, if_pos a]
          · rw [if_neg a, if_neg a, wrap_in (i := st - (x.f0.size : Int) - (x.f1.size : Int)) (by omega) (by omega)]
            by_cases b : st - (x.f0.size : Int) - (x.f1.size : Int) < 0
            · rw [if_pos b, if_pos b]
            · rw [if_neg b, if_neg b]
        obtain ⟨t, ht⟩ : ∃ t, (if st - (x.f0.size : Int) < 0 then -1 else if st - (x.f0.size : Int) - (x.f1.size : Int) < 0 then -1 else st - (x.f0.size : Int) - (x.f1.size : Int)) = t := ⟨_, rfl⟩
        rw [ht] at e1
        by_cases hneg : t < 0
        · refine ⟨-1, Ev.step (f := fun _ => some (-1)) (fun k => ?_) (Ev.now _), by omega, fun h => by omega⟩
          rw [e0, e1]
          simp only [Option.bind_some, if_pos hneg]
        · have hb : t ≤ st ∧ x.f0.size ≤ 1048576 ∧ x.f1.size ≤ 1048576 := by
            split at ht
            · omega
            · split at ht <;> omega
          obtain ⟨r, hr, hle, hq⟩ := ih (i + 1) t (by omega) (by omega) (by omega)
          refine ⟨r, Ev.step (f := fun k => laws_szFieldS.l0 k l t (((i + 1 : Nat) : Int))) (fun k => ?_) hr, by omega, fun h z hz => ?_⟩
          · rw [e0, e1]
            simp only [Option.bind_some, if_neg hneg]
          · rw [drop_at l z65 i (by omega), hxe] at hz
            rcases List.mem_cons.1 hz with rfl | hz
            · exact hb.2
            · exact hq h z hz
    obtain ⟨r, hr, hle, hq⟩ := key l.length 0 (left - (l.length : Int)) (by omega) (by omega) (by omega)
    refine ⟨r, hr, by omega, fun h => ⟨by rw [List.length_map]; omega, fun x hx => ?_⟩⟩
    obtain ⟨y, hy, rfl⟩ := List.mem_map.1 hx
    rw [List.drop_zero] at hq
    exact hq h y hy
theorem toFieldS_ev (l : List FldL) (hl : l.length ≤ 1048576) : Ev (fun k => laws_toFieldS.f k l) (l.map conv) := by
  unfold laws_toFieldS.f
  have key : ∀ (n i : Nat), i + n = l.length → Ev (fun k => laws_toFieldS.l0 k l ((l.map conv).take i ++ List.replicate n z67) (i : Int)) (l.map conv) := by
    intro n
    induction n with
    | zero =>
      intro i hd
      refine Ev.step (f := fun _ => some (l.map conv)) (fun k => ?_) (Ev.now _)
      simp only [laws_toFieldS.l0]
      rw [if_neg (by omega), List.replicate_zero, List.append_nil, List.take_of_length_le (by rw [List.length_map]; omega)]
    | succ n ih =>
      intro i hd
      refine Ev.step (f := fun k => laws_toFieldS.l0 k l ((l.map conv).take (i + 1) ++ List.replicate n z67) (((i + 1 : Nat) : Int))) (fun k => ?_) (ih (i + 1) (by omega))
      simp only [laws_toFieldS.l0, laws_toField.f, Option.bind_some]
      have hlen : ((l.map conv).take i ++ List.replicate (n + 1) z67).length = l.length := by
        rw [List.length_append, List.length_take, List.length_map, List.length_replicate]; omega
      rw [if_pos (by omega), if_pos (by omega), hlen, if_pos (by omega), rd_fldL, wrap_next (by omega : i < l.length) (by omega), Int.toNat_natCast]
      have hi : i < (l.map conv).length := by rw [List.length_map]; omega
      have e : (l.map conv).take (i + 1) = (l.map conv).take i ++ [conv (l.getD i z65)] := by
        rw [List.take_add_one, List.getElem?_eq_getElem hi, List.getElem_map, List.getD_eq_getElem?_getD, List.getElem?_eq_getElem (by omega : i < l.length)]
        rfl
      rw [e, List.set_append, List.length_take, List.length_map, if_neg (by omega), Nat.min_eq_left (by omega), Nat.sub_self, List.replicate_succ, List.set_cons_zero, List.append_assoc]
      rfl
  have h0 := key l.length 0 (by omega)
  rw [List.take_zero, List.nil_append] at h0
  refine Ev.congr (fun k => ?_) h0
  rw [Int.toNat_natCast, if_pos (by omega), if_pos (by omega)]
  rfl
theorem eqFieldS_self (l : List Fld) (hl : l.length ≤ 1048576) : Ev (fun k => laws_eqFieldS.f k l l) true := by
  unfold laws_eqFieldS.f
  simp only [if_true]
  refine ev_eq (ev_listAll l z67 (fun _ => true) true false (fun k i => laws_eqFieldS.l0 k l l i) (fun i hi _ x hx => Ev.step (f := fun k => laws_eqFieldS.l0 k l l (((i + 1 : Nat) : Int))) (fun k => ?_) hx) (fun i hi hp => by cases hp) (Ev.step (f := fun _ => some true) (fun k => ?_) (Ev.now _))) (by simp)
  · simp only [laws_eqFieldS.l0, laws_eqField.f]
    rw [if_pos (by omega), if_pos (by omega), if_pos (by omega), wrap_next hi (by omega)]
    simp
  · simp only [laws_eqFieldS.l0]
    rw [if_neg (by omega)]
def inB (x a b : Int) : Bool := decide (a ≤ x) && decide (x ≤ b)
theorem spec_l1In_is (x a b : Int) : spec_l1In.f x a b = some (inB x a b) := by
  unfold spec_l1In.f inB
  by_cases h : x ≥ a
  · rw [if_pos h, decide_eq_true (by omega : a ≤ x), Bool.true_and]
  · rw [if_neg h, decide_eq_false (by omega : ¬ a ≤ x), Bool.false_and]
theorem impl_within_is (x a b : Int) : impl_within.f x a b = some (inB x a b) := by
  unfold impl_within.f inB
  by_cases h : x ≥ a
  · rw [if_pos h, decide_eq_true (by omega : a ≤ x), Bool.true_and]
  · rw [if_neg h, decide_eq_false (by omega : ¬ a ≤ x), Bool.false_and]
theorem inB_true {x a b : Int} (h : inB x a b = true) : a ≤ x ∧ x ≤ b := by unfold inB at h; simpa using h
def showT (l : List Fld) : ByteArray := ⟨(showL l).toArray⟩
theorem showT_bytes (l : List Fld) : bytesOf (showT l) = (showL l).map fun b => (b.toNat : Int) := bytes_ofList _
theorem showT_nums (l : List Fld) : strOfNums ((showL l).map fun b => (b.toNat : Int)) = showT l := by rw [← showT_bytes, nums_bytes]
theorem showT_size (l : List Fld) : (showT l).size = (showL l).length := by
  show (showL l).toArray.size = _
  simp
theorem line_bytes (x : Fld) : bytesOf (x.f0 ++ (⟨#[58, 32]⟩ : ByteArray) ++ x.f1 ++ (⟨#[13, 10]⟩ : ByteArray)) = (lineL x).map fun b => (b.toNat : Int) := by
  unfold bytesOf
  rw [line_data]
theorem showL_length_le (l : List Fld) (m : Nat) (h : ∀ x ∈ l, x.f0.size ≤ m ∧ x.f1.size ≤ m) : (showL l).length ≤ l.length * (2 * m + 4) := by
  unfold showL
  induction l with
  | nil => simp
  | cons a l ih =>
    rw [List.flatMap_cons, List.length_append, lineL_length, List.length_cons, Nat.add_mul, Nat.one_mul]
    have := h a List.mem_cons_self
    have := ih fun x hx => h x (List.mem_cons_of_mem _ hx)
    omega
theorem spec_l4Show_ev (l : List Fld) (hl : l.length ≤ 1048577) (hm : ∀ x ∈ l, x.f0.size ≤ 1048576 ∧ x.f1.size ≤ 1048576) : Ev (fun k => spec_l4Show.f k l) (showT l) := by
  unfold spec_l4Show.f
  have hz := showL_length_le l 1048576 hm
  have hz2 : l.length * (2 * 1048576 + 4) ≤ 1048577 * (2 * 1048576 + 4) := Nat.mul_le_mul_right _ hl
  have key : ∀ (n i : Nat), i + n = l.length → Ev (fun k => spec_l4Show.l0 k l ((showL (l.take i)).map fun b => (b.toNat : Int)) (i : Int)) (showT l) := by
    intro n
    induction n with
    | zero =>
      intro i hi
      rw [List.take_of_length_le (by omega)]
      refine Ev.step (f := fun _ => some (showT l)) (fun k => ?_) (Ev.now _)
      simp only [spec_l4Show.l0]
      rw [if_neg (by omega), showT_nums]
    | succ n ih =>
      intro i hi
      have hlt : i < l.length := by omega
      have h1 := hm _ (mem_getD (d := z67) hlt)
      have hn := showL_next l i hlt
      have hle := showL_le l (i + 1)
      rw [hn, List.length_append] at hle
      have e : l.getD i z67 = l[i]'hlt := by rw [List.getD_eq_getElem?_getD, List.getElem?_eq_getElem hlt]; rfl
      have h2 := ih (i + 1) (by omega)
      rw [hn, List.map_append, ← line_bytes] at h2
      rw [e] at h1
      have hll := lineL_length (l[i]'hlt)
      refine Ev.step (fun k => ?_) h2
      simp only [spec_l4Show.l0]
      rw [rd_fld, e, wrap_next hlt (by omega)]
      generalize l[i]'hlt = x at h1 hle hll
      have a1 : (x.f0 ++ (⟨#[58, 32]⟩ : ByteArray)).size = x.f0.size + 2 := by rw [ByteArray.size_append]; rfl
      have a2 : (x.f0 ++ (⟨#[58, 32]⟩ : ByteArray) ++ x.f1).size = x.f0.size + 2 + x.f1.size := by rw [ByteArray.size_append, a1]
      have a3 : (x.f0 ++ (⟨#[58, 32]⟩ : ByteArray) ++ x.f1 ++ (⟨#[13, 10]⟩ : ByteArray)).size = x.f0.size + 2 + x.f1.size + 2 := by rw [ByteArray.size_append, a2]; rfl
      rw [if_pos (by omega), if_pos (by omega), if_pos (by omega), if_pos (by omega), if_pos (by omega), if_pos (by rw [List.length_map]; omega)]
  exact key l.length 0 (by omega)
theorem impl_showFields_is (l : List Fld) (hl : l.length ≤ 1048577) (hm : ∀ x ∈ l, x.f0.size ≤ 1048576 ∧ x.f1.size ≤ 1048576) : impl_showFields.f l = some (showT l) := by
  unfold impl_showFields.f
  have hz := showL_length_le l 1048576 hm
  have hz2 : l.length * (2 * 1048576 + 4) ≤ 1048577 * (2 * 1048576 + 4) := Nat.mul_le_mul_right _ hl
  rw [if_pos (by omega)]
  rfl
theorem showT_size_le (l : List Fld) (hl : l.length ≤ 1048577) (hm : ∀ x ∈ l, x.f0.size ≤ 1048576 ∧ x.f1.size ≤ 1048576) : (showT l).size ≤ 70368744177664 := by
  rw [showT_size]
  have hz := showL_length_le l 1048576 hm
  have hz2 : l.length * (2 * 1048576 + 4) ≤ 1048577 * (2 * 1048576 + 4) := Nat.mul_le_mul_right _ hl
  omega
def withLen (l : List Fld) (b : ByteArray) (long : Bool) : List Fld := if long = true then l ++ [(⟨lengthNm, decT (b.size : Int)⟩ : Fld)] else l
def showM (line : ByteArray) (l : List Fld) (b : ByteArray) (long : Bool) : ByteArray :=
  if ((withLen l b long).length : Int) > 30 then ⟨#[]⟩ else line ++ (⟨#[13, 10]⟩ : ByteArray) ++ showT (withLen l b long) ++ (⟨#[13, 10]⟩ : ByteArray) ++ b
theorem withLen_mild (l : List Fld) (b : ByteArray) (long : Bool) (h : Mild l) (hb : b.size ≤ 1048576) : (withLen l b long).length ≤ 1048577 ∧ ∀ x ∈ withLen l b long, x.f0.size ≤ 1048576 ∧ x.f1.size ≤ 1048576 := by
  unfold withLen
  have h1 := h.1
  cases long with
  | false => exact ⟨by simp only [Bool.false_eq_true, if_false]; omega, by simpa using h.2⟩
  | true =>
    simp only [if_true]
    refine ⟨by rw [List.length_append]; simp; omega, fun x hx => ?_⟩
    rcases List.mem_append.1 hx with hx | hx
    · exact h.2 x hx
    · rw [List.mem_singleton.1 hx]
      have a : lengthNm.size = 14 := rfl
      have c := decT_size (b.size : Int) (by omega) (by omega)
      exact ⟨by show lengthNm.size ≤ _; omega, by show (decT _).size ≤ _; omega⟩
theorem impl_show_is (line : ByteArray) (l : List Fld) (b : ByteArray) (long : Bool) (h : Mild l) (hl : line.size ≤ 4611686018427387904) (hb : b.size ≤ 1048576) : impl_show.f line l b long = some (showM line l b long) := by
  unfold impl_show.f showM
  have h1 := h.1
  obtain ⟨w1, w2⟩ := withLen_mild l b long h hb
  have hw : (if long = true then (if l.length < 4398046511104 then (impl_decimal.f (b.size : Int)).bind fun t => some (l ++ [(⟨lengthNm, t⟩ : Fld)]) else none) else some l) = some (withLen l b long) := by
    unfold withLen
    cases long with
    | false => rfl
    | true =>
      simp only [if_true]
      rw [if_pos (by omega), impl_decimal_is _ (by omega) (by omega)]
      rfl
  rw [hw]
  simp only [Option.bind_some]
  by_cases h30 : ((withLen l b long).length : Int) > 30
  · rw [if_pos h30, if_pos h30]
  · rw [if_neg h30, if_neg h30, impl_showFields_is _ w1 w2]
    have := showT_size_le _ w1 w2
    simp only [Option.bind_some]
    rw [if_pos (by omega)]
def putF (line b : ByteArray) (k : Nat) (l : List Fld) : Option ByteArray := if (l.length : Int) > 30 then (some (⟨#[]⟩ : ByteArray)) else (if line.size + 2 ≤ 9223372036854775807 then ((spec_l4Show.f k l).bind fun t111 => (if (line ++ (⟨#[13, 10]⟩ : ByteArray)).size + t111.size ≤ 9223372036854775807 then (if ((line ++ (⟨#[13, 10]⟩ : ByteArray)) ++ t111).size + 2 ≤ 9223372036854775807 then (if (((line ++ (⟨#[13, 10]⟩ : ByteArray)) ++ t111) ++ (⟨#[13, 10]⟩ : ByteArray)).size + b.size ≤ 9223372036854775807 then (some ((((line ++ (⟨#[13, 10]⟩ : ByteArray)) ++ t111) ++ (⟨#[13, 10]⟩ : ByteArray)) ++ b)) else (none)) else (none)) else (none))) else (none))
theorem put_ev (line b : ByteArray) (l : List Fld) (w1 : l.length ≤ 1048577) (w2 : ∀ x ∈ l, x.f0.size ≤ 1048576 ∧ x.f1.size ≤ 1048576) (hl : line.size ≤ 4611686018427387904) (hb : b.size ≤ 1048576) :
    Ev (fun k => putF line b k l)
      (if (l.length : Int) > 30 then ⟨#[]⟩ else line ++ (⟨#[13, 10]⟩ : ByteArray) ++ showT l ++ (⟨#[13, 10]⟩ : ByteArray) ++ b) := by
  unfold putF
  by_cases h30 : (l.length : Int) > 30
  · simp only [if_pos h30]
    exact Ev.now _
  · simp only [if_neg h30]
    simp only [if_pos (show line.size + 2 ≤ 9223372036854775807 by omega)]
    refine Ev.bind (spec_l4Show_ev l w1 w2) ?_
    have := showT_size_le _ w1 w2
    have a1 : (line ++ (⟨#[13, 10]⟩ : ByteArray)).size = line.size + 2 := by rw [ByteArray.size_append]; rfl
    have a2 : (line ++ (⟨#[13, 10]⟩ : ByteArray) ++ showT l).size = line.size + 2 + (showT l).size := by rw [ByteArray.size_append, a1]
    have a3 : (line ++ (⟨#[13, 10]⟩ : ByteArray) ++ showT l ++ (⟨#[13, 10]⟩ : ByteArray)).size = line.size + 2 + (showT l).size + 2 := by rw [ByteArray.size_append, a2]; rfl
    rw [if_pos (by omega), if_pos (by omega), if_pos (by omega)]
    exact Ev.now _
theorem spec_l6Show_ev (line : ByteArray) (l : List Fld) (b : ByteArray) (bare always : Bool) (h : Mild l) (hl : line.size ≤ 4611686018427387904) (hb : b.size ≤ 1048576) :
    Ev (fun k => spec_l6Show.f k line l b bare always) (showM line l b (!bare && (b.toList != ([] : List UInt8) || always))) := by
  unfold spec_l6Show.f
  have h1 := h.1
  simp only [Option.bind_some, List.nil_append, List.length_nil, Nat.zero_add]
  simp only [if_pos (show l.length < 4398046511104 by omega)]
  have key : ∀ long, Ev (fun k => spec_l6Show.j0 k line b l long) (showM line l b long) := by
    intro long
    obtain ⟨w1, w2⟩ := withLen_mild l b long h hb
    cases long with
    | false =>
      refine Ev.step (fun k => ?_) (put_ev line b l w1 w2 hl hb)
      simp only [spec_l6Show.j0, Bool.false_eq_true, if_false]
      rfl
    | true =>
      refine Ev.step (f := fun k => (spec_l1Int.f k (b.size : Int)).bind fun t => putF line b k (l ++ [(⟨lengthNm, t⟩ : Fld)])) (fun k => ?_) (Ev.bind (spec_l1Int_ev (b.size : Int) (by omega) (by omega)) (put_ev line b (l ++ [(⟨lengthNm, decT (b.size : Int)⟩ : Fld)]) w1 w2 hl hb))
      simp only [spec_l6Show.j0, if_true]
      refine congrArg _ (funext fun t => ?_)
      rw [if_pos (by omega)]
      rfl
  cases bare with
  | true =>
    simp only [if_true, Bool.not_true, Bool.false_and]
    exact key false
  | false =>
    simp only [Bool.false_eq_true, if_false, Bool.not_false, Bool.true_and]
    by_cases he : b.toList = ([] : List UInt8)
    · simp only [if_pos he]
      rw [show (b.toList != ([] : List UInt8)) = false from bne_eq_false_iff_eq.2 he, Bool.false_or]
      exact key always
    · simp only [if_neg he]
      rw [show (b.toList != ([] : List UInt8)) = true from bne_iff_ne.2 he, Bool.true_or]
      exact key true
end Go.Proofs.YtfebipiccpbdbaaDoor.Q
namespace Go.Proofs.YtfebipiccpbdbaaDoor.P
open Go.RowKit Go.Proofs.YtfebipiccpbdbaaDoorW.PrintWords Go.Proofs.YtfebipiccpbdbaaDoorW.PrintLast Go.Proofs.YtfebipiccpbdbaaDoorW.PrintMore
attribute [local go_sem] max2_int min2_int max_two min_two max_three min_three max_four min_four   -- for this text's walks alone
set_option linter.unusedVariables false
set_option linter.unusedSimpArgs false

/-! ### impl_isMethod: function 79 -/
def impl_isMethod.f (a0 : ByteArray) : Option (Bool) := (impl_TokenOk.f a0).bind fun t101 => (if t101 = true then ((impl_all.f a0 108).bind fun t102 => (some t102)) else (some false))
set_option maxHeartbeats 8000000 in
set_option maxRecDepth 100000 in
theorem impl_isMethod.calls (a0 : ByteArray) (r : Bool) (w : World) (h : impl_isMethod.f a0 = some r) :
  Calls Tryd.prog 79 #[.string a0] w fun e w' => e = .returned (.bool r) ∧ Below w.heap.size w w' := by
 have HB := Aside0.mk (Below.refl w.heap.size w)
 have H : ((impl_TokenOk.f a0).bind fun t101 => (if t101 = true then ((impl_all.f a0 108).bind fun t102 => (some t102)) else (some false))) = some r := h
 clear h
 replace H := Option.bind_eq_some_iff.mp H
 obtain ⟨t101, A20, H⟩ := H
 replace H : (if t101 = true then ((impl_all.f a0 108).bind fun t102 => (some t102)) else (some false)) = some r := H
 have A2 := Aside0.mk A20
 clear A20
 by_cases c3 : t101 = true
 ·
  subst c3
  have H1 : ((impl_all.f a0 108).bind fun t102 => (some t102)) = some r := by rw [if_pos rfl] at H; exact H
  clear H
  have H := H1
  clear H1
  replace H := Option.bind_eq_some_iff.mp H
  obtain ⟨t102, A40, H⟩ := H
  replace H : (some t102) = some r := H
  have A4 := Aside0.mk A40
  clear A40
  obtain rfl := Option.some.inj H
  go_enter Tryd.func79, Tryd.ntmps79
  go_wp2_with (first | ((with_reducible refine gate_callee (f := 58) rfl ?_); refine goesL_ (some 4) rfl rfl Tryd.func58 (by kernel_rfl) rfl #[.string a0] rfl (by (try simp only [List.map_toArray, List.map_cons, List.map_nil]); first | done | rfl | (simp only [List.length_drop, List.length_take]; rfl)) ?_; (with_reducible refine (impl_TokenOk.calls a0 true _ A2.out).mono ?_); rintro e w5 ⟨rfl, hb⟩; refine ⟨_, rfl, ?_⟩; have n0_ := Aside0.mk (below_step (by repeat (first | (with_reducible first | exact HB.out | apply below_alloc | apply pw_below_drewN | apply below_drew1) | exact HB.out)) hb); clear HB; have HB := n0_; clear n0_; (try clear hb); (try clear hb2); (try clear hk); (try clear hi)) | (go_at_call 92; (with_reducible refine (impl_all.calls a0 108 t102 _ A4.out).mono ?_); rintro e w6 ⟨rfl, hb⟩; have n0_ := Aside0.mk (below_step (by repeat (first | (with_reducible first | exact HB.out | apply below_alloc | apply pw_below_drewN | apply below_drew1) | exact HB.out)) hb); clear HB; have HB := n0_; clear n0_; (try clear hb); (try clear hb2); (try clear hk); (try clear hi)))
  go_ret
  exact ⟨by first | rfl | (simp [errW_none, errW_some] <;> rfl) | (simp [*, errW_none, errW_some] <;> rfl), by repeat (first | (with_reducible first | exact HB.out | apply below_alloc | apply pw_below_drewN | apply below_drew1) | exact HB.out)⟩
 ·
  replace c3 := Bool.eq_false_iff.mpr c3
  subst c3
  have H1 : (some false) = some r := by rw [if_neg (show ¬ (false = true) by decide)] at H; exact H
  clear H
  have H := H1
  clear H1
  obtain rfl := Option.some.inj H
  go_enter Tryd.func79, Tryd.ntmps79
  go_wp2_with (first | ((with_reducible refine gate_callee (f := 58) rfl ?_); refine goesL_ (some 4) rfl rfl Tryd.func58 (by kernel_rfl) rfl #[.string a0] rfl (by (try simp only [List.map_toArray, List.map_cons, List.map_nil]); first | done | rfl | (simp only [List.length_drop, List.length_take]; rfl)) ?_; (with_reducible refine (impl_TokenOk.calls a0 false _ A2.out).mono ?_); rintro e w7 ⟨rfl, hb⟩; refine ⟨_, rfl, ?_⟩; have n0_ := Aside0.mk (below_step (by repeat (first | (with_reducible first | exact HB.out | apply below_alloc | apply pw_below_drewN | apply below_drew1) | exact HB.out)) hb); clear HB; have HB := n0_; clear n0_; (try clear hb); (try clear hb2); (try clear hk); (try clear hi)))
  go_ret
  exact ⟨by first | rfl | (simp [errW_none, errW_some] <;> rfl) | (simp [*, errW_none, errW_some] <;> rfl), by repeat (first | (with_reducible first | exact HB.out | apply below_alloc | apply pw_below_drewN | apply below_drew1) | exact HB.out)⟩
/-! ### impl_isTarget: function 80 -/
def impl_isTarget.f (a0 : ByteArray) : Option (Bool) := if (a0.size : Int) ≥ 1 then (if (a0.size : Int) ≤ 200 then ((impl_all.f a0 109).bind fun t101 => (some t101)) else (some false)) else (some false)
set_option maxHeartbeats 8000000 in
set_option maxRecDepth 100000 in
theorem impl_isTarget.calls (a0 : ByteArray) (r : Bool) (w : World) (h : impl_isTarget.f a0 = some r) :
  Calls Tryd.prog 80 #[.string a0] w fun e w' => e = .returned (.bool r) ∧ Below w.heap.size w w' := by
 have HB := Aside0.mk (Below.refl w.heap.size w)
 have H : (if (a0.size : Int) ≥ 1 then (if (a0.size : Int) ≤ 200 then ((impl_all.f a0 109).bind fun t101 => (some t101)) else (some false)) else (some false)) = some r := h
 clear h
 by_cases c2 : (a0.size : Int) ≥ 1
 ·
  rw [if_pos c2] at H
  have c2b0 : decide (1 ≤ (a0.size : Int)) = true := decide_eq_true c2
  have c2b1 : decide (1 ≤ a0.size) = true := decide_eq_true (by omega)
  clear c2
  by_cases c3 : (a0.size : Int) ≤ 200
  ·
   rw [if_pos c3] at H
   have c3b0 : decide ((a0.size : Int) ≤ 200) = true := decide_eq_true c3
   have c3b1 : decide (a0.size ≤ 200) = true := decide_eq_true (by omega)
   clear c3
   replace H := Option.bind_eq_some_iff.mp H
   obtain ⟨t101, A40, H⟩ := H
   replace H : (some t101) = some r := H
   have A4 := Aside0.mk A40
   clear A40
   obtain rfl := Option.some.inj H
   go_enter Tryd.func80, Tryd.ntmps80
   go_wp2_with (first | (go_at_call 92; (with_reducible refine (impl_all.calls a0 109 t101 _ A4.out).mono ?_); rintro e w5 ⟨rfl, hb⟩; have n0_ := Aside0.mk (below_step (by repeat (first | (with_reducible first | exact HB.out | apply below_alloc | apply pw_below_drewN | apply below_drew1) | exact HB.out)) hb); clear HB; have HB := n0_; clear n0_; (try clear hb); (try clear hb2); (try clear hk); (try clear hi)))
   go_ret
   exact ⟨by first | rfl | (simp [errW_none, errW_some] <;> rfl) | (simp [*, errW_none, errW_some] <;> rfl), by repeat (first | (with_reducible first | exact HB.out | apply below_alloc | apply pw_below_drewN | apply below_drew1) | exact HB.out)⟩
  ·
   rw [if_neg c3] at H
   have c3b0 : decide ((a0.size : Int) ≤ 200) = false := decide_eq_false c3
   have c3b1 : decide (a0.size ≤ 200) = false := decide_eq_false (by omega)
   clear c3
   obtain rfl := Option.some.inj H
   go_enter Tryd.func80, Tryd.ntmps80
   go_wp2
   go_ret
   exact ⟨by first | rfl | (simp [errW_none, errW_some] <;> rfl) | (simp [*, errW_none, errW_some] <;> rfl), by repeat (first | (with_reducible first | exact HB.out | apply below_alloc | apply pw_below_drewN | apply below_drew1) | exact HB.out)⟩
 ·
  rw [if_neg c2] at H
  have c2b0 : decide (1 ≤ (a0.size : Int)) = false := decide_eq_false c2
  have c2b1 : decide (1 ≤ a0.size) = false := decide_eq_false (by omega)
  clear c2
  obtain rfl := Option.some.inj H
  go_enter Tryd.func80, Tryd.ntmps80
  go_wp2
  go_ret
  exact ⟨by first | rfl | (simp [errW_none, errW_some] <;> rfl) | (simp [*, errW_none, errW_some] <;> rfl), by repeat (first | (with_reducible first | exact HB.out | apply below_alloc | apply pw_below_drewN | apply below_drew1) | exact HB.out)⟩
/-! ### spec_l6Method: function 77 -/
def spec_l6Method.l0 : Nat → ByteArray → Int → Option (Bool)
 | 0, _, _ => none
 | k + 1, x0, x3 => if x3 < (x0.size : Int) then (if 0 ≤ x3 then (if (bt x0 x3) < 65 then (some false) else (if (bt x0 x3) > 90 then (some false) else (spec_l6Method.l0 k x0 (wrap64 (x3 + 1))))) else (none)) else ((spec_TokenOk.f k x0).bind fun t101 => (some t101))
def spec_l6Method.f (k : Nat) (a0 : ByteArray) : Option (Bool) := spec_l6Method.l0 k a0 0
theorem spec_l6Method.mono_l : ∀ k, (∀ y0 y1, LeO (spec_l6Method.l0 k y0 y1) (spec_l6Method.l0 (k + 1) y0 y1))
 | 0 => fun _ _ r h => by simp [spec_l6Method.l0] at h
 | k + 1 => by
  have ih0 := spec_l6Method.mono_l k
  ·
   intro y0 y1
   unfold spec_l6Method.l0
   repeat' first
   | (with_reducible exact ih0 _ _)
   | (with_reducible exact spec_TokenOk.mono _ _)
   | (with_reducible exact LeO.refl _)
   | (with_reducible exact LeO.none _)
   | (with_reducible refine LeO.ite ?_ ?_)
   | (with_reducible refine LeO.bind ?_ (fun _ => ?_))
   | exact ih0 _ _
   | exact spec_TokenOk.mono _ _
   | exact LeO.none _
   | refine LeO.ite ?_ ?_
   | refine LeO.bind ?_ (fun _ => ?_)
theorem spec_l6Method.mono : ∀ a0 k, LeO (spec_l6Method.f k a0) (spec_l6Method.f (k + 1) a0) := by
 intro a0 k
 have ih0 := spec_l6Method.mono_l k
 unfold spec_l6Method.f
 repeat' first
   | (with_reducible exact ih0 _ _)
   | (with_reducible exact spec_TokenOk.mono _ _)
   | (with_reducible exact LeO.refl _)
   | (with_reducible exact LeO.none _)
   | (with_reducible refine LeO.ite ?_ ?_)
   | (with_reducible refine LeO.bind ?_ (fun _ => ?_))
   | exact ih0 _ _
   | exact spec_TokenOk.mono _ _
   | exact LeO.none _
   | refine LeO.ite ?_ ?_
   | refine LeO.bind ?_ (fun _ => ?_)
set_option maxHeartbeats 8000000 in
set_option maxRecDepth 100000 in
theorem spec_l6Method.calls (k : Nat) (a0 : ByteArray) (r : Bool) (w : World) (h : spec_l6Method.f k a0 = some r) :
  Calls Tryd.prog 77 #[.string a0] w fun e w' => e = .returned (.bool r) ∧ Below w.heap.size w w' := by
 have HB := Aside0.mk (Below.refl w.heap.size w)
 have H : (spec_l6Method.l0 k a0 0) = some r := h
 clear h
 have H' := Aside0.mk H
 clear H
 go_enter Tryd.func77, Tryd.ntmps77
 go_wp2
 go_loopg [3] k (fun kq v3 w' => ∃ (x3_1 : Int), v3 = .int .i64 x3_1 ∧ Aside0 (spec_l6Method.l0 kq a0 x3_1 = some r) ∧ Aside0 (kq ≤ k) ∧ Aside0 (Below w.heap.size w w'))
 case atStart => exact ⟨(0), (by first | rfl | (simp; done) | (simp [*]; done)), H', ⟨Nat.le_refl _⟩, ⟨by repeat (first | (with_reducible first | exact HB.out | apply below_alloc | apply pw_below_drewN | apply below_drew1) | exact HB.out)⟩⟩
 case round =>
  clear H'
  obtain ⟨x3_1, rfl, HA, HK1, HB⟩ := hrel
  cases gk with
  | zero => exact absurd HA.out (by simp [spec_l6Method.l0])
  | succ k1 =>
   have H := HA.out
   clear HA
   simp only [spec_l6Method.l0] at H
   by_cases c2 : x3_1 < (a0.size : Int)
   ·
    rw [if_pos c2] at H
    have c2b0 : decide (x3_1 < (a0.size : Int)) = true := decide_eq_true c2
    clear c2
    by_cases c3 : 0 ≤ x3_1
    ·
     rw [if_pos c3] at H
     have c3b0 : decide (0 ≤ x3_1) = true := decide_eq_true c3
     clear c3
     by_cases c5 : (bt a0 x3_1) < 65
     ·
      rw [if_pos c5] at H
      have c5b0 : decide ((bt a0 x3_1) < 65) = true := decide_eq_true c5
      clear c5
      obtain rfl := Option.some.inj H
      have p4 : 0 ≤ (x3_1 : Int) := of_decide_eq_true (by first | (with_reducible assumption) | assumption)
      have q4 : x3_1 < (a0.size : Int) := of_decide_eq_true (by first | (with_reducible assumption) | assumption)
      have hx4 := bt_at a0 x3_1
      replace p4 := eq_true p4
      replace q4 := eq_true q4
      go_wp2
      go_ret
      exact ⟨by first | rfl | (simp [errW_none, errW_some] <;> rfl) | (simp [*, errW_none, errW_some] <;> rfl), by repeat (first | (with_reducible first | exact HB.out | apply below_alloc | apply pw_below_drewN | apply below_drew1) | exact HB.out)⟩
     ·
      rw [if_neg c5] at H
      have c5b0 : decide ((bt a0 x3_1) < 65) = false := decide_eq_false c5
      clear c5
      by_cases c7 : (bt a0 x3_1) > 90
      ·
       rw [if_pos c7] at H
       have c7b0 : decide (90 < (bt a0 x3_1)) = true := decide_eq_true c7
       clear c7
       obtain rfl := Option.some.inj H
       have p4 : 0 ≤ (x3_1 : Int) := of_decide_eq_true (by first | (with_reducible assumption) | assumption)
       have q4 : x3_1 < (a0.size : Int) := of_decide_eq_true (by first | (with_reducible assumption) | assumption)
       have hx4 := bt_at a0 x3_1
       replace p4 := eq_true p4
       replace q4 := eq_true q4
       have p6 : 0 ≤ (x3_1 : Int) := of_decide_eq_true (by first | (with_reducible assumption) | assumption)
       have q6 : x3_1 < (a0.size : Int) := of_decide_eq_true (by first | (with_reducible assumption) | assumption)
       have hx6 := bt_at a0 x3_1
       replace p6 := eq_true p6
       replace q6 := eq_true q6
       go_wp2
       go_ret
       exact ⟨by first | rfl | (simp [errW_none, errW_some] <;> rfl) | (simp [*, errW_none, errW_some] <;> rfl), by repeat (first | (with_reducible first | exact HB.out | apply below_alloc | apply pw_below_drewN | apply below_drew1) | exact HB.out)⟩
      ·
       rw [if_neg c7] at H
       have c7b0 : decide (90 < (bt a0 x3_1)) = false := decide_eq_false c7
       clear c7
       have H' := Aside0.mk H
       clear H
       have p4 : 0 ≤ (x3_1 : Int) := of_decide_eq_true (by first | (with_reducible assumption) | assumption)
       have q4 : x3_1 < (a0.size : Int) := of_decide_eq_true (by first | (with_reducible assumption) | assumption)
       have hx4 := bt_at a0 x3_1
       replace p4 := eq_true p4
       replace q4 := eq_true q4
       have p6 : 0 ≤ (x3_1 : Int) := of_decide_eq_true (by first | (with_reducible assumption) | assumption)
       have q6 : x3_1 < (a0.size : Int) := of_decide_eq_true (by first | (with_reducible assumption) | assumption)
       have hx6 := bt_at a0 x3_1
       replace p6 := eq_true p6
       replace q6 := eq_true q6
       go_wp2
       go_roundg k1
       case measure => have := HK1.out; omega
       case rel => exact ⟨(wrap64 (x3_1 + 1)), (by first | rfl | (simp; done) | (simp [*]; done)), H', ⟨by have := HK1.out; omega⟩, ⟨by repeat (first | (with_reducible first | exact HB.out | apply below_alloc | apply pw_below_drewN | apply below_drew1) | exact HB.out)⟩⟩
    ·
     rw [if_neg c3] at H
     exact absurd H (by simp)
   ·
    rw [if_neg c2] at H
    have c2b0 : decide (x3_1 < (a0.size : Int)) = false := decide_eq_false c2
    clear c2
    replace H := Option.bind_eq_some_iff.mp H
    obtain ⟨t101, A80, H⟩ := H
    replace H : (some t101) = some r := H
    have A8 := Aside0.mk A80
    clear A80
    obtain rfl := Option.some.inj H
    go_wp2_with (first | ((with_reducible refine gate_callee (f := 56) rfl ?_); refine goesL_ (some 21) rfl rfl Tryd.func56 (by kernel_rfl) rfl #[.string a0] rfl (by (try simp only [List.map_toArray, List.map_cons, List.map_nil]); first | done | rfl | (simp only [List.length_drop, List.length_take]; rfl)) ?_; (with_reducible refine (spec_TokenOk.calls k1 a0 t101 _ A8.out).mono ?_); rintro e w9 ⟨rfl, hb⟩; refine ⟨_, rfl, ?_⟩; have n0_ := Aside0.mk (below_step (by repeat (first | (with_reducible first | exact HB.out | apply below_alloc | apply pw_below_drewN | apply below_drew1) | exact HB.out)) hb); clear HB; have HB := n0_; clear n0_; (try clear hb); (try clear hb2); (try clear hk); (try clear hi)))
    go_ret
    exact ⟨by first | rfl | (simp [errW_none, errW_some] <;> rfl) | (simp [*, errW_none, errW_some] <;> rfl), by repeat (first | (with_reducible first | exact HB.out | apply below_alloc | apply pw_below_drewN | apply below_drew1) | exact HB.out)⟩
/-! ### spec_l6Target: function 78 -/
mutual
def spec_l6Target.j0 : Nat → ByteArray → Bool → Option (Bool)
 | 0, _, _ => none
 | k + 1, x0, x11 => if x11 = true then (some false) else (spec_l6Target.l0 k x0 0)
def spec_l6Target.l0 : Nat → ByteArray → Int → Option (Bool)
 | 0, _, _ => none
 | k + 1, x0, x3 => if x3 < (x0.size : Int) then (if 0 ≤ x3 then (if (bt x0 x3) < 33 then (some false) else (if (bt x0 x3) > 126 then (some false) else (spec_l6Target.l0 k x0 (wrap64 (x3 + 1))))) else (none)) else (some true)
end
def spec_l6Target.f (k : Nat) (a0 : ByteArray) : Option (Bool) := if (a0.size : Int) < 1 then (spec_l6Target.j0 k a0 true) else (spec_l6Target.j0 k a0 (decide ((a0.size : Int) > 200)))
theorem spec_l6Target.mono_l : ∀ k, (∀ y0 y1, LeO (spec_l6Target.j0 k y0 y1) (spec_l6Target.j0 (k + 1) y0 y1)) ∧ (∀ y0 y1, LeO (spec_l6Target.l0 k y0 y1) (spec_l6Target.l0 (k + 1) y0 y1))
 | 0 => ⟨fun _ _ r h => by simp [spec_l6Target.j0] at h, fun _ _ r h => by simp [spec_l6Target.l0] at h⟩
 | k + 1 => by
  obtain ⟨ih0, ih1⟩ := spec_l6Target.mono_l k
  refine ⟨?_, ?_⟩
  ·
   intro y0 y1
   unfold spec_l6Target.j0
   repeat' first
   | (with_reducible exact ih0 _ _)
   | (with_reducible exact ih1 _ _)
   | (with_reducible exact LeO.refl _)
   | (with_reducible exact LeO.none _)
   | (with_reducible refine LeO.ite ?_ ?_)
   | (with_reducible refine LeO.bind ?_ (fun _ => ?_))
   | exact ih0 _ _
   | exact ih1 _ _
   | exact LeO.none _
   | refine LeO.ite ?_ ?_
   | refine LeO.bind ?_ (fun _ => ?_)
  ·
   intro y0 y1
   unfold spec_l6Target.l0
   repeat' first
   | (with_reducible exact ih0 _ _)
   | (with_reducible exact ih1 _ _)
   | (with_reducible exact LeO.refl _)
   | (with_reducible exact LeO.none _)
   | (with_reducible refine LeO.ite ?_ ?_)
   | (with_reducible refine LeO.bind ?_ (fun _ => ?_))
   | exact ih0 _ _
   | exact ih1 _ _
   | exact LeO.none _
   | refine LeO.ite ?_ ?_
   | refine LeO.bind ?_ (fun _ => ?_)
theorem spec_l6Target.mono : ∀ a0 k, LeO (spec_l6Target.f k a0) (spec_l6Target.f (k + 1) a0) := by
 intro a0 k
 obtain ⟨ih0, ih1⟩ := spec_l6Target.mono_l k
 unfold spec_l6Target.f
 repeat' first
   | (with_reducible exact ih0 _ _)
   | (with_reducible exact ih1 _ _)
   | (with_reducible exact LeO.refl _)
   | (with_reducible exact LeO.none _)
   | (with_reducible refine LeO.ite ?_ ?_)
   | (with_reducible refine LeO.bind ?_ (fun _ => ?_))
   | exact ih0 _ _
   | exact ih1 _ _
   | exact LeO.none _
   | refine LeO.ite ?_ ?_
   | refine LeO.bind ?_ (fun _ => ?_)
set_option maxHeartbeats 8000000 in
set_option maxRecDepth 100000 in
theorem spec_l6Target.calls (k : Nat) (a0 : ByteArray) (r : Bool) (w : World) (h : spec_l6Target.f k a0 = some r) :
  Calls Tryd.prog 78 #[.string a0] w fun e w' => e = .returned (.bool r) ∧ Drawn0 w w' := by
 have H : (if (a0.size : Int) < 1 then (spec_l6Target.j0 k a0 true) else (spec_l6Target.j0 k a0 (decide ((a0.size : Int) > 200)))) = some r := h
 clear h
 have HC2 := Aside0.mk H
 clear H
 go_enter Tryd.func78, Tryd.ntmps78
 go_upto_region 1 with (fail)
 go_cut [11] (fun v11 wc => ∃ (kq : Nat) (x11_1 : Bool), v11 = .bool x11_1 ∧ Aside0 (spec_l6Target.j0 kq a0 x11_1 = some r) ∧ Aside0 (kq ≤ k) ∧ Drawn0 w wc)
 case first =>
  have H := HC2.out
  clear HC2
  by_cases c3 : (a0.size : Int) < 1
  ·
   rw [if_pos c3] at H
   have c3b0 : decide ((a0.size : Int) < 1) = true := decide_eq_true c3
   have c3b1 : decide (a0.size < 1) = true := decide_eq_true (by omega)
   clear c3
   (first | rw [c3b0] | (simp only [i64_w, i32_w]; rw [c3b0]) | skip)
   have H' := Aside0.mk H
   clear H
   go_wp2
   go_meet
   case rel => exact ⟨_, (true), (by first | rfl | (simp; done) | (simp [*]; done)), H', ⟨by first | omega | exact Nat.le_refl _⟩, by repeat (first | exact Drawn0.refl _ | apply Drawn0.step)⟩
  ·
   rw [if_neg c3] at H
   have c3b0 : decide ((a0.size : Int) < 1) = false := decide_eq_false c3
   have c3b1 : decide (a0.size < 1) = false := decide_eq_false (by omega)
   clear c3
   (first | rw [c3b0] | (simp only [i64_w, i32_w]; rw [c3b0]) | skip)
   have H' := Aside0.mk H
   clear H
   go_wp2
   go_meet
   case rel => exact ⟨_, (decide ((a0.size : Int) > 200)), (by first | rfl | (simp; done) | (simp [*]; done)), H', ⟨by first | omega | exact Nat.le_refl _⟩, by repeat (first | exact Drawn0.refl _ | apply Drawn0.step)⟩
 case rest =>
  clear HC2
  try clear p2
  try clear c3
  try clear c3b0
  try clear c3b1
  obtain ⟨kq, x11_1, rfl, HA, HJ1, ⟨mc1, rfl⟩⟩ := hcut
  cases kq with
  | zero => exact absurd HA.out (by simp [spec_l6Target.j0])
  | succ kj1 =>
   have H := HA.out
   clear HA
   simp only [spec_l6Target.j0] at H
   by_cases c4 : x11_1 = true
   ·
    subst c4
    have H1 : (some false) = some r := by rw [if_pos rfl] at H; exact H
    clear H
    have H := H1
    clear H1
    obtain rfl := Option.some.inj H
    go_wp2
    go_ret
    exact ⟨by first | rfl | (simp; done) | (simp [*]; done), by repeat (first | exact Drawn0.refl _ | apply Drawn0.step)⟩
   ·
    replace c4 := Bool.eq_false_iff.mpr c4
    subst c4
    have H1 : (spec_l6Target.l0 kj1 a0 0) = some r := by rw [if_neg (show ¬ (false = true) by decide)] at H; exact H
    clear H
    have H := H1
    clear H1
    have H' := Aside0.mk H
    clear H
    go_wp2
    go_loopg [3] kj1 (fun kq v3 w' => ∃ (x3_2 : Int), v3 = .int .i64 x3_2 ∧ Aside0 (spec_l6Target.l0 kq a0 x3_2 = some r) ∧ Aside0 (kq ≤ kj1) ∧ Drawn0 w w')
    case atStart => exact ⟨(0), (by first | rfl | (simp; done) | (simp [*]; done)), H', ⟨Nat.le_refl _⟩, by repeat (first | exact Drawn0.refl _ | apply Drawn0.step)⟩
    case round =>
     clear H'
     try clear c1
     try clear p2
     try clear c3
     try clear c3b0
     try clear c3b1
     try clear c4
     try clear p2
     obtain ⟨x3_2, rfl, HA, HK2, ⟨m2, rfl⟩⟩ := hrel
     cases gk with
     | zero => exact absurd HA.out (by simp [spec_l6Target.l0])
     | succ k2 =>
      have H := HA.out
      clear HA
      simp only [spec_l6Target.l0] at H
      by_cases c5 : x3_2 < (a0.size : Int)
      ·
       rw [if_pos c5] at H
       have c5b0 : decide (x3_2 < (a0.size : Int)) = true := decide_eq_true c5
       clear c5
       by_cases c6 : 0 ≤ x3_2
       ·
        rw [if_pos c6] at H
        have c6b0 : decide (0 ≤ x3_2) = true := decide_eq_true c6
        clear c6
        by_cases c8 : (bt a0 x3_2) < 33
        ·
         rw [if_pos c8] at H
         have c8b0 : decide ((bt a0 x3_2) < 33) = true := decide_eq_true c8
         clear c8
         obtain rfl := Option.some.inj H
         have p7 : 0 ≤ (x3_2 : Int) := of_decide_eq_true (by first | (with_reducible assumption) | assumption)
         have q7 : x3_2 < (a0.size : Int) := of_decide_eq_true (by first | (with_reducible assumption) | assumption)
         have hx7 := bt_at a0 x3_2
         replace p7 := eq_true p7
         replace q7 := eq_true q7
         go_wp2
         go_ret
         exact ⟨by first | rfl | (simp; done) | (simp [*]; done), by repeat (first | exact Drawn0.refl _ | apply Drawn0.step)⟩
        ·
         rw [if_neg c8] at H
         have c8b0 : decide ((bt a0 x3_2) < 33) = false := decide_eq_false c8
         clear c8
         by_cases c10 : (bt a0 x3_2) > 126
         ·
          rw [if_pos c10] at H
          have c10b0 : decide (126 < (bt a0 x3_2)) = true := decide_eq_true c10
          clear c10
          obtain rfl := Option.some.inj H
          have p7 : 0 ≤ (x3_2 : Int) := of_decide_eq_true (by first | (with_reducible assumption) | assumption)
          have q7 : x3_2 < (a0.size : Int) := of_decide_eq_true (by first | (with_reducible assumption) | assumption)
          have hx7 := bt_at a0 x3_2
          replace p7 := eq_true p7
          replace q7 := eq_true q7
          have p9 : 0 ≤ (x3_2 : Int) := of_decide_eq_true (by first | (with_reducible assumption) | assumption)
          have q9 : x3_2 < (a0.size : Int) := of_decide_eq_true (by first | (with_reducible assumption) | assumption)
          have hx9 := bt_at a0 x3_2
          replace p9 := eq_true p9
          replace q9 := eq_true q9
          go_wp2
          go_ret
          exact ⟨by first | rfl | (simp; done) | (simp [*]; done), by repeat (first | exact Drawn0.refl _ | apply Drawn0.step)⟩
         ·
          rw [if_neg c10] at H
          have c10b0 : decide (126 < (bt a0 x3_2)) = false := decide_eq_false c10
          clear c10
          have H' := Aside0.mk H
          clear H
          have p7 : 0 ≤ (x3_2 : Int) := of_decide_eq_true (by first | (with_reducible assumption) | assumption)
          have q7 : x3_2 < (a0.size : Int) := of_decide_eq_true (by first | (with_reducible assumption) | assumption)
          have hx7 := bt_at a0 x3_2
          replace p7 := eq_true p7
          replace q7 := eq_true q7
          have p9 : 0 ≤ (x3_2 : Int) := of_decide_eq_true (by first | (with_reducible assumption) | assumption)
          have q9 : x3_2 < (a0.size : Int) := of_decide_eq_true (by first | (with_reducible assumption) | assumption)
          have hx9 := bt_at a0 x3_2
          replace p9 := eq_true p9
          replace q9 := eq_true q9
          go_wp2
          go_roundg k2
          case measure => have := HJ1.out; have := HK2.out; omega
          case rel => exact ⟨(wrap64 (x3_2 + 1)), (by first | rfl | (simp; done) | (simp [*]; done)), H', ⟨by have := HJ1.out; have := HK2.out; omega⟩, by repeat (first | exact Drawn0.refl _ | apply Drawn0.step)⟩
       ·
        rw [if_neg c6] at H
        exact absurd H (by simp)
      ·
       rw [if_neg c5] at H
       have c5b0 : decide (x3_2 < (a0.size : Int)) = false := decide_eq_false c5
       clear c5
       obtain rfl := Option.some.inj H
       go_wp2
       go_ret
       exact ⟨by first | rfl | (simp; done) | (simp [*]; done), by repeat (first | exact Drawn0.refl _ | apply Drawn0.step)⟩
/-! ### spec_l4Without: function 57 -/
def spec_l4Without.l0 : Nat → List (S67) → ByteArray → List (S67) → Int → Option ((List (S67)))
 | 0, _, _, _, _ => none
 | k + 1, x0, x1, x5, x6 => if x6 < (x0.length : Int) then (if 0 ≤ x6 then ((spec_Lower.f ((rd_T67 x0 x6).f0)).bind fun t105 => ((spec_Lower.f x1).bind fun t106 => (if t105.toList = t106.toList then (spec_l4Without.l0 k x0 x1 x5 (wrap64 (x6 + 1))) else (if x5.length < 4398046511104 then (spec_l4Without.l0 k x0 x1 (x5 ++ [(⟨(rd_T67 x0 x6).f0, (rd_T67 x0 x6).f1⟩ : S67)]) (wrap64 (x6 + 1))) else (none))))) else (none)) else (some x5)
def spec_l4Without.f (k : Nat) (l0 : List (S67)) (a1 : ByteArray) : Option ((List (S67))) := spec_l4Without.l0 k l0 a1 (([] : List (S67))) 0
theorem spec_l4Without.mono_l : ∀ k, (∀ y0 y1 y2 y3, LeO (spec_l4Without.l0 k y0 y1 y2 y3) (spec_l4Without.l0 (k + 1) y0 y1 y2 y3))
 | 0 => fun _ _ _ _ r h => by simp [spec_l4Without.l0] at h
 | k + 1 => by
  have ih0 := spec_l4Without.mono_l k
  ·
   intro y0 y1 y2 y3
   unfold spec_l4Without.l0
   repeat' first
   | (with_reducible exact ih0 _ _ _ _)
   | (with_reducible exact LeO.refl _)
   | (with_reducible exact LeO.none _)
   | (with_reducible refine LeO.ite ?_ ?_)
   | (with_reducible refine LeO.bind ?_ (fun _ => ?_))
   | exact ih0 _ _ _ _
   | exact LeO.none _
   | refine LeO.ite ?_ ?_
   | refine LeO.bind ?_ (fun _ => ?_)
theorem spec_l4Without.mono : ∀ a0 a1 k, LeO (spec_l4Without.f k a0 a1) (spec_l4Without.f (k + 1) a0 a1) := by
 intro a0 a1 k
 have ih0 := spec_l4Without.mono_l k
 unfold spec_l4Without.f
 repeat' first
   | (with_reducible exact ih0 _ _ _ _)
   | (with_reducible exact LeO.refl _)
   | (with_reducible exact LeO.none _)
   | (with_reducible refine LeO.ite ?_ ?_)
   | (with_reducible refine LeO.bind ?_ (fun _ => ?_))
   | exact ih0 _ _ _ _
   | exact LeO.none _
   | refine LeO.ite ?_ ?_
   | refine LeO.bind ?_ (fun _ => ?_)
set_option maxHeartbeats 8000000 in
set_option maxRecDepth 100000 in
theorem spec_l4Without.calls (k : Nat) (A0 : Option Addr) (c0 : Nat) (l0 : List (S67)) (a1 : ByteArray) (r : List (S67)) (w : World) (hr0 : Kd.C k67 w A0 l0.length l0) (hc0 : l0.length ≤ c0) (h : spec_l4Without.f k l0 a1 = some r) :
  Calls Tryd.prog 57 #[.slice A0 l0.length c0, .string a1] w fun e w' => ∃ v0_ : Value, e = .returned (v0_) ∧ Kd.R k67 67 w' w.heap.size (fun _ => True) v0_ r ∧ Below w.heap.size w w' := by
 have hu67 := Tryd.underlying67
 have HR0 := Aside0.mk hr0
 have HC0 := Aside0.mk hc0
 clear hr0 hc0
 have HB := Aside0.mk (Below.refl w.heap.size w)
 have H : (spec_l4Without.l0 k l0 a1 (([] : List (S67))) 0) = some r := h
 clear h
 obtain ⟨y101, hy101⟩ : ∃ y_ : List (S67), y_ = (([] : List (S67))) := ⟨_, rfl⟩
 replace H : (spec_l4Without.l0 k l0 a1 y101 0) = some r := by first | (rw [hy101]; with_reducible exact H) | (have H2_ := (Option.bind_some _ _).symm.trans H; rw [hy101]; with_reducible exact H2_) | (have H2_ := (Option.bind_some _ _).symm.trans H; with_reducible exact H2_) | with_reducible exact H | (rw [hy101]; exact H) | exact H
 have Ny101 := Aside0.mk hy101
 clear hy101
 have H' := Aside0.mk H
 clear H
 go_enter Tryd.func57, Tryd.ntmps57
 go_wp2_with (first | ((with_reducible refine gate_dst (N := 7) rfl ?_); refine Kd.R_lit k67 _ 67 ?hg (N := 7) ?hd (xs := ([] : List (S67))) (inner := []) (ok := fun _ => True) (okp := fun _ => True) ?hr ?hp (fun _ hk => hk) trivial (Below.refl _ _) (Nat.le_refl _) (by simp) ?_; (case hd => rfl); (case hg => rfl); (case hr => first | (go_simp; done) | (go_simp; rfl)); (case hp => exact (Reps.none _ _)); intro v102 w3 ho4 hb hg_ hnew_; clear hg_ hnew_; (first | rw [← Ny101.out] at ho4 | (simp only [Int.reduceToNat] at ho4; rw [← Ny101.out] at ho4)); have n0_ := Aside0.mk (Kd.R_lower ho4 (below_size (by repeat (first | (with_reducible first | exact HB.out | apply below_alloc | apply pw_below_drewN | apply below_drew1) | exact HB.out)))); have n1_ := Aside0.mk (below_step (by repeat (first | (with_reducible first | exact HB.out | apply below_alloc | apply pw_below_drewN | apply below_drew1) | exact HB.out)) hb); clear HB; have HO103 := n0_; have HB := n1_; clear n0_ n1_; clear hb ho4))
 go_loopg [5, 6] k (fun kq v5 v6 w' => ∃ (x5_1 : List (S67)) (x6_1 : Int), v6 = .int .i64 x6_1 ∧ Aside0 (spec_l4Without.l0 kq l0 a1 x5_1 x6_1 = some r) ∧ Aside0 (kq ≤ k) ∧ Aside0 (Kd.R k67 67 w' w.heap.size (fun _ => True) v5 x5_1) ∧ Aside0 (Below w.heap.size w w'))
 case atStart => exact ⟨(y101), (0), (by first | rfl | (simp; done) | (simp [*]; done)), H', ⟨Nat.le_refl _⟩, ⟨by (with_reducible repeat (first | apply Kd.R_alloc | apply Kd.R_drewN | apply Kd.R_drew)); exact HO103.out⟩, ⟨by repeat (first | (with_reducible first | exact HB.out | apply below_alloc | apply pw_below_drewN | apply below_drew1) | exact HB.out)⟩⟩
 case round =>
  clear H'
  try clear p2
  obtain ⟨x5_1, x6_1, rfl, HA, HK1, HO_5, HB⟩ := hrel
  cases gk with
  | zero => exact absurd HA.out (by simp [spec_l4Without.l0])
  | succ k1 =>
   have H := HA.out
   clear HA
   simp only [spec_l4Without.l0] at H
   by_cases c5 : x6_1 < (l0.length : Int)
   ·
    rw [if_pos c5] at H
    have c5b0 : decide (x6_1 < (l0.length : Int)) = true := decide_eq_true c5
    clear c5
    by_cases c6 : 0 ≤ x6_1
    ·
     rw [if_pos c6] at H
     have c6b0 : decide (0 ≤ x6_1) = true := decide_eq_true c6
     clear c6
     replace H := Option.bind_eq_some_iff.mp H
     obtain ⟨t105, A70, H⟩ := H
     replace H : ((spec_Lower.f a1).bind fun t106 => (if t105.toList = t106.toList then (spec_l4Without.l0 k1 l0 a1 x5_1 (wrap64 (x6_1 + 1))) else (if x5_1.length < 4398046511104 then (spec_l4Without.l0 k1 l0 a1 (x5_1 ++ [(⟨(rd_T67 l0 x6_1).f0, (rd_T67 l0 x6_1).f1⟩ : S67)]) (wrap64 (x6_1 + 1))) else (none)))) = some r := H
     have A7 := Aside0.mk A70
     clear A70
     replace H := Option.bind_eq_some_iff.mp H
     obtain ⟨t106, A80, H⟩ := H
     replace H : (if t105.toList = t106.toList then (spec_l4Without.l0 k1 l0 a1 x5_1 (wrap64 (x6_1 + 1))) else (if x5_1.length < 4398046511104 then (spec_l4Without.l0 k1 l0 a1 (x5_1 ++ [(⟨(rd_T67 l0 x6_1).f0, (rd_T67 l0 x6_1).f1⟩ : S67)]) (wrap64 (x6_1 + 1))) else (none))) = some r := H
     have A8 := Aside0.mk A80
     clear A80
     by_cases c9 : t105.toList = t106.toList
     ·
      rw [if_pos c9] at H
      have c9b0 : (t105.toList == t106.toList) = true := beq_iff_eq.mpr c9
      have c9b1 : (t105.toList != t106.toList) = false := bne_eq_false_iff_eq.mpr c9
      clear c9
      have H' := Aside0.mk H
      clear H
      have p104 : 0 ≤ (x6_1 : Int) := of_decide_eq_true (by first | (with_reducible assumption) | assumption)
      have q104 : x6_1 < (l0.length : Int) := of_decide_eq_true (by first | (with_reducible assumption) | assumption)
      obtain ⟨ad104, e104, hx104_0, hx104_1⟩ := at_T67 HR0.out x6_1 p104 q104
      cases e104
      replace hx104_0 := (HB.out.cell (World.block_lt_of_cell? w _ hx104_0)).trans hx104_0
      replace hx104_1 := (HB.out.cell (World.block_lt_of_cell? w _ hx104_1)).trans hx104_1
      replace p104 := eq_true p104
      replace q104 := eq_true q104
      go_wp2_with (first | ((with_reducible refine gate_callee (f := 91) rfl ?_); refine goesL_ (some 19) rfl rfl Tryd.func91 (by kernel_rfl) rfl #[.string ((rd_T67 l0 x6_1).f0)] rfl (by (try simp only [List.map_toArray, List.map_cons, List.map_nil]); first | done | rfl | (simp only [List.length_drop, List.length_take]; rfl)) ?_; (with_reducible refine (spec_Lower.calls ((rd_T67 l0 x6_1).f0) t105 _ A7.out).mono ?_); rintro e w10 ⟨rfl, hb⟩; refine ⟨_, rfl, ?_⟩; have n0_ := Aside0.mk (Kd.R_below (by (with_reducible repeat (first | apply Kd.R_alloc | apply Kd.R_drewN | apply Kd.R_drew)); exact HO_5.out) hb); have n1_ := Aside0.mk (below_step (by repeat (first | (with_reducible first | exact HB.out | apply below_alloc | apply pw_below_drewN | apply below_drew1) | exact HB.out)) hb); clear HO_5; clear HB; have HO_5 := n0_; have HB := n1_; clear n0_ n1_; (try clear hb); (try clear hb2); (try clear hk); (try clear hi)) | ((with_reducible refine gate_callee (f := 91) rfl ?_); refine goesL_ (some 21) rfl rfl Tryd.func91 (by kernel_rfl) rfl #[.string a1] rfl (by (try simp only [List.map_toArray, List.map_cons, List.map_nil]); first | done | rfl | (simp only [List.length_drop, List.length_take]; rfl)) ?_; (with_reducible refine (spec_Lower.calls a1 t106 _ A8.out).mono ?_); rintro e w11 ⟨rfl, hb⟩; refine ⟨_, rfl, ?_⟩; have n0_ := Aside0.mk (Kd.R_below (by (with_reducible repeat (first | apply Kd.R_alloc | apply Kd.R_drewN | apply Kd.R_drew)); exact HO_5.out) hb); have n1_ := Aside0.mk (below_step (by repeat (first | (with_reducible first | exact HB.out | apply below_alloc | apply pw_below_drewN | apply below_drew1) | exact HB.out)) hb); clear HO_5; clear HB; have HO_5 := n0_; have HB := n1_; clear n0_ n1_; (try clear hb); (try clear hb2); (try clear hk); (try clear hi)))
      go_roundg k1
      case measure => have := HK1.out; omega
      case rel => exact ⟨(x5_1), (wrap64 (x6_1 + 1)), (by first | rfl | (simp; done) | (simp [*]; done)), H', ⟨by have := HK1.out; omega⟩, ⟨by (with_reducible repeat (first | apply Kd.R_alloc | apply Kd.R_drewN | apply Kd.R_drew)); exact HO_5.out⟩, ⟨by repeat (first | (with_reducible first | exact HB.out | apply below_alloc | apply pw_below_drewN | apply below_drew1) | exact HB.out)⟩⟩
     ·
      rw [if_neg c9] at H
      have c9b0 : (t105.toList == t106.toList) = false := beq_eq_false_iff_ne.mpr c9
      have c9b1 : (t105.toList != t106.toList) = true := bne_iff_ne.mpr c9
      by_cases c12 : x5_1.length < 4398046511104
      ·
       rw [if_pos c12] at H
       have LMc12 := Aside0.mk c12
       clear c12
       obtain ⟨y108, hy108⟩ : ∃ y_ : List (S67), y_ = (x5_1 ++ [(⟨(rd_T67 l0 x6_1).f0, (rd_T67 l0 x6_1).f1⟩ : S67)]) := ⟨_, rfl⟩
       replace H : (spec_l4Without.l0 k1 l0 a1 y108 (wrap64 (x6_1 + 1))) = some r := by first | (rw [hy108]; with_reducible exact H) | (have H2_ := (Option.bind_some _ _).symm.trans H; rw [hy108]; with_reducible exact H2_) | (have H2_ := (Option.bind_some _ _).symm.trans H; with_reducible exact H2_) | with_reducible exact H | (rw [hy108]; exact H) | exact H
       have Ny108 := Aside0.mk hy108
       clear hy108
       have H' := Aside0.mk H
       clear H
       have p104 : 0 ≤ (x6_1 : Int) := of_decide_eq_true (by first | (with_reducible assumption) | assumption)
       have q104 : x6_1 < (l0.length : Int) := of_decide_eq_true (by first | (with_reducible assumption) | assumption)
       obtain ⟨ad104, e104, hx104_0, hx104_1⟩ := at_T67 HR0.out x6_1 p104 q104
       cases e104
       replace hx104_0 := (HB.out.cell (World.block_lt_of_cell? w _ hx104_0)).trans hx104_0
       replace hx104_1 := (HB.out.cell (World.block_lt_of_cell? w _ hx104_1)).trans hx104_1
       replace p104 := eq_true p104
       replace q104 := eq_true q104
       go_wp2_with (first | ((with_reducible refine gate_callee (f := 91) rfl ?_); refine goesL_ (some 19) rfl rfl Tryd.func91 (by kernel_rfl) rfl #[.string ((rd_T67 l0 x6_1).f0)] rfl (by (try simp only [List.map_toArray, List.map_cons, List.map_nil]); first | done | rfl | (simp only [List.length_drop, List.length_take]; rfl)) ?_; (with_reducible refine (spec_Lower.calls ((rd_T67 l0 x6_1).f0) t105 _ A7.out).mono ?_); rintro e w13 ⟨rfl, hb⟩; refine ⟨_, rfl, ?_⟩; have n0_ := Aside0.mk (Kd.R_below (by (with_reducible repeat (first | apply Kd.R_alloc | apply Kd.R_drewN | apply Kd.R_drew)); exact HO_5.out) hb); have n1_ := Aside0.mk (below_step (by repeat (first | (with_reducible first | exact HB.out | apply below_alloc | apply pw_below_drewN | apply below_drew1) | exact HB.out)) hb); clear HO_5; clear HB; have HO_5 := n0_; have HB := n1_; clear n0_ n1_; (try clear hb); (try clear hb2); (try clear hk); (try clear hi)) | ((with_reducible refine gate_callee (f := 91) rfl ?_); refine goesL_ (some 21) rfl rfl Tryd.func91 (by kernel_rfl) rfl #[.string a1] rfl (by (try simp only [List.map_toArray, List.map_cons, List.map_nil]); first | done | rfl | (simp only [List.length_drop, List.length_take]; rfl)) ?_; (with_reducible refine (spec_Lower.calls a1 t106 _ A8.out).mono ?_); rintro e w14 ⟨rfl, hb⟩; refine ⟨_, rfl, ?_⟩; have n0_ := Aside0.mk (Kd.R_below (by (with_reducible repeat (first | apply Kd.R_alloc | apply Kd.R_drewN | apply Kd.R_drew)); exact HO_5.out) hb); have n1_ := Aside0.mk (below_step (by repeat (first | (with_reducible first | exact HB.out | apply below_alloc | apply pw_below_drewN | apply below_drew1) | exact HB.out)) hb); clear HO_5; clear HB; have HO_5 := n0_; have HB := n1_; clear n0_ n1_; (try clear hb); (try clear hb2); (try clear hk); (try clear hi); have p107 : 0 ≤ (x6_1 : Int) := of_decide_eq_true (by first | (with_reducible assumption) | assumption); have q107 : x6_1 < (l0.length : Int) := of_decide_eq_true (by first | (with_reducible assumption) | assumption); obtain ⟨ad107, e107, hx107_0, hx107_1⟩ := at_T67 HR0.out x6_1 p107 q107; obtain rfl : ad104 = ad107 := (by injection e107); replace hx107_0 := (HB.out.cell (World.block_lt_of_cell? w _ hx107_0)).trans hx107_0; replace hx107_1 := (HB.out.cell (World.block_lt_of_cell? w _ hx107_1)).trans hx107_1; replace p107 := eq_true p107; replace q107 := eq_true q107) | ((with_reducible refine gate_builtin (b := .append) (xs := #[.tmp 23, .tmp 28]) rfl ?_); at_builtin; refine Kd.R_append k67 (w0 := w) w.heap.size rfl (.tmp 23) (.tmp 28) 25 67 (.agg #[(.string ⟨#[]⟩), (.string ⟨#[]⟩)]) 32 rfl Tryd.underlying25 info67 rfl (by decide) (by omega) u5 x5_1 (⟨(rd_T67 l0 x6_1).f0, (rd_T67 l0 x6_1).f1⟩ : S67) [.string ((rd_T67 l0 x6_1).f0), .string ((rd_T67 l0 x6_1).f1)] (fun _ => True) (fun _ => False) rfl rfl ?aP (fun _ hk => hk.elim) ?aF ?aO ?aB ?aS ?aL ?_; (case aP => exact k67_mkM _ _ _ (⟨(rd_T67 l0 x6_1).f0, (rd_T67 l0 x6_1).f1⟩ : S67)); (case aB => exact (by repeat (first | (with_reducible first | exact HB.out | apply below_alloc | apply pw_below_drewN | apply below_drew1) | exact HB.out))); (case aF => exact (fun _ _ => trivial)); (case aO => exact (by (with_reducible repeat (first | apply Kd.R_alloc | apply Kd.R_drewN | apply Kd.R_drew)); exact HO_5.out)); (case aS => exact (below_size (by repeat (first | (with_reducible first | exact HB.out | apply below_alloc | apply pw_below_drewN | apply below_drew1) | exact HB.out)))); (case aL => have := LMc12.out; omega); intro v109 w15 ho hb hg hat; rw [← Ny108.out] at ho; have n0_ := Aside0.mk (hb); have n1_ := Aside0.mk (ho); clear HB; clear HO_5; have HB := n0_; have HO110 := n1_; clear n0_ n1_; clear ho hb hg hat))
       go_roundg k1
       case measure => have := HK1.out; omega
       case rel => exact ⟨(y108), (wrap64 (x6_1 + 1)), (by first | rfl | (simp; done) | (simp [*]; done)), H', ⟨by have := HK1.out; omega⟩, ⟨by (with_reducible repeat (first | apply Kd.R_alloc | apply Kd.R_drewN | apply Kd.R_drew)); exact HO110.out⟩, ⟨by repeat (first | (with_reducible first | exact HB.out | apply below_alloc | apply pw_below_drewN | apply below_drew1) | exact HB.out)⟩⟩
      ·
       rw [if_neg c12] at H
       exact absurd H (by simp)
    ·
     rw [if_neg c6] at H
     exact absurd H (by simp)
   ·
    rw [if_neg c5] at H
    have c5b0 : decide (x6_1 < (l0.length : Int)) = false := decide_eq_false c5
    clear c5
    obtain rfl := Option.some.inj H
    go_wp2
    go_ret
    exact ⟨_, by first | rfl | (simp [errW_none, errW_some] <;> rfl) | (simp [*, errW_none, errW_some] <;> rfl), by (with_reducible repeat (first | apply Kd.R_alloc | apply Kd.R_drewN | apply Kd.R_drew)); exact HO_5.out, by repeat (first | (with_reducible first | exact HB.out | apply below_alloc | apply pw_below_drewN | apply below_drew1) | exact HB.out)⟩
end Go.Proofs.YtfebipiccpbdbaaDoor.P
namespace Go.Proofs.YtfebipiccpbdbaaDoor.Q
set_option linter.unusedVariables false
set_option linter.unusedSimpArgs false
open Go.RowKit Go.Proofs.YtfebipiccpbdbaaDoor.P Go.Proofs.YtfebipiccpbdbaaDoorW.PrintWords Go.Proofs.YtfebipiccpbdbaaDoorW.PrintLast Go.Proofs.YtfebipiccpbdbaaDoorW.PrintMore

theorem spec_Lower_is (s : ByteArray) (hs : s.size ≤ 9223372036854775807) : spec_Lower.f s = some (lowS s) := by
  unfold spec_Lower.f
  rw [if_pos hs]
  rfl
def sameName (n : ByteArray) (x : Fld) : Bool := (lowS x.f0).toList == (lowS n).toList
def withoutF (l : List Fld) (n : ByteArray) : List Fld := l.filter fun x => !sameName n x
theorem runA_filter {α : Type} (p : α → Bool) (l st : List α) : runA (σ := List α) (β := List α) (fun st x => if p x = true then .inl st else .inl (st ++ [x])) (fun st => st) l st = st ++ l.filter fun x => !p x := by
  induction l generalizing st with
  | nil => simp [runA]
  | cons a l ih =>
    unfold runA
    cases hp : p a with
    | true => simp only [if_true]; rw [ih, List.filter_cons_of_neg (by simp [hp])]
    | false =>
      simp only [Bool.false_eq_true, if_false]
      rw [ih, List.filter_cons_of_pos (by simp [hp]), List.append_assoc]
      rfl
theorem spec_l4Without_ev (l : List Fld) (n : ByteArray) (h : Mild l) (hn : n.size ≤ 1048576) : Ev (fun k => spec_l4Without.f k l n) (withoutF l n) := by
  unfold spec_l4Without.f
  have hl := h.1
  have e := ev_list (β := List Fld) l z67 (fun st i => st.length ≤ i) (fun st x => if sameName n x = true then .inl st else .inl (st ++ [x])) (fun st => st) (fun k st i => spec_l4Without.l0 k l n st i)
    (fun st i hi hI => by
      have hm := h.2 _ (mem_getD (d := z67) hi)
      have e0 : ∀ k, spec_l4Without.l0 (k + 1) l n st (i : Int) = if sameName n (l.getD i z67) = true then spec_l4Without.l0 k l n st (((i + 1 : Nat) : Int)) else spec_l4Without.l0 k l n (st ++ [l.getD i z67]) (((i + 1 : Nat) : Int)) := by
        intro k
        simp only [spec_l4Without.l0]
        rw [if_pos (by omega), if_pos (by omega), rd_fld, spec_Lower_is _ (by omega), spec_Lower_is n (by omega), wrap_next hi (by omega)]
        simp only [Option.bind_some]
        unfold sameName
        by_cases hq : (lowS (l.getD i z67).f0).toList = (lowS n).toList
        · rw [if_pos hq, if_pos (by simpa using hq)]
        · rw [if_neg hq, if_pos (by omega), if_neg (by simpa using hq)]
      refine ⟨fun st' hf => ?_, fun b hf => ?_⟩
      · by_cases hq : sameName n (l.getD i z67) = true
        · rw [if_pos hq] at hf
          obtain rfl : st = st' := by injection hf
          exact ⟨by omega, fun r hr => Ev.step (fun k => by rw [e0 k, if_pos hq]) hr⟩
        · rw [if_neg hq] at hf
          obtain rfl : st ++ [l.getD i z67] = st' := by injection hf
          exact ⟨by rw [List.length_append]; simp; omega, fun r hr => Ev.step (fun k => by rw [e0 k, if_neg hq]) hr⟩
      · split at hf <;> cases hf)
    (fun st hI => Ev.step (f := fun _ => some st) (fun k => by simp only [spec_l4Without.l0]; rw [if_neg (by omega)]) (Ev.now _)) [] (by simp)
  rw [runA_filter] at e
  exact e
theorem impl_without_is (l : List Fld) (ns : List ByteArray) (h : Mild l) (hn : ∀ n ∈ ns, n.size ≤ 1048576) : impl_without.f l ns = some (l.filter fun x => !withoutP ns x) := by
  unfold impl_without.f
  have hl := h.1
  rw [if_pos ⟨by omega, List.all_eq_true.2 fun x hx => decide_eq_true (by have := h.2 x hx; omega), List.all_eq_true.2 fun x hx => decide_eq_true (by have := hn x hx; omega)⟩]
theorem withoutP_one (n : ByteArray) (x : Fld) : withoutP [n] x = sameName n x := by
  unfold withoutP sameName
  rw [List.any_cons, List.any_nil, Bool.or_false]
  exact Bool.beq_comm
theorem impl_without_one (l : List Fld) (n : ByteArray) (h : Mild l) (hn : n.size ≤ 1048576) : impl_without.f l [n] = some (withoutF l n) := by
  rw [impl_without_is l [n] h (fun m hm => by rw [List.mem_singleton.1 hm]; exact hn)]
  unfold withoutF
  exact congrArg some (List.filter_congr fun x _ => by rw [withoutP_one])
theorem withoutF_mild (l : List Fld) (n : ByteArray) (h : Mild l) : Mild (withoutF l n) :=
  ⟨Nat.le_trans (List.length_filter_le _ _) h.1, fun x hx => h.2 x (List.mem_filter.1 hx).1⟩
def upB (c : Int) : Bool := decide (65 ≤ c) && decide (c ≤ 90)
def tarB (c : Int) : Bool := decide (33 ≤ c) && decide (c ≤ 126)
def methodOk (s : ByteArray) : Bool := tokOk s && (bytesOf s).all upB
def targetOk (s : ByteArray) : Bool := decide (1 ≤ s.size) && (decide (s.size ≤ 200) && (bytesOf s).all tarB)
theorem impl_isMethod_1_is (c : Int) : impl_isMethod_1.f c = some (upB c) := by
  unfold impl_isMethod_1.f upB
  by_cases h1 : c ≥ 65 <;> simp [h1] <;> omega
theorem impl_isTarget_1_is (c : Int) : impl_isTarget_1.f c = some (tarB c) := by
  unfold impl_isTarget_1.f tarB
  by_cases h1 : c > 32
  · rw [if_pos h1, decide_eq_true (by omega : 33 ≤ c)]
    rfl
  · rw [if_neg h1, decide_eq_false (by omega : ¬ 33 ≤ c)]
    rfl
theorem all_met (s : ByteArray) (hs : s.size ≤ 9223372036854775807) : impl_all.f s 108 = some ((bytesOf s).all upB) := by
  unfold impl_all.f
  rw [if_pos hs]
  simp only [Nat.reduceEqDiff, if_true, if_false, reduceIte]
  rw [all_congr' fun c hc => (by rw [impl_isMethod_1_is]; cases upB c <;> rfl : (impl_isMethod_1.f c == some true) = upB c)]
theorem all_tar (s : ByteArray) (hs : s.size ≤ 9223372036854775807) : impl_all.f s 109 = some ((bytesOf s).all tarB) := by
  unfold impl_all.f
  rw [if_pos hs]
  simp only [Nat.reduceEqDiff, if_true, if_false, reduceIte]
  rw [all_congr' fun c hc => (by rw [impl_isTarget_1_is]; cases tarB c <;> rfl : (impl_isTarget_1.f c == some true) = tarB c)]
theorem impl_isMethod_is (s : ByteArray) (hs : s.size ≤ 4611686018427387904) : impl_isMethod.f s = some (methodOk s) := by
  unfold impl_isMethod.f methodOk
  rw [impl_TokenOk_is s hs, all_met s (by omega)]
  cases tokOk s <;> rfl
theorem impl_isTarget_is (s : ByteArray) (hs : s.size ≤ 4611686018427387904) : impl_isTarget.f s = some (targetOk s) := by
  unfold impl_isTarget.f targetOk
  rw [all_tar s (by omega)]
  by_cases h1 : (s.size : Int) ≥ 1
  · rw [if_pos h1, decide_eq_true (by omega : 1 ≤ s.size)]
    by_cases h2 : (s.size : Int) ≤ 200
    · rw [if_pos h2, decide_eq_true (by omega : s.size ≤ 200)]
      rfl
    · rw [if_neg h2, decide_eq_false (by omega : ¬ s.size ≤ 200)]
      rfl
  · rw [if_neg h1, decide_eq_false (by omega : ¬ 1 ≤ s.size)]
    rfl
theorem spec_l6Method_ev (s : ByteArray) (hs : s.size ≤ 4611686018427387904) : Ev (fun k => spec_l6Method.f k s) (methodOk s) := by
  unfold spec_l6Method.f methodOk
  obtain ⟨K, hK⟩ := spec_TokenOk_ev s hs
  refine ev_eq (ev_allr s upB (tokOk s) false (fun k i => spec_l6Method.l0 k s i) K (fun k i hk hi hp => ?_) (fun k i hk hi hp => ?_) (fun k hk => ?_)) (by cases tokOk s <;> cases (bytesOf s).all upB <;> rfl)
  · unfold upB at hp
    simp at hp
    simp only [spec_l6Method.l0]
    rw [if_pos (by omega), if_pos (by omega), if_neg (by omega), if_neg (by omega), wrap_next hi hs]
  · unfold upB at hp
    simp only [spec_l6Method.l0]
    rw [if_pos (by omega), if_pos (by omega)]
    by_cases h1 : bt s i < 65
    · rw [if_pos h1]
    · rw [if_neg h1, if_pos (by rw [decide_eq_true (by omega : 65 ≤ bt s i)] at hp; simp at hp; omega)]
  · simp only [spec_l6Method.l0]
    have hK2 : spec_TokenOk.f k s = some (tokOk s) := hK k hk
    rw [if_neg (by omega), hK2]
    rfl
theorem spec_l6Target_ev (s : ByteArray) (hs : s.size ≤ 4611686018427387904) : Ev (fun k => spec_l6Target.f k s) (targetOk s) := by
  unfold spec_l6Target.f targetOk
  have hb : Ev (fun k => spec_l6Target.j0 k s true) false := Ev.step (f := fun _ => some false) (fun k => by simp only [spec_l6Target.j0, if_true]) (Ev.now _)
  by_cases h1 : (s.size : Int) < 1
  · simp only [if_pos h1]
    rw [decide_eq_false (by omega : ¬ 1 ≤ s.size)]
    exact hb
  · simp only [if_neg h1]
    rw [decide_eq_true (by omega : 1 ≤ s.size)]
    by_cases h2 : (s.size : Int) > 200
    · rw [decide_eq_true h2, decide_eq_false (by omega : ¬ s.size ≤ 200)]
      exact hb
    · rw [decide_eq_false h2, decide_eq_true (by omega : s.size ≤ 200), Bool.true_and, Bool.true_and]
      refine Ev.step (f := fun k => spec_l6Target.l0 k s 0) (fun k => by simp only [spec_l6Target.j0, Bool.false_eq_true, if_false]) ?_
      refine ev_all s tarB (fun k i => spec_l6Target.l0 k s i) 0 (fun k i hk hi hp => ?_) (fun k i hk hi hp => ?_) (fun k hk => ?_)
      · unfold tarB at hp
        simp at hp
        simp only [spec_l6Target.l0]
        rw [if_pos (by omega), if_pos (by omega), if_neg (by omega), if_neg (by omega), wrap_next hi hs]
      · unfold tarB at hp
        simp only [spec_l6Target.l0]
        rw [if_pos (by omega), if_pos (by omega)]
        by_cases h1 : bt s i < 33
        · rw [if_pos h1]
        · rw [if_neg h1, if_pos (by rw [decide_eq_true (by omega : 33 ≤ bt s i)] at hp; simp at hp; omega)]
      · simp only [spec_l6Target.l0]
        rw [if_neg (by omega)]
theorem spec_l4Get_ev (l : List Fld) (n : ByteArray) (h : Mild l) (hn : n.size ≤ 1048576) : ∃ s, Ev (fun k => spec_l4Get.f k l n) (s, l.any (sameName n)) := by
  unfold spec_l4Get.f
  have hl := h.1
  have key : ∀ (m i : Nat) (s : ByteArray) (b : Bool), i + m = l.length → s.size ≤ i * 1048578 → ∃ r, Ev (fun k => spec_l4Get.l0 k l n s b (i : Int)) (r, b || (l.drop i).any (sameName n)) := by
    intro m
    induction m with
    | zero =>
      intro i s b hi hs
      rw [List.drop_of_length_le (by omega), List.any_nil, Bool.or_false]
      exact ⟨s, Ev.step (f := fun _ => some (s, b)) (fun k => by simp only [spec_l4Get.l0]; rw [if_neg (by omega)]) (Ev.now _)⟩
    | succ m ih =>
      intro i s b hi hs
      have hlt : i < l.length := by omega
      have hm := h.2 _ (mem_getD (d := z67) hlt)
      rw [drop_at l z67 i hlt, List.any_cons]
      have hi2 : i * 1048578 ≤ 1048576 * 1048578 := Nat.mul_le_mul_right _ (by omega)
      have e0 : ∀ k, spec_l4Get.l0 (k + 1) l n s b (i : Int) = if sameName n (l.getD i z67) = true then (if b = true then spec_l4Get.l0 k l n ((s ++ (⟨#[44, 32]⟩ : ByteArray)) ++ (l.getD i z67).f1) true (((i + 1 : Nat) : Int)) else spec_l4Get.l0 k l n (s ++ (l.getD i z67).f1) true (((i + 1 : Nat) : Int))) else spec_l4Get.l0 k l n s b (((i + 1 : Nat) : Int)) := by
        intro k
        simp only [spec_l4Get.l0]
        rw [if_pos (by omega), if_pos (by omega), rd_fld, spec_Lower_is _ (by omega), spec_Lower_is n (by omega), wrap_next hlt (by omega)]
        simp only [Option.bind_some]
        have h2 : ((⟨#[44, 32]⟩ : ByteArray)).size = 2 := rfl
        unfold sameName
        by_cases hq : (lowS (l.getD i z67).f0).toList = (lowS n).toList
        · rw [if_pos hq]
          cases b with
          | true =>
            simp only [if_true]
            rw [if_pos (by omega), if_pos (by rw [ByteArray.size_append]; omega), if_pos (by simpa using hq)]
          | false =>
            simp only [Bool.false_eq_true, if_false]
            rw [if_pos (by omega), if_pos (by simpa using hq)]
        · rw [if_neg hq, if_neg (by simpa using hq)]
      cases hq : sameName n (l.getD i z67) with
      | false =>
        obtain ⟨r, hr⟩ := ih (i + 1) s b (by omega) (Nat.le_trans hs (Nat.mul_le_mul_right _ (Nat.le_succ i)))
        exact ⟨r, Ev.step (f := fun k => spec_l4Get.l0 k l n s b (((i + 1 : Nat) : Int))) (fun k => by rw [e0 k, hq]; rfl) (by rw [Bool.false_or]; exact hr)⟩
      | true =>
        cases b with
        | true =>
          obtain ⟨r, hr⟩ := ih (i + 1) ((s ++ (⟨#[44, 32]⟩ : ByteArray)) ++ (l.getD i z67).f1) true (by omega) (by
            rw [ByteArray.size_append, ByteArray.size_append, show ((⟨#[44, 32]⟩ : ByteArray)).size = 2 from rfl, Nat.add_mul, Nat.one_mul]; omega)
          exact ⟨r, Ev.step (f := fun k => spec_l4Get.l0 k l n ((s ++ (⟨#[44, 32]⟩ : ByteArray)) ++ (l.getD i z67).f1) true (((i + 1 : Nat) : Int))) (fun k => by rw [e0 k, hq]; rfl) (by rw [Bool.true_or] at hr ⊢; exact hr)⟩
        | false =>
          obtain ⟨r, hr⟩ := ih (i + 1) (s ++ (l.getD i z67).f1) true (by omega) (by
            rw [ByteArray.size_append, Nat.add_mul, Nat.one_mul]; omega)
          exact ⟨r, Ev.step (f := fun k => spec_l4Get.l0 k l n (s ++ (l.getD i z67).f1) true (((i + 1 : Nat) : Int))) (fun k => by rw [e0 k, hq]; rfl) (by rw [Bool.true_or] at hr; rw [Bool.true_or, Bool.or_true]; exact hr)⟩
  obtain ⟨s, hs⟩ := key l.length 0 ⟨#[]⟩ false (by omega) (Nat.le_of_eq (by rw [Nat.zero_mul]; rfl))
  rw [List.drop_zero, Bool.false_or] at hs
  exact ⟨s, hs⟩
def lengthN : ByteArray := ⟨#[99, 111, 110, 116, 101, 110, 116, 45, 108, 101, 110, 103, 116, 104]⟩
def codingN : ByteArray := ⟨#[116, 114, 97, 110, 115, 102, 101, 114, 45, 101, 110, 99, 111, 100, 105, 110, 103]⟩
theorem lengthN_size : lengthN.size ≤ 1048576 := by have : lengthN.size = 14 := rfl
                                                    omega
theorem codingN_size : codingN.size ≤ 1048576 := by have : codingN.size = 17 := rfl
                                                    omega
def ownOk (l : List Fld) : Bool := fieldsOk l && (!l.any (sameName lengthN) && !l.any (sameName codingN))
theorem spec_l6Fields_ev (l : List Fld) (h : Mild l) : Ev (fun k => spec_l6Fields.f k l) (ownOk l) := by
  unfold spec_l6Fields.f ownOk
  obtain ⟨s1, h1⟩ := spec_l4Get_ev l lengthN h lengthN_size
  obtain ⟨s2, h2⟩ := spec_l4Get_ev l codingN h codingN_size
  refine Ev.bind (a := (s1, l.any (sameName lengthN))) h1 (Ev.bind (a := (s2, l.any (sameName codingN))) h2 (Ev.bind (spec_FieldsOk_ev l h) ?_))
  cases fieldsOk l
  · exact Ev.now _
  · simp only [if_true, Bool.true_and]
    cases l.any (sameName lengthN)
    · exact Ev.now _
    · exact Ev.now _
theorem withoutP_two (a b : ByteArray) (x : Fld) : withoutP [a, b] x = (sameName a x || sameName b x) := by
  unfold withoutP sameName
  rw [List.any_cons, List.any_cons, List.any_nil, Bool.or_false, Bool.beq_comm (a := (lowS a).toList), Bool.beq_comm (a := (lowS b).toList)]
theorem impl_areOwn_is (l : List Fld) (h : Mild l) : impl_areOwn.f l = some (ownOk l) := by
  unfold impl_areOwn.f ownOk
  have hw := impl_without_is l [lengthN, codingN] h (fun n hn => by
    simp only [List.mem_cons, List.not_mem_nil, or_false] at hn
    rcases hn with rfl | rfl
    · exact lengthN_size
    · exact codingN_size)
  unfold lengthN codingN at hw
  rw [impl_FieldsOk_is l h, hw]
  simp only [Option.bind_some]
  cases fieldsOk l
  · rfl
  · simp only [if_true, Bool.true_and]
    refine congrArg some ?_
    rw [Bool.eq_iff_iff]
    have hc : ∀ x : Fld, (!withoutP [(⟨#[99, 111, 110, 116, 101, 110, 116, 45, 108, 101, 110, 103, 116, 104]⟩ : ByteArray), (⟨#[116, 114, 97, 110, 115, 102, 101, 114, 45, 101, 110, 99, 111, 100, 105, 110, 103]⟩ : ByteArray)] x) = (!(sameName lengthN x || sameName codingN x)) := fun x => by
      rw [withoutP_two]; rfl
    simp only [hc]
    rw [beq_iff_eq, Int.ofNat_inj, List.length_filter_eq_length_iff]
    simp only [Bool.and_eq_true, Bool.not_eq_true', List.any_eq_false, Bool.or_eq_false_iff]
    constructor
    · intro hh
      exact ⟨fun x hx => by simp [(hh x hx).1], fun x hx => by simp [(hh x hx).2]⟩
    · intro hh x hx
      have a := hh.1 x hx
      have b := hh.2 x hx
      simp at a b
      exact ⟨a, b⟩
def bareB (n : Int) : Bool := decide (n = 204) || (n == 304)
theorem impl_isBare_is (n : Int) : impl_isBare.f n = some (bareB n) := by
  unfold impl_isBare.f bareB
  by_cases h : n = 204 <;> simp [h]
theorem spec_l6Bare_is (n : Int) : spec_l6Bare.f n = some (bareB n) := by
  unfold spec_l6Bare.f bareB
  by_cases h : n = 204 <;> simp [h]
def responseOk (n : Int) (l : List Fld) (b : ByteArray) : Bool := inB n 200 599 && (ownOk l && (decide ((b.size : Int) ≤ 4000) && (!bareB n || b.toList == ([] : List UInt8))))
theorem spec_ResponseOk_ev (n : Int) (l : List Fld) (b : ByteArray) (h : Mild l) : Ev (fun k => spec_ResponseOk.f k n l b) (responseOk n l b) := by
  unfold spec_ResponseOk.f responseOk
  rw [spec_l1In_is]
  refine Ev.bind (ev_const rfl) ?_
  cases inB n 200 599
  · exact Ev.now _
  · simp only [if_true, Bool.true_and]
    refine Ev.bind (spec_l6Fields_ev l h) ?_
    cases ownOk l
    · exact Ev.now _
    · simp only [if_true, Bool.true_and]
      by_cases hb : (b.size : Int) ≤ 4000
      · simp only [if_pos hb, decide_eq_true hb, Bool.true_and]
        rw [spec_l6Bare_is]
        refine Ev.bind (ev_const rfl) ?_
        cases bareB n
        · exact Ev.now _
        · simp only [if_true, Bool.not_true, Bool.false_or]
          exact Ev.now _
      · simp only [if_neg hb, decide_eq_false hb, Bool.false_and]
        exact Ev.now _
theorem impl_ResponseOk_is (n : Int) (l : List Fld) (b : ByteArray) (h : Mild l) : impl_ResponseOk.f n l b = some (responseOk n l b) := by
  unfold impl_ResponseOk.f impl_isStatus.f responseOk
  rw [impl_within_is, impl_areOwn_is l h, impl_isBare_is]
  simp only [Option.bind_some]
  cases inB n 200 599 <;> cases ownOk l
  · rfl
  · rfl
  · rfl
  · simp only [if_true, Bool.true_and]
    by_cases hb : (b.size : Int) ≤ 4000
    · rw [if_pos hb, decide_eq_true hb, Bool.true_and]
      by_cases he : b.toList = ([] : List UInt8)
      · rw [if_pos he, he]
        cases bareB n <;> rfl
      · rw [if_neg he, show (b.toList == ([] : List UInt8)) = false from beq_eq_false_iff_ne.2 he]
        cases bareB n <;> rfl
    · rw [if_neg hb, decide_eq_false hb]
      rfl
end Go.Proofs.YtfebipiccpbdbaaDoor.Q
namespace Go.Proofs.YtfebipiccpbdbaaDoor.Pure
set_option linter.unusedVariables false
set_option linter.unusedSimpArgs false
open Go.RowKit Go.Proofs.YtfebipiccpbdbaaDoor.P Go.Proofs.YtfebipiccpbdbaaDoor.Q Go.Proofs.YtfebipiccpbdbaaDoorW.PrintWords
def resLine (n : Int) (w : ByteArray) : ByteArray := (⟨#[72, 84, 84, 80, 47, 49, 46, 49, 32]⟩ : ByteArray) ++ decT n ++ (⟨#[32]⟩ : ByteArray) ++ w
def resWord (n : Int) : ByteArray := if n ≥ 400 then ⟨#[110, 111]⟩ else ⟨#[111, 107]⟩
theorem responseOk_range {n : Int} {l : List Fld} {b : ByteArray} (h : responseOk n l b = true) : 200 ≤ n ∧ n ≤ 599 ∧ b.size ≤ 4000 := by
 unfold responseOk at h
 simp only [Bool.and_eq_true, decide_eq_true_eq] at h
 obtain ⟨h1, _, h3, _⟩ := h
 have := inB_true h1
 omega
theorem FnExactShowResponse : laws_FnExactShowResponse.Pure := by
 intro n l b _ hl hx hb
 unfold laws_FnExactShowResponse.f laws_szResponse.f
 obtain ⟨r, hr, hle, hm⟩ := szFieldS_ev l 1048576 (by decide) (by decide) hl hx
 by_cases h0 : r < 0
 ·
  exact Ev.rounds (r := true) (Ev.bind (Ev.bind hr (by simp only [if_pos h0]; exact Ev.now _)) (by exact Ev.now _))
 ·
  have hw : wrap64 (r - (b.size : Int)) = r - (b.size : Int) := wrap_in (by omega) (by omega)
  by_cases h1 : r - (b.size : Int) < 0
  ·
   exact Ev.rounds (r := true) (Ev.bind (Ev.bind hr (by simp only [if_neg h0, hw, if_pos h1]; exact Ev.now _)) (by exact Ev.now _))
  ·
   refine Ev.rounds (r := true) (Ev.bind (Ev.bind hr (by simp only [if_neg h0, hw, if_neg h1]; exact Ev.now _)) ?_)
   simp only [if_neg h1]
   have m := hm (by omega)
   have hlen : l.length ≤ 1048576 := by have := m.1; rwa [List.length_map] at this
   have hT : Ev (fun k => laws_toResponse.f k n l b) (n, l.map conv, b) := Ev.bind (toFieldS_ev l hlen) (Ev.now _)
   have hS : Ev (fun k => spec_ShowResponse.f k n (l.map conv) b) (if responseOk n (l.map conv) b = true then showM (resLine n (resWord n)) (l.map conv) b (!bareB n) else ⟨#[]⟩) := by
    unfold spec_ShowResponse.f
    refine Ev.bind (spec_ResponseOk_ev n _ b m) ?_
    cases hok : responseOk n (l.map conv) b with
    | false => exact Ev.now _
    | true =>
     simp only [if_true]
     obtain ⟨q1, q2, q3⟩ := responseOk_range hok
     have hd := decT_size n (by omega) (by omega)
     have a1 : ((⟨#[72, 84, 84, 80, 47, 49, 46, 49, 32]⟩ : ByteArray) ++ decT n).size = 9 + (decT n).size := by rw [ByteArray.size_append]; rfl
     have a2 : ((⟨#[72, 84, 84, 80, 47, 49, 46, 49, 32]⟩ : ByteArray) ++ decT n ++ (⟨#[32]⟩ : ByteArray)).size = 9 + (decT n).size + 1 := by rw [ByteArray.size_append, a1]; rfl
     have key : ∀ w : ByteArray, w.size = 2 → Ev (fun k => (spec_l1Int.f k n).bind fun t103 => (if 9 + t103.size ≤ 9223372036854775807 then (if ((⟨#[72, 84, 84, 80, 47, 49, 46, 49, 32]⟩ : ByteArray) ++ t103).size + 1 ≤ 9223372036854775807 then (if (((⟨#[72, 84, 84, 80, 47, 49, 46, 49, 32]⟩ : ByteArray) ++ t103) ++ (⟨#[32]⟩ : ByteArray)).size + 2 ≤ 9223372036854775807 then ((spec_l6Bare.f n).bind fun t104 => ((spec_l6Show.f k ((((⟨#[72, 84, 84, 80, 47, 49, 46, 49, 32]⟩ : ByteArray) ++ t103) ++ (⟨#[32]⟩ : ByteArray)) ++ w) (l.map conv) b t104 true).bind fun t105 => (some t105))) else (none)) else (none)) else (none))) (showM (resLine n w) (l.map conv) b (!bareB n)) := by
      intro w hw2
      refine Ev.bind (spec_l1Int_ev n (by omega) (by omega)) ?_
      simp only [if_pos (show 9 + (decT n).size ≤ 9223372036854775807 by omega), if_pos (show ((⟨#[72, 84, 84, 80, 47, 49, 46, 49, 32]⟩ : ByteArray) ++ decT n).size + 1 ≤ 9223372036854775807 by omega), if_pos (show ((⟨#[72, 84, 84, 80, 47, 49, 46, 49, 32]⟩ : ByteArray) ++ decT n ++ (⟨#[32]⟩ : ByteArray)).size + 2 ≤ 9223372036854775807 by omega)]
      rw [spec_l6Bare_is]
      simp only [Option.bind_some]
      have := spec_l6Show_ev (resLine n w) (l.map conv) b (bareB n) true m (by unfold resLine; rw [ByteArray.size_append, a2]; omega) (by omega)
      simp only [Bool.or_true, Bool.and_true] at this
      exact Ev.bind this (Ev.now _)
     unfold resWord
     by_cases h4 : n ≥ 400
     ·
      simp only [if_pos h4]
      exact key _ rfl
     ·
      simp only [if_neg h4]
      exact key _ rfl
   have hI : impl_ShowResponse.f n (l.map conv) b = some (if responseOk n (l.map conv) b = true then showM (resLine n (resWord n)) (l.map conv) b (!bareB n) else ⟨#[]⟩) := by
    unfold impl_ShowResponse.f
    rw [impl_ResponseOk_is n _ b m]
    cases hok : responseOk n (l.map conv) b with
    | false => rfl
    | true =>
     simp only [if_true, Option.bind_some]
     obtain ⟨q1, q2, q3⟩ := responseOk_range hok
     have hd := decT_size n (by omega) (by omega)
     have a1 : ((⟨#[72, 84, 84, 80, 47, 49, 46, 49, 32]⟩ : ByteArray) ++ decT n).size = 9 + (decT n).size := by rw [ByteArray.size_append]; rfl
     have a2 : ((⟨#[72, 84, 84, 80, 47, 49, 46, 49, 32]⟩ : ByteArray) ++ decT n ++ (⟨#[32]⟩ : ByteArray)).size = 9 + (decT n).size + 1 := by rw [ByteArray.size_append, a1]; rfl
     rw [impl_decimal_is n (by omega) (by omega), impl_isBare_is]
     simp only [Option.bind_some]
     unfold resWord
     by_cases h4 : n ≥ 400
     ·
      rw [if_pos h4, if_pos h4, if_pos (by omega), if_pos (by omega), if_pos (by omega)]
      have := impl_show_is (resLine n ⟨#[110, 111]⟩) (l.map conv) b (!bareB n) m (by unfold resLine; rw [ByteArray.size_append, a2]; show 9 + (decT n).size + 1 + 2 ≤ _; omega) (by omega)
      unfold resLine at this ⊢
      rw [this]
      rfl
     ·
      rw [if_neg h4, if_neg h4, if_pos (by omega), if_pos (by omega), if_pos (by omega)]
      have := impl_show_is (resLine n ⟨#[111, 107]⟩) (l.map conv) b (!bareB n) m (by unfold resLine; rw [ByteArray.size_append, a2]; show 9 + (decT n).size + 1 + 2 ≤ _; omega) (by omega)
      unfold resLine at this ⊢
      rw [this]
      rfl
   refine Ev.bind hT (Ev.bind hS (Ev.bind hT (Ev.bind (ev_const hI) ?_)))
   simp only [if_true]
   refine Ev.bind hT (Ev.bind (a := true) ?_ (Ev.now _))
   unfold laws_eqResponse.f
   simp only [eq_self, if_true]
   exact Ev.bind (eqFieldS_self _ m.1) (Ev.now _)
end Go.Proofs.YtfebipiccpbdbaaDoor.Pure
namespace Go.Proofs.YtfebipiccpbdbaaDoor.RowAid
open Go.ChangeShapes Go.WideShapes Go.Deep
variable {H : Type} {enc : TypeId × Value → H} {P : Program} {w : World} {base : Nat} {spare : Nat → Bool} {held : Bool}
theorem open_one {r : Reach} {b0 : Nat} {t : TypeId} {fs : Array Field} {v : Value} {d : DataW H} {p : List MemPlace} (hs : P.underlying t = some (.struct fs)) (hone : oneCellFields P fs = true) (hC : P.cellsOf t = fs.size)
    (hv : Value.okWide P w r b0 t v) (h : DataW.Trod enc P w base spare held t v d p) :
    ∃ cs : List Value, v = .agg cs.toArray ∧ cs.length = fs.size ∧ ∃ n, ∀ (i : Nat) (f : Field) (c : Value), fs[i]? = some f → cs[i]? = some c → ∃ y, DataW.trod enc P w base spare held n f.type [c] = some y := by
  obtain ⟨⟨cs⟩, rfl, hsz⟩ := okWide_struct hs hv
  obtain ⟨fuel, hf⟩ := h
  obtain ⟨xs, n, _, _, hl, hx, hg⟩ := DataW.trod_struct hs hf
  have hcl : cs.length = fs.size := by
    have : (⟨cs⟩ : Array Value).size = cs.length := rfl
    omega
  refine ⟨cs, rfl, hcl, n, fun i f c hi hc => ?_⟩
  have hlt : i < fs.size := (Array.getElem?_eq_some_iff.1 hi).1
  obtain ⟨ho, hk⟩ := hone_of hone i f hi
  have h1 := hg i f hi
  have hcc : (Value.agg ⟨cs⟩).cells.toList = cs := rfl
  rw [hcc, ho, hk] at h1
  have hd : (cs.drop i).take 1 = [c] := by
    have hi' : i < cs.length := by omega
    rw [List.drop_eq_getElem_cons hi', List.take_succ_cons, List.take_zero]
    rw [List.getElem?_eq_getElem hi'] at hc
    rw [Option.some.inj hc]
  rw [hd] at h1
  have hxl : xs[i]? = some (xs[i]'(by omega)) := List.getElem?_eq_getElem (by omega)
  exact ⟨_, h1.trans hxl⟩
end Go.Proofs.YtfebipiccpbdbaaDoor.RowAid
namespace Go.Proofs.YtfebipiccpbdbaaDoor.RowAid
open Go.ChangeShapes Go.WideShapes Go.Deep
variable {H : Type} {enc : TypeId × Value → H} {P : Program} {w : World} {base : Nat} {spare : Nat → Bool} {held : Bool}
/-- What each place has, put into a list. -/
theorem list_of {α : Type} (n : Nat) (Q : Nat → α → Prop) (h : ∀ i, i < n → ∃ x, Q i x) : ∃ l : List α, l.length = n ∧ ∀ i x, l[i]? = some x → Q i x := by
  induction n with
  | zero => exact ⟨[], rfl, fun i x hx => by simp at hx⟩
  | succ n ih =>
    obtain ⟨l, hl, hq⟩ := ih fun i hi => h i (by omega)
    obtain ⟨z, hz⟩ := h n (Nat.lt_succ_self n)
    refine ⟨l ++ [z], by simp [hl], fun i x hx => ?_⟩
    by_cases hi : i < n
    · rw [List.getElem?_append_left (by omega)] at hx
      exact hq i x hx
    · by_cases he : i = n
      · subst he
        rw [List.getElem?_append_right (by omega), hl, Nat.sub_self] at hx
        obtain rfl := Option.some.inj hx
        exact hz
      · rw [List.getElem?_eq_none (by simp; omega)] at hx
        cases hx
/-- A slice of structs of one-cell fields: each field's cell, and what it reads as. -/
theorem open_structs {t e : TypeId} {fs : Array Field} {n : Nat} {c : Value} {y : DataW H × List MemPlace} (ht : P.underlying t = some (.slice e)) (he : P.underlying e = some (.struct fs)) (hone : oneCellFields P fs = true) (hC : P.cellsOf e = fs.size)
    (h : DataW.trod enc P w base spare held n t [c] = some y) :
    c = .slice none 0 0 ∨ ∃ (a : Addr) (len cap : Nat), c = .slice (some a) len cap ∧ len ≤ cap ∧ cap ≤ maxLen ∧
      ∀ i, i < len → ∃ m, ∀ (j : Nat) (f : Field), fs[j]? = some f → ∃ (v : Value) (z : DataW H × List MemPlace), w.cell? (a.add (i * fs.size + j)) = some v ∧ DataW.trod enc P w base spare held m f.type [v] = some z := by
  rcases open_slice ht h with ⟨h0, _⟩ | ⟨a, len, cap, m, k, D, Pl, hcs, _, hl, hm, hmm, _, hi⟩
  · exact .inl (List.cons.inj h0).1
  · refine .inr ⟨a, len, cap, (List.cons.inj hcs).1, hl, hm, fun i hil => ?_⟩
    obtain ⟨cs', hc, ht'⟩ := hi i (by rw [hmm]; split <;> omega)
    rw [hC] at hc
    obtain ⟨_, hcl, hat⟩ := World.cells?_some hc
    obtain ⟨xs, q, _, _, _, hlen, hg⟩ := DataW.trod_struct he ht'
    refine ⟨q, fun j f hj => ?_⟩
    have hjl : j < fs.size := (Array.getElem?_eq_some_iff.1 hj).1
    obtain ⟨ho, hk⟩ := hone_of hone j f hj
    have h1 := hg j f hj
    have hd : (cs'.drop j).take 1 = [cs'[j]'(by omega)] := by
      rw [List.drop_eq_getElem_cons (by omega), List.take_succ_cons, List.take_zero]
    rw [ho, hk, hd, List.getElem?_eq_getElem (by omega : j < xs.length)] at h1
    have h2 := hat j hjl
    rw [add_add, List.getElem?_eq_getElem (by omega : j < cs'.length)] at h2
    exact ⟨_, _, h2, h1⟩
/-- A slice of one-cell elements. -/
theorem open_ones {t e : TypeId} {n : Nat} {c : Value} {y : DataW H × List MemPlace} (ht : P.underlying t = some (.slice e)) (hC : P.cellsOf e = 1)
    (h : DataW.trod enc P w base spare held n t [c] = some y) :
    c = .slice none 0 0 ∨ ∃ (a : Addr) (len cap : Nat), c = .slice (some a) len cap ∧ len ≤ cap ∧ cap ≤ maxLen ∧
      ∀ i, i < len → ∃ (m : Nat) (v : Value) (z : DataW H × List MemPlace), w.cell? (a.add (i * 1)) = some v ∧ DataW.trod enc P w base spare held m e [v] = some z := by
  rcases open_slice ht h with ⟨h0, _⟩ | ⟨a, len, cap, m, k, D, Pl, hcs, _, hl, hm, hmm, _, hi⟩
  · exact .inl (List.cons.inj h0).1
  · refine .inr ⟨a, len, cap, (List.cons.inj hcs).1, hl, hm, fun i hil => ?_⟩
    obtain ⟨cs', hc, ht'⟩ := hi i (by rw [hmm]; split <;> omega)
    rw [hC] at hc
    obtain ⟨_, hcl, hat⟩ := World.cells?_some hc
    match cs', hcl with
    | [v], _ =>
      have h2 := hat 0 (Nat.lt_succ_self 0)
      rw [show (a.add (i * 1)).add 0 = a.add (i * 1) from rfl] at h2
      exact ⟨k, v, _, h2, ht'⟩
end Go.Proofs.YtfebipiccpbdbaaDoor.RowAid
namespace Go.Proofs.YtfebipiccpbdbaaDoor.fnExactShowResponse
open Go.ChangeShapes Go.WideShapes Go.ChangeAt Go.RowKit
open Go.Proofs.YtfebipiccpbdbaaDoorW.PrintWords Go.Proofs.YtfebipiccpbdbaaDoorW.PrintLast Go.Proofs.YtfebipiccpbdbaaDoorW.PrintMore Go.Proofs.YtfebipiccpbdbaaDoor.P
open Go.ChangeMaps (open_string shut_string)
set_option linter.unusedVariables false
theorem own : ownKnob Tryd.prog.godebug = none := by kernel_rfl
theorem laidOut : laidOutB Tryd.prog = true := by kernel_rfl
set_option maxRecDepth 100000 in
theorem rows_t22 {H : Type} {enc : TypeId × Value → H} {w : World} {base : Nat} {spare : Nat → Bool} {held : Bool} {n : Nat} {c : Value} {y : DataW H × List MemPlace} (h : DataW.trod enc Tryd.prog w base spare held n 22 [c] = some y) :
    ∃ (A : Option Addr) (cap : Nat) (l : List S65), c = .slice A l.length cap ∧ Kd.C k65 w A l.length l ∧ l.length ≤ cap ∧ l.length ≤ 9223372036854775807 ∧ ∀ x ∈ l, x.f0.size ≤ 9223372036854775807 ∧ x.f1.size ≤ 9223372036854775807 := by
  rcases RowAid.open_structs Tryd.underlying22 Tryd.underlying65 (by kernel_rfl) (by kernel_rfl) h with rfl | ⟨x, len, cap, rfl, hl, hm, hi⟩
  · exact ⟨none, 0, [], rfl, ⟨rfl, Nat.zero_le _, fun h => absurd h (by decide)⟩, Nat.le_refl _, Nat.zero_le _, fun x hx => by cases hx⟩
  · obtain ⟨l, hlen, hl2⟩ := RowAid.list_of len (fun i (z : S65) => w.cell? (x.add (i * 2 + 0)) = some (.string z.f0) ∧ w.cell? (x.add (i * 2 + 1)) = some (.string z.f1) ∧ z.f0.size ≤ 9223372036854775807 ∧ z.f1.size ≤ 9223372036854775807) (fun i hil => by
      obtain ⟨m, hf⟩ := hi i hil
      obtain ⟨v0, y0, e0, t0⟩ := hf 0 _ rfl
      obtain ⟨s0, q0, _, w0⟩ := DataW.trod_string Tryd.underlying9 t0
      obtain rfl := (List.cons.inj q0).1
      obtain ⟨v1, y1, e1, t1⟩ := hf 1 _ rfl
      obtain ⟨s1, q1, _, w1⟩ := DataW.trod_string Tryd.underlying9 t1
      obtain rfl := (List.cons.inj q1).1
      exact ⟨⟨s0, s1⟩, e0, e1, w0, w1⟩)
    subst hlen
    have hb : l.length ≤ 9223372036854775807 := Nat.le_trans hl (Nat.le_trans hm (by decide))
    refine ⟨some x, cap, l, rfl, ⟨rfl, hb, fun _ => ⟨x, rfl, fun j p hj => ⟨[.string p.f0, .string p.f1], rfl, k65_mk w p, fun i u hu => ?_⟩⟩⟩, hl, hb, fun z hz => ?_⟩
    · match i, hu with
      | 0, hu => obtain rfl := Option.some.inj hu; exact (hl2 j p hj).1
      | 1, hu => obtain rfl := Option.some.inj hu; exact (hl2 j p hj).2.1
    · obtain ⟨j, hj⟩ := List.getElem?_of_mem hz
      exact (hl2 j z hj).2.2
set_option maxRecDepth 100000 in
theorem open_p0 {H : Type} {enc : TypeId × Value → H} {w : World} {base b0 : Nat} {spare : Nat → Bool} {held : Bool} {r : Reach} {v : Value} {d : DataW H} {p : List MemPlace} (hv : Value.okWide Tryd.prog w r b0 44 v) (h : DataW.Trod enc Tryd.prog w base spare held 44 v d p) :
    ∃ (a0_0 : Int) (A0_1 : Option Addr) (c0_1 : Nat) (l0_1 : List (S65)) (a0_2 : ByteArray), v = .agg #[.int .i64 a0_0, .slice A0_1 l0_1.length c0_1, .string a0_2] ∧ ((Lit.int .i64 a0_0).wf = true) ∧ (Kd.C k65 w A0_1 l0_1.length l0_1) ∧ (l0_1.length ≤ c0_1) ∧ (l0_1.length ≤ 9223372036854775807) ∧ (∀ x ∈ l0_1, x.f0.size ≤ 9223372036854775807 ∧ x.f1.size ≤ 9223372036854775807) ∧ (a0_2.size ≤ 9223372036854775807) := by
  obtain ⟨cs, rfl, hl, n, hf⟩ := RowAid.open_one Tryd.underlying44 (by kernel_rfl) (by kernel_rfl) hv h
  have hl' : cs.length = 3 := hl
  clear hl
  match cs, hl' with
  | [c0, c1, c2], _ =>
    obtain ⟨_, h0⟩ := hf 0 _ c0 rfl rfl
    obtain ⟨x0, e0, _, w0⟩ := DataW.trod_int Tryd.underlying2 h0
    obtain rfl := (List.cons.inj e0).1
    obtain ⟨_, h1⟩ := hf 1 _ c1 rfl rfl
    obtain ⟨xA1, xc1, xl1, e1, xr1, xh1, xb1, xe1⟩ := rows_t22 h1
    subst e1
    obtain ⟨_, h2⟩ := hf 2 _ c2 rfl rfl
    obtain ⟨x2, e2, _, w2⟩ := DataW.trod_string Tryd.underlying9 h2
    obtain rfl := (List.cons.inj e2).1
    exact ⟨x0, xA1, xc1, xl1, x2, rfl, w0, xr1, xh1, xb1, xe1, w2⟩
set_option maxRecDepth 100000 in
set_option maxHeartbeats 2000000 in
theorem lifted (os : Os) (started : os.Started) (H : Type) (enc : TypeId × Value → H) :
    ReturnsInHanded {} Tryd.checked os 12 .any (fun w args => (Rows.fnExactShowResponseSpec.pre enc Tryd.prog Tryd.f12 [] false w args ∧ laidMetH Tryd.prog Rows.fnExactShowResponseRow.laid w) ∧ sizedMet enc Tryd.prog Tryd.f12 (OpenSpec.ofChange Rows.fnExactShowResponseSpec) false w args) (Rows.fnExactShowResponseSpec.post enc Tryd.prog Tryd.f12 false true false false) := by
  refine RowAid.handed_both (C := Tryd.checked) (X := fun w _ => laidMetH Tryd.prog Rows.fnExactShowResponseRow.laid w) (fun _ _ _ hh h => h.of_heap hh) own started (by kernel_rfl) Tryd.func12
    (ChangeSpec.witness_shaped (enc := enc) (C := Tryd.checked) (os := os) (X := fun w _ => laidMetH Tryd.prog Rows.fnExactShowResponseRow.laid w) false (World.laidAll Tryd.prog os Rows.fnExactShowResponseRow.laid) #[.agg #[.int .i64 0, .slice none 0 0, .string ByteArray.empty]] 8 (World.laidAll_os _ _ _)
      (World.shaped_of_ZipB (by kernel_rfl) (by kernel_rfl)) (by kernel_rfl) (by kernel_rfl) (by kernel_rfl)
      (by rw [MakeChecks.laidMetH_plain _ _ _ (by kernel_rfl)]; exact laidMet_laidAll _ (by kernel_rfl) (by kernel_rfl))) ?_
  intro W base args ds gs before hval0 hW hcnd hsz0 hL hSh _
  have hsz : (DataW.weightsEach Tryd.prog (Tryd.f12.params.toList ++ Rows.fnExactShowResponseSpec.plain.varTypes Tryd.prog) (ds ++ gs)).all (· ≤ reachBytes) = true := hsz0
  have hval : ∀ (j : Nat) t v, Tryd.f12.params[j]? = some t → args[j]? = some v → Value.okWide Tryd.prog W .any base t v := hval0
  have hW' := hW
  obtain ⟨p, q, hA0, hV, rfl, hfz, hnd⟩ := hW
  have hA : DataW.TrodAll enc Tryd.prog W 0 (fun _ => true) true Tryd.f12.params.toList args.toList ds p := hA0
  rw [Tryd.params12] at hA hval hsz
  obtain ⟨v0, vs0, d0, ds0, p0, q0, hargs, rfl, rfl, h0, r0⟩ := trodAll_cons hA
  obtain ⟨rfl, rfl, rfl⟩ := trodAll_nil r0
  obtain rfl : args = #[v0] := by cases args; simp_all
  obtain ⟨rfl, rfl⟩ := trodVars_none hV
  have k0 := h0
  have lt0 : ∀ x ∈ p0, x.block < W.heap.size := by obtain ⟨m, hm⟩ := k0; exact DataW.trod_lt m _ _ _ hm
  obtain ⟨a0_0, A0_1, c0_1, l0_1, a0_2, rfl, w0_0, hr0_1, hc0_1, wl0_1, we0_1, w0_2⟩ := open_p0 (hval 0 44 v0 rfl rfl) h0
  clear hA0 hval0 hsz0 hsz
  have hXW := RowAid.xw_of (m := 6) hSh Rows.fnExactShowResponseRow.laid hL (by kernel_rfl) (fun _ => by kernel_rfl) (fun _ => by kernel_rfl)
  refine (P.laws_FnExactShowResponse.walk Pure.FnExactShowResponse a0_0 A0_1 c0_1 l0_1 a0_2 W hXW w0_0 wl0_1 we0_1 w0_2 hr0_1 hc0_1).mono fun e W' ⟨he, bel⟩ => ?_
  subst he
  exact ⟨_, rfl, _, _, _, [], _, [], hW', trodAll_mk1 (shut_bool Tryd.underlying4 _), (trodAll_cons_mk (Below.trod laidOut (by kernel_rfl) (of_decide_eq_true (by kernel_rfl)) k0 bel lt0) trodAll_mk0), rfl, bel.frame _, fun h => by cases h⟩
theorem over : Rows.fnExactShowResponseRow.holds Tryd.pinned (OpenSpec.ofChange Rows.fnExactShowResponseSpec) :=
  OpenClaim.holds_of_wide 12 Tryd.f12 rfl rfl rfl rfl rfl rfl rfl ⟨rfl, rfl, rfl, rfl, rfl⟩ rfl rfl rfl rfl rfl (by kernel_rfl) Tryd.func12 (by kernel_rfl)
    (of_decide_eq_true (by kernel_rfl)) (by unfold Func.isWrapper; first | (rw [if_pos (by decide +kernel)]; kernel_rfl) | (rw [if_neg (by decide +kernel)]; exact ⟨rfl, rfl⟩))
    (fun os started H enc _ => lifted os started H enc)
theorem proved : Rows.FnExactShowResponseSaid := over
#print axioms proved
end Go.Proofs.YtfebipiccpbdbaaDoor.fnExactShowResponse
namespace Go.Proofs.YtfebipiccpbdbaaDoor
/-- The tied card, under a short name, for the claim. -/
theorem fnExactShowResponse_card : Rows.FnExactShowResponseCardSaid :=
  Claim7.holds_tied_plain_at .later [] [.data, .data, .data, .data, .pinned] true (true, "090dd8b52d5a9aab87a70a45cd45ba9354c43069745460516db811f4df20d7d4") false
    fnExactShowResponse.proved (fun _ h => by cases h) (by kernel_rfl) (fun _ h => by cases h) fnExactShowResponse_row_tie rfl ⟨rfl, rfl⟩ (by kernel_rfl) rfl
    (fun f fn hf hfn => by
      obtain rfl : f = 12 := Option.some.inj ((show Tryd.prog.funcNamed "loop.example/g00207/laws.FnExactShowResponse" = some 12 by kernel_rfl).symm.trans hf) |>.symm
      obtain rfl : fn = Tryd.f12 := (Option.some.inj (Tryd.func12.symm.trans hfn)).symm
      exact ⟨by kernel_rfl, fun j t ht => by
        rw [Tryd.params12] at ht
        have hm : t ∈ [44] := by simpa using Array.mem_of_getElem? ht
        have hall : ([44].all fun u => !Tryd.prog.wantsStandIn u) = true := by kernel_rfl
        exact (show Tryd.prog.wantsStandIn t = false by simpa using List.all_eq_true.1 hall t hm)⟩)
    (by kernel_rfl)
#print axioms fnExactShowResponse_card
end Go.Proofs.YtfebipiccpbdbaaDoor
