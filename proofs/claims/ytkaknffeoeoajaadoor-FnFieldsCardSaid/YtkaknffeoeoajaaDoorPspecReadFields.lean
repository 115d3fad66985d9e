/- Functions of the Go program as Lean functions, and proofs that each Go function comes to its Lean function's answers; conditions: those that each theorem states. Written by this session's program hprint.py, which drives the kit's printer. -/
import Derived.Test.YtkaknffeoeoajaaDoorP0
import Derived.Test.YtkaknffeoeoajaaDoorPspecTrimmed
import Derived.Test.YtkaknffeoeoajaaDoorPspecl4Field
import Derived.Test.YtkaknffeoeoajaaDoorPspecl4Line
import Derived.Test.YtkaknffeoeoajaaDoorXA
import Derived.Test.YtkaknffeoeoajaaDoorXW
namespace Go.Proofs.YtkaknffeoeoajaaDoor.P
open Go.RowKit Go.Proofs.YtkaknffeoeoajaaDoorW.PrintWords Go.Proofs.YtkaknffeoeoajaaDoorW.PrintLast Go.Proofs.YtkaknffeoeoajaaDoorW.PrintMore
attribute [local go_sem] max2_int min2_int max_two min_two max_three min_three max_four min_four   -- for this text's walks alone
set_option linter.unusedVariables false
set_option linter.unusedSimpArgs false

/-! ### spec_ReadFields: function 15 -/
abbrev spec_ReadFields.d0 : Array Bool := #[false, false, false, false, false, false, false, false, false, false, false]
abbrev spec_ReadFields.d1 : Array Bool := #[true, false, false, false, false, false, false, false, false, false, false]
abbrev spec_ReadFields.d2 : Array Bool := #[true, true, false, false, false, false, false, false, false, false, false]
abbrev spec_ReadFields.d3 : Array Bool := #[true, true, true, false, false, false, false, false, false, false, false]
abbrev spec_ReadFields.d4 : Array Bool := #[true, true, true, true, false, false, false, false, false, false, false]
abbrev spec_ReadFields.d5 : Array Bool := #[true, true, true, true, true, false, false, false, false, false, false]
abbrev spec_ReadFields.d6 : Array Bool := #[true, true, true, true, true, true, false, false, false, false, false]
abbrev spec_ReadFields.d7 : Array Bool := #[true, true, true, true, true, true, true, false, false, false, false]
abbrev spec_ReadFields.d8 : Array Bool := #[true, true, true, true, true, true, true, true, true, true, false]
abbrev spec_ReadFields.d9 : Array Bool := #[true, true, true, true, true, true, true, true, false, false, false]
abbrev spec_ReadFields.d10 : Array Bool := #[true, true, true, true, true, true, true, false, false, true, false]
abbrev spec_ReadFields.d11 : Array Bool := #[true, true, true, true, true, true, true, true, true, false, false]
abbrev spec_ReadFields.d12 : Array Bool := #[true, true, true, true, true, true, true, true, false, true, false]
abbrev spec_ReadFields.d13 : Array Bool := #[true, true, true, true, true, true, true, true, true, true, true]
mutual
def spec_ReadFields.l0 : Nat → ByteArray → List (S43) → Int → Option ((List (S43)) × Int × Bool)
 | 0, _, _, _ => none
 | k + 1, x0, x5, x6 => (spec_l4Line.f k x0 x6).bind fun bt104 => (if bt104.2.2 = true then (if bt104.1.toList = ([] : List UInt8) then (some (x5, bt104.2.1, true)) else (spec_ReadFields.l1 k x0 x5 bt104.2.1 bt104.1 0)) else (some ((([] : List (S43))), 0, false)))
def spec_ReadFields.j2 : Nat → ByteArray → List (S43) → Int → ByteArray → Int → Option ((List (S43)) × Int × Bool)
 | 0, _, _, _, _, _ => none
 | k + 1, x0, x5, x6, x7, x10 => if x10 = (x7.size : Int) then (spec_ReadFields.j3 k x0 x5 x6 x7 x10 true) else (spec_ReadFields.j3 k x0 x5 x6 x7 x10 ((x5.length : Int) == 30))
def spec_ReadFields.j3 : Nat → ByteArray → List (S43) → Int → ByteArray → Int → Bool → Option ((List (S43)) × Int × Bool)
 | 0, _, _, _, _, _, _ => none
 | k + 1, x0, x5, x6, x7, x10, x48 => if x48 = true then (some ((([] : List (S43))), 0, false)) else (if 0 ≤ x10 then (if x10 ≤ (x7.size : Int) then (if 0 ≤ (wrap64 (x10 + 1)) then (if (wrap64 (x10 + 1)) ≤ (x7.size : Int) then ((spec_Trimmed.f k (x7.extract ((wrap64 (x10 + 1)) : Int).toNat x7.size)).bind fun t113 => ((spec_l4Field.f k (x7.extract 0 (x10 : Int).toNat) t113).bind fun t115 => (if t115 = true then (if x5.length < 4398046511104 then (spec_ReadFields.l0 k x0 (x5 ++ [(⟨x7.extract 0 (x10 : Int).toNat, t113⟩ : S43)]) x6) else (none)) else (some ((([] : List (S43))), 0, false))))) else (none)) else (none)) else (none)) else (none))
def spec_ReadFields.l1 : Nat → ByteArray → List (S43) → Int → ByteArray → Int → Option ((List (S43)) × Int × Bool)
 | 0, _, _, _, _, _ => none
 | k + 1, x0, x5, x6, x7, x10 => if x10 < (x7.size : Int) then (if 0 ≤ x10 then (if (bt x7 x10) = 58 then (spec_ReadFields.j2 k x0 x5 x6 x7 x10) else (spec_ReadFields.l1 k x0 x5 x6 x7 (wrap64 (x10 + 1)))) else (none)) else (spec_ReadFields.j2 k x0 x5 x6 x7 x10)
end
def spec_ReadFields.f (k : Nat) (a0 : ByteArray) : Option ((List (S43)) × Int × Bool) := spec_ReadFields.l0 k a0 (([] : List (S43))) 0
theorem spec_ReadFields.mono_l : ∀ k, (∀ y0 y1 y2, LeO (spec_ReadFields.l0 k y0 y1 y2) (spec_ReadFields.l0 (k + 1) y0 y1 y2)) ∧ (∀ y0 y1 y2 y3 y4, LeO (spec_ReadFields.j2 k y0 y1 y2 y3 y4) (spec_ReadFields.j2 (k + 1) y0 y1 y2 y3 y4)) ∧ (∀ y0 y1 y2 y3 y4 y5, LeO (spec_ReadFields.j3 k y0 y1 y2 y3 y4 y5) (spec_ReadFields.j3 (k + 1) y0 y1 y2 y3 y4 y5)) ∧ (∀ y0 y1 y2 y3 y4, LeO (spec_ReadFields.l1 k y0 y1 y2 y3 y4) (spec_ReadFields.l1 (k + 1) y0 y1 y2 y3 y4))
 | 0 => ⟨fun _ _ _ r h => by simp [spec_ReadFields.l0] at h, fun _ _ _ _ _ r h => by simp [spec_ReadFields.j2] at h, fun _ _ _ _ _ _ r h => by simp [spec_ReadFields.j3] at h, fun _ _ _ _ _ r h => by simp [spec_ReadFields.l1] at h⟩
 | k + 1 => by
  obtain ⟨ih0, ih1, ih2, ih3⟩ := spec_ReadFields.mono_l k
  refine ⟨?_, ?_, ?_, ?_⟩
  ·
   intro y0 y1 y2
   unfold spec_ReadFields.l0
   repeat' first
   | (with_reducible exact ih0 _ _ _)
   | (with_reducible exact ih1 _ _ _ _ _)
   | (with_reducible exact ih2 _ _ _ _ _ _)
   | (with_reducible exact ih3 _ _ _ _ _)
   | (with_reducible exact spec_Trimmed.mono _ _)
   | (with_reducible exact spec_l4Field.mono _ _ _)
   | (with_reducible exact spec_l4Line.mono _ _ _)
   | (with_reducible exact LeO.refl _)
   | (with_reducible exact LeO.none _)
   | (with_reducible refine LeO.ite ?_ ?_)
   | (with_reducible refine LeO.bind ?_ (fun _ => ?_))
   | exact ih0 _ _ _
   | exact ih1 _ _ _ _ _
   | exact ih2 _ _ _ _ _ _
   | exact ih3 _ _ _ _ _
   | exact spec_Trimmed.mono _ _
   | exact spec_l4Field.mono _ _ _
   | exact spec_l4Line.mono _ _ _
   | exact LeO.none _
   | refine LeO.ite ?_ ?_
   | refine LeO.bind ?_ (fun _ => ?_)
  ·
   intro y0 y1 y2 y3 y4
   unfold spec_ReadFields.j2
   repeat' first
   | (with_reducible exact ih0 _ _ _)
   | (with_reducible exact ih1 _ _ _ _ _)
   | (with_reducible exact ih2 _ _ _ _ _ _)
   | (with_reducible exact ih3 _ _ _ _ _)
   | (with_reducible exact spec_Trimmed.mono _ _)
   | (with_reducible exact spec_l4Field.mono _ _ _)
   | (with_reducible exact spec_l4Line.mono _ _ _)
   | (with_reducible exact LeO.refl _)
   | (with_reducible exact LeO.none _)
   | (with_reducible refine LeO.ite ?_ ?_)
   | (with_reducible refine LeO.bind ?_ (fun _ => ?_))
   | exact ih0 _ _ _
   | exact ih1 _ _ _ _ _
   | exact ih2 _ _ _ _ _ _
   | exact ih3 _ _ _ _ _
   | exact spec_Trimmed.mono _ _
   | exact spec_l4Field.mono _ _ _
   | exact spec_l4Line.mono _ _ _
   | exact LeO.none _
   | refine LeO.ite ?_ ?_
   | refine LeO.bind ?_ (fun _ => ?_)
  ·
   intro y0 y1 y2 y3 y4 y5
   unfold spec_ReadFields.j3
   repeat' first
   | (with_reducible exact ih0 _ _ _)
   | (with_reducible exact ih1 _ _ _ _ _)
   | (with_reducible exact ih2 _ _ _ _ _ _)
   | (with_reducible exact ih3 _ _ _ _ _)
   | (with_reducible exact spec_Trimmed.mono _ _)
   | (with_reducible exact spec_l4Field.mono _ _ _)
   | (with_reducible exact spec_l4Line.mono _ _ _)
   | (with_reducible exact LeO.refl _)
   | (with_reducible exact LeO.none _)
   | (with_reducible refine LeO.ite ?_ ?_)
   | (with_reducible refine LeO.bind ?_ (fun _ => ?_))
   | exact ih0 _ _ _
   | exact ih1 _ _ _ _ _
   | exact ih2 _ _ _ _ _ _
   | exact ih3 _ _ _ _ _
   | exact spec_Trimmed.mono _ _
   | exact spec_l4Field.mono _ _ _
   | exact spec_l4Line.mono _ _ _
   | exact LeO.none _
   | refine LeO.ite ?_ ?_
   | refine LeO.bind ?_ (fun _ => ?_)
  ·
   intro y0 y1 y2 y3 y4
   unfold spec_ReadFields.l1
   repeat' first
   | (with_reducible exact ih0 _ _ _)
   | (with_reducible exact ih1 _ _ _ _ _)
   | (with_reducible exact ih2 _ _ _ _ _ _)
   | (with_reducible exact ih3 _ _ _ _ _)
   | (with_reducible exact spec_Trimmed.mono _ _)
   | (with_reducible exact spec_l4Field.mono _ _ _)
   | (with_reducible exact spec_l4Line.mono _ _ _)
   | (with_reducible exact LeO.refl _)
   | (with_reducible exact LeO.none _)
   | (with_reducible refine LeO.ite ?_ ?_)
   | (with_reducible refine LeO.bind ?_ (fun _ => ?_))
   | exact ih0 _ _ _
   | exact ih1 _ _ _ _ _
   | exact ih2 _ _ _ _ _ _
   | exact ih3 _ _ _ _ _
   | exact spec_Trimmed.mono _ _
   | exact spec_l4Field.mono _ _ _
   | exact spec_l4Line.mono _ _ _
   | exact LeO.none _
   | refine LeO.ite ?_ ?_
   | refine LeO.bind ?_ (fun _ => ?_)
theorem spec_ReadFields.mono : ∀ a0 k, LeO (spec_ReadFields.f k a0) (spec_ReadFields.f (k + 1) a0) := by
 intro a0 k
 obtain ⟨ih0, ih1, ih2, ih3⟩ := spec_ReadFields.mono_l k
 unfold spec_ReadFields.f
 repeat' first
   | (with_reducible exact ih0 _ _ _)
   | (with_reducible exact ih1 _ _ _ _ _)
   | (with_reducible exact ih2 _ _ _ _ _ _)
   | (with_reducible exact ih3 _ _ _ _ _)
   | (with_reducible exact spec_Trimmed.mono _ _)
   | (with_reducible exact spec_l4Field.mono _ _ _)
   | (with_reducible exact spec_l4Line.mono _ _ _)
   | (with_reducible exact LeO.refl _)
   | (with_reducible exact LeO.none _)
   | (with_reducible refine LeO.ite ?_ ?_)
   | (with_reducible refine LeO.bind ?_ (fun _ => ?_))
   | exact ih0 _ _ _
   | exact ih1 _ _ _ _ _
   | exact ih2 _ _ _ _ _ _
   | exact ih3 _ _ _ _ _
   | exact spec_Trimmed.mono _ _
   | exact spec_l4Field.mono _ _ _
   | exact spec_l4Line.mono _ _ _
   | exact LeO.none _
   | refine LeO.ite ?_ ?_
   | refine LeO.bind ?_ (fun _ => ?_)
def spec_ReadFields.T14 : Bool × List (List Nat × List Nat) := (true, [([], []), ([], []), ([0, 1], [0, 1]), ([], []), ([], []), ([4], [4]), ([3, 5], [3, 5]), ([6], [6]), ([2, 7], [2, 7]), ([], []), ([9, 8, 7, 0, 1, 2, 3, 4, 5, 6, 7, 8, 9], [8, 9])])
def spec_ReadFields.B14 : List Nat := [0, 0, 3, 0, 0, 16, 56, 120, 255, 0, 1023]
theorem spec_ReadFields.tab14 : rtab .any (opsOf Tryd.f15 14) = spec_ReadFields.T14 := by kernel_rfl
theorem spec_ReadFields.bits14 : waitsOk spec_ReadFields.T14.2 spec_ReadFields.B14 = true := by kernel_rfl
set_option maxHeartbeats 8000000 in
set_option maxRecDepth 100000 in
theorem spec_ReadFields.calls (k : Nat) (a0 : ByteArray) (r1 : List (S43)) (r2 : Int) (r3 : Bool) (w : World) (h : spec_ReadFields.f k a0 = some (r1, r2, r3)) :
  Calls Tryd.prog 15 #[.string a0] w fun e w' => ∃ v0_ : Value, e = .returned (.tuple #[v0_, .int .i64 r2, .bool r3]) ∧ Kd.R k43 43 w' w.heap.size (fun _ => True) v0_ r1 ∧ Below w.heap.size w w' := by
 have hu43 := Tryd.underlying43
 have HB := Aside0.mk (Below.refl w.heap.size w)
 have H : (spec_ReadFields.l0 k a0 (([] : List (S43))) 0) = some (r1, r2, r3) := h
 clear h
 obtain ⟨y101, hy101⟩ : ∃ y_ : List (S43), y_ = (([] : List (S43))) := ⟨_, rfl⟩
 replace H : (spec_ReadFields.l0 k a0 y101 0) = some (r1, r2, r3) := by first | (rw [hy101]; with_reducible exact H) | (have H2_ := (Option.bind_some _ _).symm.trans H; rw [hy101]; with_reducible exact H2_) | (have H2_ := (Option.bind_some _ _).symm.trans H; with_reducible exact H2_) | with_reducible exact H | (rw [hy101]; exact H) | exact H
 have Ny101 := Aside0.mk hy101
 clear hy101
 have H' := Aside0.mk H
 clear H
 go_enter Tryd.func15, Tryd.ntmps15
 go_wp2_with (first | ((with_reducible refine gate_dst (N := 12) rfl ?_); (try (refine gate_guard (by rfl) ?_; dsimp only)); refine Kd.R_lit k43 _ 43 ?hg (N := 12) ?hd (xs := ([] : List (S43))) (inner := []) (ok := fun _ => True) (okp := fun _ => True) ?hr ?hp (fun _ hk => hk) trivial (Below.refl _ _) (Nat.le_refl _) (by simp) ?_; (case hd => rfl); (case hg => rfl); (case hr => first | (go_simp; done) | (go_simp; rfl)); (case hp => exact (Reps.none _ _)); intro v102 w2 ho3 hb hg_ hnew_; clear hg_ hnew_; (first | rw [← Ny101.out] at ho3 | (simp only [Int.reduceToNat] at ho3; rw [← Ny101.out] at ho3)); have HO103 := Aside0.mk (Kd.R_lower ho3 (below_size bh)); replace HB := Aside0.mk (below_step bh hb); clear hb ho3))
 go_loopg [5, 6] k (fun kq v5 v6 w' => ∃ (x5_1 : List (S43)) (x6_1 : Int), v6 = .int .i64 x6_1 ∧ Aside0 (spec_ReadFields.l0 kq a0 x5_1 x6_1 = some (r1, r2, r3)) ∧ Aside0 (kq ≤ k) ∧ Aside0 (Kd.R k43 43 w' w.heap.size (fun _ => True) v5 x5_1) ∧ Aside0 (Below w.heap.size w w'))
 case atStart => exact ⟨(y101), (0), (by first | rfl | (simp; done) | (simp [*]; done)), H', ⟨Nat.le_refl _⟩, ⟨by (with_reducible repeat (first | apply Kd.R_alloc | apply Kd.R_drewN | apply Kd.R_drew)); exact HO103.out⟩, ⟨bh⟩⟩
 case round =>
  clear H'
  try clear c1
  try clear p2
  obtain ⟨x5_1, x6_1, rfl, HA, HK1, HO_5, HB⟩ := hrel
  cases gk with
  | zero => exact absurd HA.out (by simp [spec_ReadFields.l0])
  | succ k1 =>
   have H := HA.out
   clear HA
   simp only [spec_ReadFields.l0] at H
   obtain ⟨⟨t104, t105, t106⟩, A40, H⟩ := Option.bind_eq_some_iff.mp H
   try dsimp only at H
   have A4 := Aside0.mk A40
   clear A40
   by_cases c5 : t106 = true
   ·
    subst c5
    rw [if_pos rfl] at H
    by_cases c6 : t104.toList = ([] : List UInt8)
    ·
     rw [if_pos c6] at H
     have c6b0 : (t104.toList == ([] : List UInt8)) = true := beq_iff_eq.mpr c6
     have c6b1 : (t104.toList != ([] : List UInt8)) = false := bne_eq_false_iff_eq.mpr c6
     clear c6
     simp only [Option.some.injEq, Prod.mk.injEq] at H
     obtain ⟨rfl, rfl, rfl⟩ := H
     go_wp2_with (first | ((with_reducible refine gate_callee (f := 38) rfl ?_); refine goesL_ (some 16) rfl rfl Tryd.func38 (by kernel_rfl) rfl #[.string a0, .int .i64 x6_1] rfl (by (try simp only [List.map_toArray, List.map_cons, List.map_nil]); first | done | rfl | (simp only [ne_nil_isEmpty]; rfl) | (simp only [List.length_drop, List.length_take]; rfl)) ?_; (with_reducible refine (spec_l4Line.calls k1 a0 x6_1 t104 t105 true _ A4.out).mono ?_); rintro e w' ⟨rfl, ⟨nd, rfl⟩⟩; refine ⟨_, rfl, ?_⟩))
     go_ret3
     exact ⟨_, er, by (with_reducible repeat (first | apply Kd.R_alloc | apply Kd.R_drewN | apply Kd.R_drew)); exact HO_5.out, bh⟩
    ·
     rw [if_neg c6] at H
     have c6b0 : (t104.toList == ([] : List UInt8)) = false := beq_eq_false_iff_ne.mpr c6
     have c6b1 : (t104.toList != ([] : List UInt8)) = true := bne_iff_ne.mpr c6
     have HC7 := Aside0.mk H
     clear H
     go_upto_block 2 with (first | ((with_reducible refine gate_callee (f := 38) rfl ?_); refine goesL_ (some 16) rfl rfl Tryd.func38 (by kernel_rfl) rfl #[.string a0, .int .i64 x6_1] rfl (by (try simp only [List.map_toArray, List.map_cons, List.map_nil]); first | done | rfl | (simp only [ne_nil_isEmpty]; rfl) | (simp only [List.length_drop, List.length_take]; rfl)) ?_; (with_reducible refine (spec_l4Line.calls k1 a0 x6_1 t104 t105 true _ A4.out).mono ?_); rintro e w' ⟨rfl, ⟨nd, rfl⟩⟩; refine ⟨_, rfl, ?_⟩))
     (try simp only [Act.put, List.setIfInBounds_toArray, List.set_cons_zero, List.set_cons_succ])
     go_cut [10] (fun v10 wc => ∃ (kq : Nat) (x10_6 : Int), v10 = .int .i64 x10_6 ∧ Aside0 (spec_ReadFields.j2 kq a0 x5_1 t105 t104 x10_6 = some (r1, r2, r3)) ∧ Aside0 (kq ≤ k1) ∧ Aside0 (Kd.R k43 43 wc w.heap.size (fun _ => True) u5 x5_1) ∧ Aside0 (Below w.heap.size w wc))
     case first =>
      have H := HC7.out
      clear HC7
      have H' := Aside0.mk H
      clear H
      go_wp2
      go_loopg [10] k1 (fun kq v10 w' => ∃ (x10_2 : Int), v10 = .int .i64 x10_2 ∧ Aside0 (spec_ReadFields.l1 kq a0 x5_1 t105 t104 x10_2 = some (r1, r2, r3)) ∧ Aside0 (kq ≤ k1) ∧ Aside0 (Kd.R k43 43 w' w.heap.size (fun _ => True) u5 x5_1) ∧ Aside0 (Below w.heap.size w w'))
      case atStart => exact ⟨(0), (by first | rfl | (simp; done) | (simp [*]; done)), H', ⟨Nat.le_refl _⟩, ⟨by (with_reducible repeat (first | apply Kd.R_alloc | apply Kd.R_drewN | apply Kd.R_drew)); exact HO_5.out⟩, ⟨bh⟩⟩
      case round =>
       clear H'
       try clear c1
       try clear p2
       try clear c3
       try clear c5
       try clear c6
       try clear c6b0
       try clear c6b1
       try clear p2
       obtain ⟨x10_2, rfl, HA, HK2, HO_5, HB⟩ := hrel
       cases gk with
       | zero => exact absurd HA.out (by simp [spec_ReadFields.l1])
       | succ k2 =>
        have H := HA.out
        clear HA
        simp only [spec_ReadFields.l1] at H
        by_cases c8 : x10_2 < (t104.size : Int)
        ·
         rw [if_pos c8] at H
         have c8b0 : decide (x10_2 < (t104.size : Int)) = true := decide_eq_true c8
         clear c8
         (first | rw [c8b0] | (simp only [i64_w, i32_w]; rw [c8b0]) | skip)
         by_cases c9 : 0 ≤ x10_2
         ·
          rw [if_pos c9] at H
          have c9b0 : decide (0 ≤ x10_2) = true := decide_eq_true c9
          clear c9
          by_cases c11 : (bt t104 x10_2) = 58
          ·
           rw [if_pos c11] at H
           have c11b0 : ((bt t104 x10_2) == 58) = true := beq_iff_eq.mpr c11
           have c11b1 : ((bt t104 x10_2) != 58) = false := bne_eq_false_iff_eq.mpr c11
           clear c11
           have H' := Aside0.mk H
           clear H
           have p10 : 0 ≤ (x10_2 : Int) := of_decide_eq_true (by first | (with_reducible assumption) | assumption)
           have q10 : x10_2 < (t104.size : Int) := of_decide_eq_true (by first | (with_reducible assumption) | assumption)
           have hx10 := bt_at t104 x10_2
           replace p10 := eq_true p10
           replace q10 := eq_true q10
           go_wp2
           go_meet
           case rel => exact ⟨_, (x10_2), (by first | rfl | (simp; done) | (simp [*]; done)), H', ⟨by have := HK1.out; have := HK2.out; first | omega | exact Nat.le_refl _⟩, ⟨by (with_reducible repeat (first | apply Kd.R_alloc | apply Kd.R_drewN | apply Kd.R_drew)); exact HO_5.out⟩, ⟨bh⟩⟩
          ·
           rw [if_neg c11] at H
           have c11b0 : ((bt t104 x10_2) == 58) = false := beq_eq_false_iff_ne.mpr c11
           have c11b1 : ((bt t104 x10_2) != 58) = true := bne_iff_ne.mpr c11
           have H' := Aside0.mk H
           clear H
           have p10 : 0 ≤ (x10_2 : Int) := of_decide_eq_true (by first | (with_reducible assumption) | assumption)
           have q10 : x10_2 < (t104.size : Int) := of_decide_eq_true (by first | (with_reducible assumption) | assumption)
           have hx10 := bt_at t104 x10_2
           replace p10 := eq_true p10
           replace q10 := eq_true q10
           go_wp2
           go_roundg k2
           case measure => have := HK1.out; have := HK2.out; omega
           case rel => exact ⟨(wrap64 (x10_2 + 1)), (by first | rfl | (simp; done) | (simp [*]; done)), H', ⟨by have := HK1.out; have := HK2.out; omega⟩, ⟨by (with_reducible repeat (first | apply Kd.R_alloc | apply Kd.R_drewN | apply Kd.R_drew)); exact HO_5.out⟩, ⟨bh⟩⟩
         ·
          rw [if_neg c9] at H
          exact absurd H (by simp)
        ·
         rw [if_neg c8] at H
         have c8b0 : decide (x10_2 < (t104.size : Int)) = false := decide_eq_false c8
         clear c8
         (first | rw [c8b0] | (simp only [i64_w, i32_w]; rw [c8b0]) | skip)
         have H' := Aside0.mk H
         clear H
         go_wp2
         go_meet
         case rel => exact ⟨_, (x10_2), (by first | rfl | (simp; done) | (simp [*]; done)), H', ⟨by have := HK1.out; have := HK2.out; first | omega | exact Nat.le_refl _⟩, ⟨by (with_reducible repeat (first | apply Kd.R_alloc | apply Kd.R_drewN | apply Kd.R_drew)); exact HO_5.out⟩, ⟨bh⟩⟩
     case rest =>
      clear HC7
      try clear c1
      try clear p1
      try clear q1
      try clear hx1
      try clear p2
      try clear c3
      try clear c5
      try clear c6
      try clear c6b0
      try clear c6b1
      try clear p6
      try clear c8
      try clear c8b0
      try clear c9
      try clear c9b0
      try clear p10
      try clear q10
      try clear hx10
      try clear c11
      try clear c11b0
      try clear c11b1
      try clear p10
      try clear p2
      try clear q10
      obtain ⟨kq, x10_6, rfl, HA, HJ6, HO_5, HB⟩ := hcut
      cases kq with
      | zero => exact absurd HA.out (by simp [spec_ReadFields.j2])
      | succ kj6 =>
       have H := HA.out
       clear HA
       simp only [spec_ReadFields.j2] at H
       have HC12 := Aside0.mk H
       clear H
       go_upto_region 12 with (fail)
       go_cut [48] (fun v48 wc => ∃ (kq : Nat) (x48_11 : Bool), v48 = .bool x48_11 ∧ Aside0 (spec_ReadFields.j3 kq a0 x5_1 t105 t104 x10_6 x48_11 = some (r1, r2, r3)) ∧ Aside0 (kq ≤ kj6) ∧ Aside0 (Kd.R k43 43 wc w.heap.size (fun _ => True) u5 x5_1) ∧ Aside0 (Below w.heap.size w wc))
       case first =>
        have H := HC12.out
        clear HC12
        by_cases c13 : x10_6 = (t104.size : Int)
        ·
         rw [if_pos c13] at H
         have c13b0 : (x10_6 == (t104.size : Int)) = true := beq_iff_eq.mpr c13
         have c13b1 : (x10_6 != (t104.size : Int)) = false := bne_eq_false_iff_eq.mpr c13
         clear c13
         (first | rw [c13b0] | (simp only [i64_w, i32_w]; rw [c13b0]) | skip)
         have H' := Aside0.mk H
         clear H
         go_wp2
         go_meet
         case rel => exact ⟨_, (true), (by first | rfl | (simp; done) | (simp [*]; done)), H', ⟨by have := HK1.out; have := HJ6.out; first | omega | exact Nat.le_refl _⟩, ⟨by (with_reducible repeat (first | apply Kd.R_alloc | apply Kd.R_drewN | apply Kd.R_drew)); exact HO_5.out⟩, ⟨bh⟩⟩
        ·
         rw [if_neg c13] at H
         have c13b0 : (x10_6 == (t104.size : Int)) = false := beq_eq_false_iff_ne.mpr c13
         have c13b1 : (x10_6 != (t104.size : Int)) = true := bne_iff_ne.mpr c13
         (first | rw [c13b0] | (simp only [i64_w, i32_w]; rw [c13b0]) | skip)
         have H' := Aside0.mk H
         clear H
         obtain ⟨Ao14, co14, eo14⟩ := Kd.R_slice HO_5.out
         subst eo14
         go_wp2
         go_meet
         case rel => exact ⟨_, (((x5_1.length : Int) == 30)), (by first | rfl | (simp; done) | (simp [*]; done)), H', ⟨by have := HK1.out; have := HJ6.out; first | omega | exact Nat.le_refl _⟩, ⟨by (with_reducible repeat (first | apply Kd.R_alloc | apply Kd.R_drewN | apply Kd.R_drew)); exact HO_5.out⟩, ⟨bh⟩⟩
       case rest =>
        clear HC12
        try clear c1
        try clear p1
        try clear q1
        try clear hx1
        try clear p2
        try clear c3
        try clear c5
        try clear c6
        try clear c6b0
        try clear c6b1
        try clear p6
        try clear c8
        try clear c8b0
        try clear c9
        try clear c9b0
        try clear p10
        try clear q10
        try clear hx10
        try clear c11
        try clear c11b0
        try clear c11b1
        try clear c13
        try clear c13b0
        try clear c13b1
        try clear p1
        try clear p10
        try clear p2
        try clear p6
        try clear q1
        try clear q10
        obtain ⟨kq, x48_11, rfl, HA, HJ11, HO_5, HB⟩ := hcut
        cases kq with
        | zero => exact absurd HA.out (by simp [spec_ReadFields.j3])
        | succ kj11 =>
         have H := HA.out
         clear HA
         simp only [spec_ReadFields.j3] at H
         by_cases c15 : x48_11 = true
         ·
          subst c15
          have H1 : (some ((([] : List (S43))), 0, false)) = some (r1, r2, r3) := by rw [if_pos rfl] at H; exact H
          clear H
          have H := H1
          clear H1
          obtain ⟨y110, hy110⟩ : ∃ y_ : List (S43), y_ = (([] : List (S43))) := ⟨_, rfl⟩
          replace H : (some (y110, 0, false)) = some (r1, r2, r3) := by first | (rw [hy110]; with_reducible exact H) | (have H2_ := (Option.bind_some _ _).symm.trans H; rw [hy110]; with_reducible exact H2_) | (have H2_ := (Option.bind_some _ _).symm.trans H; with_reducible exact H2_) | with_reducible exact H | (rw [hy110]; exact H) | exact H
          have Ny110 := Aside0.mk hy110
          clear hy110
          simp only [Option.some.injEq, Prod.mk.injEq] at H
          obtain ⟨rfl, rfl, rfl⟩ := H
          go_wp2_with (first | ((with_reducible refine gate_dst (N := 49) rfl ?_); (try (refine gate_guard (by rfl) ?_; dsimp only)); refine Kd.R_lit k43 _ 43 ?hg (N := 49) ?hd (xs := ([] : List (S43))) (inner := []) (ok := fun _ => True) (okp := fun _ => True) ?hr ?hp (fun _ hk => hk) trivial (Below.refl _ _) (Nat.le_refl _) (by simp) ?_; (case hd => rfl); (case hg => rfl); (case hr => first | (go_simp; done) | (go_simp; rfl)); (case hp => exact (Reps.none _ _)); intro v111 w16 ho17 hb hg_ hnew_; clear hg_ hnew_; (first | rw [← Ny110.out] at ho17 | (simp only [Int.reduceToNat] at ho17; rw [← Ny110.out] at ho17)); have HO112 := Aside0.mk (Kd.R_lower (Kd.R_new' ho17 (Kd.R_lt (by (with_reducible repeat (first | apply Kd.R_alloc | apply Kd.R_drewN | apply Kd.R_drew)); exact HO_5.out))) (below_size bh)); replace HO_5 := Aside0.mk (Kd.R_elder' (by (with_reducible repeat (first | apply Kd.R_alloc | apply Kd.R_drewN | apply Kd.R_drew)); exact HO_5.out) (Kd.R_base ho17) hb); replace HB := Aside0.mk (below_step bh hb); clear hb ho17))
          go_ret3
          exact ⟨_, er, by (with_reducible repeat (first | apply Kd.R_alloc | apply Kd.R_drewN | apply Kd.R_drew)); exact Kd.R_mono HO112.out (fun _ hk => trivial), bh⟩
         ·
          replace c15 := Bool.eq_false_iff.mpr c15
          subst c15
          rw [if_neg (show ¬ (false = true) by decide)] at H
          by_cases c18 : 0 ≤ x10_6
          ·
           rw [if_pos c18] at H
           have c18b0 := eq_true c18
           have c18b1 : decide (0 ≤ x10_6) = true := decide_eq_true c18
           clear c18
           by_cases c19 : x10_6 ≤ (t104.size : Int)
           ·
            rw [if_pos c19] at H
            have c19b0 := eq_true c19
            have c19b1 : decide (x10_6 ≤ (t104.size : Int)) = true := decide_eq_true c19
            clear c19
            obtain ⟨ji20, hji20⟩ : ∃ j_ : Int, (wrap64 (x10_6 + 1)) = j_ := ⟨_, rfl⟩
            first | (rw [hji20] at H) | (simp only [hji20] at H)
            have hji20w : (IntKind.i64.wrap (x10_6 + 1)) = ji20 := (i64_w _).trans hji20
            by_cases c21 : 0 ≤ (ji20)
            ·
             rw [if_pos c21] at H
             have c21b0 := eq_true c21
             have c21b1 : decide (0 ≤ (ji20)) = true := decide_eq_true c21
             clear c21
             by_cases c22 : (ji20) ≤ (t104.size : Int)
             ·
              rw [if_pos c22] at H
              have c22b0 := eq_true c22
              have c22b1 : decide ((ji20) ≤ (t104.size : Int)) = true := decide_eq_true c22
              clear c22
              obtain ⟨t113, A230, H⟩ := Option.bind_eq_some_iff.mp H
              try dsimp only at H
              have A23 := Aside0.mk A230
              clear A230
              obtain ⟨t115, A240, H⟩ := Option.bind_eq_some_iff.mp H
              try dsimp only at H
              have A24 := Aside0.mk A240
              clear A240
              by_cases c25 : t115 = true
              ·
               subst c25
               rw [if_pos rfl] at H
               by_cases c26 : x5_1.length < 4398046511104
               ·
                rw [if_pos c26] at H
                have LMc26 := Aside0.mk c26
                clear c26
                obtain ⟨y116, hy116⟩ : ∃ y_ : List (S43), y_ = (x5_1 ++ [(⟨t104.extract 0 (x10_6 : Int).toNat, t113⟩ : S43)]) := ⟨_, rfl⟩
                replace H : (spec_ReadFields.l0 kj11 a0 y116 t105) = some (r1, r2, r3) := by first | (rw [hy116]; with_reducible exact H) | (have H2_ := (Option.bind_some _ _).symm.trans H; rw [hy116]; with_reducible exact H2_) | (have H2_ := (Option.bind_some _ _).symm.trans H; with_reducible exact H2_) | with_reducible exact H | (rw [hy116]; exact H) | exact H
                have Ny116 := Aside0.mk hy116
                clear hy116
                have H' := Aside0.mk H
                clear H
                try go_wp2
                replace HO_5 := Aside0.mk (Kd.R_drew HO_5.out)
                replace HB := Aside0.mk (below_drew1 HB.out)
                refine start_ (n := 11) (S := fun w' => True) (ds := []) spec_ReadFields.d0 (by kernel_rfl) rfl rfl trivial (fun hHeld => ?_); refine with_tabW spec_ReadFields.tab14 spec_ReadFields.bits14 (fun HT_ HW_ => ?_)
                generalize wc.drew = w27 at HO_5 HB hHeld ⊢
                refine pu 0 50 spec_ReadFields.d1 HT_ ?_
                refine pu 1 51 spec_ReadFields.d2 HT_ ?_
                refine pu 2 52 spec_ReadFields.d3 HT_ ?_
                refine pu 3 53 spec_ReadFields.d4 HT_ ?_
                refine pu 4 54 spec_ReadFields.d5 HT_ ?_
                refine pu 5 55 spec_ReadFields.d6 HT_ ?_
                refine pu 6 56 spec_ReadFields.d7 HT_ ?_
                refine join_ (σ := Nat) 1 spec_ReadFields.d8 (fun s_ => [(57, .string t113), (11, .pointer (some ⟨s_, 0, none⟩)), (58, .agg #[.string (t104.extract 0 (x10_6 : Int).toNat), .string t113])]) (fun s_ w' => (Kd.R k43 43 w' w.heap.size (fun k_ => k_ ≠ s_) u5 x5_1) ∧ (w'.heap[s_]? = some (.cells #[.string (⟨#[]⟩ : ByteArray), .string (⟨#[]⟩ : ByteArray)] 43 (0, 0))) ∧ (w.heap.size ≤ s_) ∧ (w.heap.size ≤ s_) ∧ (Below w.heap.size w w')) ?_ ?_
                rotate_left
                ·
                 intro hCont
                 refine two_ (i := 7) (j := 9) (Ni := some 57) (Nj := some 11) spec_ReadFields.d9 spec_ReadFields.d10 rfl rfl rfl rfl (two_of HT_.out (by kernel_rfl)) (by decide) (by decide) (fun K hK => ?_) (fun K hK => ?_)
                 ·
                  skip
                  refine goes_ Tryd.func39 (by kernel_rfl) rfl #[.string (t104.extract ((ji20) : Int).toNat t104.size)] (by rfl) rfl rfl (by (try simp only [List.map_toArray, List.map_cons, List.map_nil]); first | done | (simp only [hji20]; rfl) | rfl | (simp only [List.length_drop, List.length_take]; rfl)) ?_
                  with_reducible refine (spec_Trimmed.calls kj11 (t104.extract ((ji20) : Int).toNat t104.size) t113 _ A23.out).mono ?_
                  rintro e w' ⟨rfl, ⟨nd, rfl⟩⟩
                  refine ⟨_, rfl, ?_⟩
                  refine hK.out _ _ trivial (fun hHeld => ?_)
                  clear hK K
                  refine nm 57 ?_
                  refine pu 8 58 spec_ReadFields.d11 HT_ ?_
                  refine onx 9 11 spec_ReadFields.d8 HT_ (fun K hK => ?_)
                  refine box_step ?hg (N := 11) ?hd (cs := #[.string (⟨#[]⟩ : ByteArray), .string (⟨#[]⟩ : ByteArray)]) (t := 43) ?hr ?_; (case hd => rfl); (case hg => rfl); (case hr => first | (go_simp; done) | (go_simp; rfl))
                  intro gb114 hg w28 hbox hb
                  have BK114 := Aside0.mk (hbox)
                  have GW114 := Aside0.mk (bz hg)
                  have GE114 := Aside0.mk (bz hg)
                  replace HO_5 := Aside0.mk (Kd.R_below (Kd.R_elderB (by (with_reducible repeat (first | apply Kd.R_alloc | apply Kd.R_drewN | apply Kd.R_drew)); exact HO_5.out) gb114 (Nat.le_of_eq hg.symm)) hb)
                  replace HB := Aside0.mk (below_step bh hb)
                  clear hb hbox hg
                  refine hK.out _ _ trivial (fun hHeld => ?_)
                  clear hK K
                  refine nm 11 ?_
                  exact norm_ (by simp only [putAll, Act.put, List.setIfInBounds_toArray, List.set_cons_zero, List.set_cons_succ]) (hCont (gb114) _ ⟨(by (with_reducible repeat (first | apply Kd.R_alloc | apply Kd.R_drewN | apply Kd.R_drew)); exact Kd.R_mono HO_5.out (fun _ hk => hk.2)), bk, GW114.out, GE114.out, bh⟩)
                 ·
                  skip
                  refine box_step ?hg (N := 11) ?hd (cs := #[.string (⟨#[]⟩ : ByteArray), .string (⟨#[]⟩ : ByteArray)]) (t := 43) ?hr ?_; (case hd => rfl); (case hg => rfl); (case hr => first | (go_simp; done) | (go_simp; rfl))
                  intro gb114 hg w28 hbox hb
                  have BK114 := Aside0.mk (hbox)
                  have GW114 := Aside0.mk (bz hg)
                  have GE114 := Aside0.mk (bz hg)
                  replace HO_5 := Aside0.mk (Kd.R_below (Kd.R_elderB (by (with_reducible repeat (first | apply Kd.R_alloc | apply Kd.R_drewN | apply Kd.R_drew)); exact HO_5.out) gb114 (Nat.le_of_eq hg.symm)) hb)
                  replace HB := Aside0.mk (below_step bh hb)
                  clear hb hbox hg
                  refine hK.out _ _ trivial (fun hHeld => ?_)
                  clear hK K
                  refine nm 11 ?_
                  refine onx 7 57 spec_ReadFields.d12 HT_ (fun K hK => ?_)
                  refine goes_ Tryd.func39 (by kernel_rfl) rfl #[.string (t104.extract ((ji20) : Int).toNat t104.size)] (by rfl) rfl rfl (by (try simp only [List.map_toArray, List.map_cons, List.map_nil]); first | done | (simp only [hji20]; rfl) | rfl | (simp only [List.length_drop, List.length_take]; rfl)) ?_
                  with_reducible refine (spec_Trimmed.calls kj11 (t104.extract ((ji20) : Int).toNat t104.size) t113 _ A23.out).mono ?_
                  rintro e w' ⟨rfl, ⟨nd, rfl⟩⟩
                  refine ⟨_, rfl, ?_⟩
                  refine hK.out _ _ trivial (fun hHeld => ?_)
                  clear hK K
                  refine nm 57 ?_
                  refine pu 8 58 spec_ReadFields.d8 HT_ ?_
                  exact norm_ (by simp only [putAll, Act.put, List.setIfInBounds_toArray, List.set_cons_zero, List.set_cons_succ]) (hCont (gb114) _ ⟨(by (with_reducible repeat (first | apply Kd.R_alloc | apply Kd.R_drewN | apply Kd.R_drew)); exact Kd.R_mono HO_5.out (fun _ hk => hk.2)), bk, GW114.out, GE114.out, bh⟩)
                rintro gb114 w29 ⟨h0_, h1_, h2_, h3_, h4_⟩
                have n0_ : Aside0 (Kd.R k43 43 w29 w.heap.size (fun k_ => k_ ≠ gb114) u5 x5_1) := ⟨h0_⟩
                have n1_ : Aside0 (w29.heap[gb114]? = some (.cells #[.string (⟨#[]⟩ : ByteArray), .string (⟨#[]⟩ : ByteArray)] 43 (0, 0))) := ⟨h1_⟩
                have n2_ : Aside0 (w.heap.size ≤ gb114) := ⟨h2_⟩
                have n3_ : Aside0 (w.heap.size ≤ gb114) := ⟨h3_⟩
                have n4_ : Aside0 (Below w.heap.size w w29) := ⟨h4_⟩
                clear HO_5
                clear HB
                clear h0_ h1_ h2_ h3_ h4_
                have HO_5 := n0_
                have BK114 := n1_
                have GW114 := n2_
                have GE114 := n3_
                have HB := n4_
                clear n0_ n1_ n2_ n3_ n4_
                have hHeld := trivial
                refine norm_ (a' := ?_) ?_ ?_
                rotate_left
                ·
                 simp only [putAll, Act.put, List.setIfInBounds_toArray, List.set_cons_zero, List.set_cons_succ]
                 rfl
                refine one_ (i := 10) (N := none) spec_ReadFields.d13 rfl rfl (one_of HT_.out (by kernel_rfl)) (by decide) (fun K hK => ?_)
                have hs30 : w29.cell? ⟨gb114, 0, none⟩ = some (.string (⟨#[]⟩ : ByteArray)) := bc BK114 0
                have hfs30 := blk_frozen BK114.out 0
                have hs31 : w29.cell? ⟨gb114, 1, none⟩ = some (.string (⟨#[]⟩ : ByteArray)) := bc BK114 1
                have hfs31 := blk_frozen BK114.out 1
                refine skip_ (w1 := ?_) (by rfl) rfl ?_ ?_
                rotate_left
                ·
                 go_simp
                 rfl
                refine hK.out _ _ trivial (fun hHeld => ?_)
                clear hK K
                refine dn HT_ ?_
                obtain ⟨hcz32_0, hcz32_1⟩ := zcf2 BK114
                obtain ⟨hfz32_0, hfz32_1⟩ := zff2 BK114
                try go_wp2_with (first | ((with_reducible refine gate_callee (f := 30) rfl ?_); refine goesL_ (some 60) rfl rfl Tryd.func30 (by kernel_rfl) rfl #[.agg #[.string (t104.extract 0 (x10_6 : Int).toNat), .string t113]] rfl (by (try simp only [List.map_toArray, List.map_cons, List.map_nil]); first | done | rfl | (simp only [ne_nil_isEmpty]; rfl) | (simp only [List.length_drop, List.length_take]; rfl)) ?_; (with_reducible refine (spec_l4Field.calls kj11 (t104.extract 0 (x10_6 : Int).toNat) t113 true _ A24.out).mono ?_); rintro e w33 ⟨rfl, hb⟩; refine ⟨_, rfl, ?_⟩; replace HO_5 := Aside0.mk (Kd.R_below (by (with_reducible repeat (first | apply Kd.R_alloc | apply Kd.R_drewN | apply Kd.R_drew)); exact (Kd.R_mono (Kd.R_far (p := ⟨gb114, 1, none⟩) (Kd.R_far (p := ⟨gb114, 0, none⟩) (Kd.R_mono HO_5.out (fun k_ hk => (⟨hk, hk⟩ : _ ∧ k_ ≠ gb114))) (fun _ hk => hk.2) (.string (t104.extract 0 (x10_6 : Int).toNat))) (fun _ hk => hk.2) (.string t113)) (fun _ h_ => h_.1))) hb); replace BK114 := Aside0.mk (blk_below (g := gb114) (o := .cells #[.string (t104.extract 0 (x10_6 : Int).toNat), .string t113] 43 (0, 0)) bkp hb); replace HB := Aside0.mk (below_step bh hb); (try clear hb); (try clear hb2); (try clear hk); (try clear hi); obtain ⟨hcz34_0, hcz34_1⟩ := zcf2 BK114; obtain ⟨hfz34_0, hfz34_1⟩ := zff2 BK114) | ((with_reducible refine gate_builtin (b := .append) (xs := #[.tmp 63, .tmp 65]) rfl ?_); (try (refine gate_guard (by rfl) ?_; dsimp only)); at_builtin; refine Kd.R_append k43 (w0 := w) w.heap.size rfl (.tmp 63) (.tmp 65) 24 43 (.agg #[(.string ⟨#[]⟩), (.string ⟨#[]⟩)]) 32 rfl Tryd.underlying24 info43 rfl (by decide) (by omega) u5 x5_1 (⟨t104.extract 0 (x10_6 : Int).toNat, t113⟩ : S43) [.string (t104.extract 0 (x10_6 : Int).toNat), .string t113] (fun k_ => k_ ≠ gb114) (fun _ => False) rfl rfl ?aP (fun _ hk => hk.elim) ?aF ?aO ?aB ?aS ?aL ?_; (case aP => exact k43_mkM _ _ _ (⟨t104.extract 0 (x10_6 : Int).toNat, t113⟩ : S43)); (case aB => exact bh); (case aF => exact (fun k_ hk => Kd.freshB (g := gb114) (o := .cells #[.string (t104.extract 0 (x10_6 : Int).toNat), .string t113] 43 (0, 0)) bk k_ hk)); (case aO => exact (by (with_reducible repeat (first | apply Kd.R_alloc | apply Kd.R_drewN | apply Kd.R_drew)); exact HO_5.out)); (case aS => exact (below_size bh)); (case aL => have := LMc26.out; omega); intro v117 w35 ho hb hg hat; rw [← Ny116.out] at ho; have n0_ := Aside0.mk (blk_grown (g := gb114) (o := .cells #[.string (t104.extract 0 (x10_6 : Int).toNat), .string t113] 43 (0, 0)) bk hg (Kd.R_away HO_5.out (fun _ hk => hk))); have n1_ := Aside0.mk (hb); have n2_ := Aside0.mk (ho); clear BK114; clear HB; clear HO_5; have BK114 := n0_; have HB := n1_; have HO118 := n2_; clear n0_ n1_ n2_; clear ho hb hg hat))
                go_roundg kj11
                case measure => have := HK1.out; have := HJ6.out; have := HJ11.out; omega
                case rel => exact ⟨(y116), (t105), (by first | rfl | (simp; done) | (simp [*]; done)), H', ⟨by have := HK1.out; have := HJ6.out; have := HJ11.out; omega⟩, ⟨by (with_reducible repeat (first | apply Kd.R_alloc | apply Kd.R_drewN | apply Kd.R_drew)); exact Kd.R_mono HO118.out (fun _ hk => trivial)⟩, ⟨bh⟩⟩
               ·
                rw [if_neg c26] at H
                exact absurd H (by simp)
              ·
               replace c25 := Bool.eq_false_iff.mpr c25
               subst c25
               have H1 : (some ((([] : List (S43))), 0, false)) = some (r1, r2, r3) := by rw [if_neg (show ¬ (false = true) by decide)] at H; exact H
               clear H
               have H := H1
               clear H1
               obtain ⟨y119, hy119⟩ : ∃ y_ : List (S43), y_ = (([] : List (S43))) := ⟨_, rfl⟩
               replace H : (some (y119, 0, false)) = some (r1, r2, r3) := by first | (rw [hy119]; with_reducible exact H) | (have H2_ := (Option.bind_some _ _).symm.trans H; rw [hy119]; with_reducible exact H2_) | (have H2_ := (Option.bind_some _ _).symm.trans H; with_reducible exact H2_) | with_reducible exact H | (rw [hy119]; exact H) | exact H
               have Ny119 := Aside0.mk hy119
               clear hy119
               simp only [Option.some.injEq, Prod.mk.injEq] at H
               obtain ⟨rfl, rfl, rfl⟩ := H
               try go_wp2
               replace HO_5 := Aside0.mk (Kd.R_drew HO_5.out)
               replace HB := Aside0.mk (below_drew1 HB.out)
               refine start_ (n := 11) (S := fun w' => True) (ds := []) spec_ReadFields.d0 (by kernel_rfl) rfl rfl trivial (fun hHeld => ?_); refine with_tabW spec_ReadFields.tab14 spec_ReadFields.bits14 (fun HT_ HW_ => ?_)
               generalize wc.drew = w36 at HO_5 HB hHeld ⊢
               refine pu 0 50 spec_ReadFields.d1 HT_ ?_
               refine pu 1 51 spec_ReadFields.d2 HT_ ?_
               refine pu 2 52 spec_ReadFields.d3 HT_ ?_
               refine pu 3 53 spec_ReadFields.d4 HT_ ?_
               refine pu 4 54 spec_ReadFields.d5 HT_ ?_
               refine pu 5 55 spec_ReadFields.d6 HT_ ?_
               refine pu 6 56 spec_ReadFields.d7 HT_ ?_
               refine join_ (σ := Nat) 1 spec_ReadFields.d8 (fun s_ => [(57, .string t113), (11, .pointer (some ⟨s_, 0, none⟩)), (58, .agg #[.string (t104.extract 0 (x10_6 : Int).toNat), .string t113])]) (fun s_ w' => (Kd.R k43 43 w' w.heap.size (fun k_ => k_ ≠ s_) u5 x5_1) ∧ (w'.heap[s_]? = some (.cells #[.string (⟨#[]⟩ : ByteArray), .string (⟨#[]⟩ : ByteArray)] 43 (0, 0))) ∧ (w.heap.size ≤ s_) ∧ (w.heap.size ≤ s_) ∧ (Below w.heap.size w w')) ?_ ?_
               rotate_left
               ·
                intro hCont
                refine two_ (i := 7) (j := 9) (Ni := some 57) (Nj := some 11) spec_ReadFields.d9 spec_ReadFields.d10 rfl rfl rfl rfl (two_of HT_.out (by kernel_rfl)) (by decide) (by decide) (fun K hK => ?_) (fun K hK => ?_)
                ·
                 skip
                 refine goes_ Tryd.func39 (by kernel_rfl) rfl #[.string (t104.extract ((ji20) : Int).toNat t104.size)] (by rfl) rfl rfl (by (try simp only [List.map_toArray, List.map_cons, List.map_nil]); first | done | (simp only [hji20]; rfl) | rfl | (simp only [List.length_drop, List.length_take]; rfl)) ?_
                 with_reducible refine (spec_Trimmed.calls kj11 (t104.extract ((ji20) : Int).toNat t104.size) t113 _ A23.out).mono ?_
                 rintro e w' ⟨rfl, ⟨nd, rfl⟩⟩
                 refine ⟨_, rfl, ?_⟩
                 refine hK.out _ _ trivial (fun hHeld => ?_)
                 clear hK K
                 refine nm 57 ?_
                 refine pu 8 58 spec_ReadFields.d11 HT_ ?_
                 refine onx 9 11 spec_ReadFields.d8 HT_ (fun K hK => ?_)
                 refine box_step ?hg (N := 11) ?hd (cs := #[.string (⟨#[]⟩ : ByteArray), .string (⟨#[]⟩ : ByteArray)]) (t := 43) ?hr ?_; (case hd => rfl); (case hg => rfl); (case hr => first | (go_simp; done) | (go_simp; rfl))
                 intro gb114 hg w37 hbox hb
                 have BK114 := Aside0.mk (hbox)
                 have GW114 := Aside0.mk (bz hg)
                 have GE114 := Aside0.mk (bz hg)
                 replace HO_5 := Aside0.mk (Kd.R_below (Kd.R_elderB (by (with_reducible repeat (first | apply Kd.R_alloc | apply Kd.R_drewN | apply Kd.R_drew)); exact HO_5.out) gb114 (Nat.le_of_eq hg.symm)) hb)
                 replace HB := Aside0.mk (below_step bh hb)
                 clear hb hbox hg
                 refine hK.out _ _ trivial (fun hHeld => ?_)
                 clear hK K
                 refine nm 11 ?_
                 exact norm_ (by simp only [putAll, Act.put, List.setIfInBounds_toArray, List.set_cons_zero, List.set_cons_succ]) (hCont (gb114) _ ⟨(by (with_reducible repeat (first | apply Kd.R_alloc | apply Kd.R_drewN | apply Kd.R_drew)); exact Kd.R_mono HO_5.out (fun _ hk => hk.2)), bk, GW114.out, GE114.out, bh⟩)
                ·
                 skip
                 refine box_step ?hg (N := 11) ?hd (cs := #[.string (⟨#[]⟩ : ByteArray), .string (⟨#[]⟩ : ByteArray)]) (t := 43) ?hr ?_; (case hd => rfl); (case hg => rfl); (case hr => first | (go_simp; done) | (go_simp; rfl))
                 intro gb114 hg w37 hbox hb
                 have BK114 := Aside0.mk (hbox)
                 have GW114 := Aside0.mk (bz hg)
                 have GE114 := Aside0.mk (bz hg)
                 replace HO_5 := Aside0.mk (Kd.R_below (Kd.R_elderB (by (with_reducible repeat (first | apply Kd.R_alloc | apply Kd.R_drewN | apply Kd.R_drew)); exact HO_5.out) gb114 (Nat.le_of_eq hg.symm)) hb)
                 replace HB := Aside0.mk (below_step bh hb)
                 clear hb hbox hg
                 refine hK.out _ _ trivial (fun hHeld => ?_)
                 clear hK K
                 refine nm 11 ?_
                 refine onx 7 57 spec_ReadFields.d12 HT_ (fun K hK => ?_)
                 refine goes_ Tryd.func39 (by kernel_rfl) rfl #[.string (t104.extract ((ji20) : Int).toNat t104.size)] (by rfl) rfl rfl (by (try simp only [List.map_toArray, List.map_cons, List.map_nil]); first | done | (simp only [hji20]; rfl) | rfl | (simp only [List.length_drop, List.length_take]; rfl)) ?_
                 with_reducible refine (spec_Trimmed.calls kj11 (t104.extract ((ji20) : Int).toNat t104.size) t113 _ A23.out).mono ?_
                 rintro e w' ⟨rfl, ⟨nd, rfl⟩⟩
                 refine ⟨_, rfl, ?_⟩
                 refine hK.out _ _ trivial (fun hHeld => ?_)
                 clear hK K
                 refine nm 57 ?_
                 refine pu 8 58 spec_ReadFields.d8 HT_ ?_
                 exact norm_ (by simp only [putAll, Act.put, List.setIfInBounds_toArray, List.set_cons_zero, List.set_cons_succ]) (hCont (gb114) _ ⟨(by (with_reducible repeat (first | apply Kd.R_alloc | apply Kd.R_drewN | apply Kd.R_drew)); exact Kd.R_mono HO_5.out (fun _ hk => hk.2)), bk, GW114.out, GE114.out, bh⟩)
               rintro gb114 w38 ⟨h0_, h1_, h2_, h3_, h4_⟩
               have n0_ : Aside0 (Kd.R k43 43 w38 w.heap.size (fun k_ => k_ ≠ gb114) u5 x5_1) := ⟨h0_⟩
               have n1_ : Aside0 (w38.heap[gb114]? = some (.cells #[.string (⟨#[]⟩ : ByteArray), .string (⟨#[]⟩ : ByteArray)] 43 (0, 0))) := ⟨h1_⟩
               have n2_ : Aside0 (w.heap.size ≤ gb114) := ⟨h2_⟩
               have n3_ : Aside0 (w.heap.size ≤ gb114) := ⟨h3_⟩
               have n4_ : Aside0 (Below w.heap.size w w38) := ⟨h4_⟩
               clear HO_5
               clear HB
               clear h0_ h1_ h2_ h3_ h4_
               have HO_5 := n0_
               have BK114 := n1_
               have GW114 := n2_
               have GE114 := n3_
               have HB := n4_
               clear n0_ n1_ n2_ n3_ n4_
               have hHeld := trivial
               refine norm_ (a' := ?_) ?_ ?_
               rotate_left
               ·
                simp only [putAll, Act.put, List.setIfInBounds_toArray, List.set_cons_zero, List.set_cons_succ]
                rfl
               refine one_ (i := 10) (N := none) spec_ReadFields.d13 rfl rfl (one_of HT_.out (by kernel_rfl)) (by decide) (fun K hK => ?_)
               have hs39 : w38.cell? ⟨gb114, 0, none⟩ = some (.string (⟨#[]⟩ : ByteArray)) := bc BK114 0
               have hfs39 := blk_frozen BK114.out 0
               have hs40 : w38.cell? ⟨gb114, 1, none⟩ = some (.string (⟨#[]⟩ : ByteArray)) := bc BK114 1
               have hfs40 := blk_frozen BK114.out 1
               refine skip_ (w1 := ?_) (by rfl) rfl ?_ ?_
               rotate_left
               ·
                go_simp
                rfl
               refine hK.out _ _ trivial (fun hHeld => ?_)
               clear hK K
               refine dn HT_ ?_
               obtain ⟨hcz41_0, hcz41_1⟩ := zcf2 BK114
               obtain ⟨hfz41_0, hfz41_1⟩ := zff2 BK114
               try go_wp2_with (first | ((with_reducible refine gate_callee (f := 30) rfl ?_); refine goesL_ (some 60) rfl rfl Tryd.func30 (by kernel_rfl) rfl #[.agg #[.string (t104.extract 0 (x10_6 : Int).toNat), .string t113]] rfl (by (try simp only [List.map_toArray, List.map_cons, List.map_nil]); first | done | rfl | (simp only [ne_nil_isEmpty]; rfl) | (simp only [List.length_drop, List.length_take]; rfl)) ?_; (with_reducible refine (spec_l4Field.calls kj11 (t104.extract 0 (x10_6 : Int).toNat) t113 false _ A24.out).mono ?_); rintro e w42 ⟨rfl, hb⟩; refine ⟨_, rfl, ?_⟩; replace HO_5 := Aside0.mk (Kd.R_below (by (with_reducible repeat (first | apply Kd.R_alloc | apply Kd.R_drewN | apply Kd.R_drew)); exact (Kd.R_mono (Kd.R_far (p := ⟨gb114, 1, none⟩) (Kd.R_far (p := ⟨gb114, 0, none⟩) (Kd.R_mono HO_5.out (fun k_ hk => (⟨hk, hk⟩ : _ ∧ k_ ≠ gb114))) (fun _ hk => hk.2) (.string (t104.extract 0 (x10_6 : Int).toNat))) (fun _ hk => hk.2) (.string t113)) (fun _ h_ => h_.1))) hb); replace BK114 := Aside0.mk (blk_below (g := gb114) (o := .cells #[.string (t104.extract 0 (x10_6 : Int).toNat), .string t113] 43 (0, 0)) bkp hb); replace HB := Aside0.mk (below_step bh hb); (try clear hb); (try clear hb2); (try clear hk); (try clear hi)) | ((with_reducible refine gate_dst (N := 62) rfl ?_); (try (refine gate_guard (by rfl) ?_; dsimp only)); refine Kd.R_lit k43 _ 43 ?hg (N := 62) ?hd (xs := ([] : List (S43))) (inner := []) (ok := fun _ => True) (okp := fun _ => True) ?hr ?hp (fun _ hk => hk) trivial (Below.refl _ _) (Nat.le_refl _) (by simp) ?_; (case hd => rfl); (case hg => rfl); (case hr => first | (go_simp; done) | (go_simp; rfl)); (case hp => exact (Reps.none _ _)); intro v120 w43 ho44 hb hg_ hnew_; clear hg_ hnew_; (first | rw [← Ny119.out] at ho44 | (simp only [Int.reduceToNat] at ho44; rw [← Ny119.out] at ho44)); have HO121 := Aside0.mk (Kd.R_lower (Kd.R_newB (Kd.R_new' ho44 (Kd.R_lt (by (with_reducible repeat (first | apply Kd.R_alloc | apply Kd.R_drewN | apply Kd.R_drew)); exact HO_5.out))) (g := gb114) (o := .cells #[.string (t104.extract 0 (x10_6 : Int).toNat), .string t113] 43 (0, 0)) bk) (below_size bh)); replace HO_5 := Aside0.mk (Kd.R_elder' (by (with_reducible repeat (first | apply Kd.R_alloc | apply Kd.R_drewN | apply Kd.R_drew)); exact HO_5.out) (Kd.R_base ho44) hb); replace BK114 := bkb_ BK114 hb; replace HB := Aside0.mk (below_step bh hb); clear hb ho44))
               go_ret3
               exact ⟨_, by first | rfl | (simp [errW_none, errW_some] <;> rfl) | (simp only [← hji20]; first | rfl | (simp [errW_none, errW_some] <;> rfl)) | (simp [*, errW_none, errW_some] <;> rfl), by (with_reducible repeat (first | apply Kd.R_alloc | apply Kd.R_drewN | apply Kd.R_drew)); exact Kd.R_mono HO121.out (fun _ hk => trivial), bh⟩
             ·
              rw [if_neg c22] at H
              exact absurd H (by simp)
            ·
             rw [if_neg c21] at H
             exact absurd H (by simp)
           ·
            rw [if_neg c19] at H
            exact absurd H (by simp)
          ·
           rw [if_neg c18] at H
           exact absurd H (by simp)
   ·
    replace c5 := Bool.eq_false_iff.mpr c5
    subst c5
    have H1 : (some ((([] : List (S43))), 0, false)) = some (r1, r2, r3) := by rw [if_neg (show ¬ (false = true) by decide)] at H; exact H
    clear H
    have H := H1
    clear H1
    obtain ⟨y107, hy107⟩ : ∃ y_ : List (S43), y_ = (([] : List (S43))) := ⟨_, rfl⟩
    replace H : (some (y107, 0, false)) = some (r1, r2, r3) := by first | (rw [hy107]; with_reducible exact H) | (have H2_ := (Option.bind_some _ _).symm.trans H; rw [hy107]; with_reducible exact H2_) | (have H2_ := (Option.bind_some _ _).symm.trans H; with_reducible exact H2_) | with_reducible exact H | (rw [hy107]; exact H) | exact H
    have Ny107 := Aside0.mk hy107
    clear hy107
    simp only [Option.some.injEq, Prod.mk.injEq] at H
    obtain ⟨rfl, rfl, rfl⟩ := H
    go_wp2_with (first | ((with_reducible refine gate_callee (f := 38) rfl ?_); refine goesL_ (some 16) rfl rfl Tryd.func38 (by kernel_rfl) rfl #[.string a0, .int .i64 x6_1] rfl (by (try simp only [List.map_toArray, List.map_cons, List.map_nil]); first | done | rfl | (simp only [ne_nil_isEmpty]; rfl) | (simp only [List.length_drop, List.length_take]; rfl)) ?_; (with_reducible refine (spec_l4Line.calls k1 a0 x6_1 t104 t105 false _ A4.out).mono ?_); rintro e w' ⟨rfl, ⟨nd, rfl⟩⟩; refine ⟨_, rfl, ?_⟩) | ((with_reducible refine gate_dst (N := 22) rfl ?_); (try (refine gate_guard (by rfl) ?_; dsimp only)); refine Kd.R_lit k43 _ 43 ?hg (N := 22) ?hd (xs := ([] : List (S43))) (inner := []) (ok := fun _ => True) (okp := fun _ => True) ?hr ?hp (fun _ hk => hk) trivial (Below.refl _ _) (Nat.le_refl _) (by simp) ?_; (case hd => rfl); (case hg => rfl); (case hr => first | (go_simp; done) | (go_simp; rfl)); (case hp => exact (Reps.none _ _)); intro v108 w45 ho46 hb hg_ hnew_; clear hg_ hnew_; (first | rw [← Ny107.out] at ho46 | (simp only [Int.reduceToNat] at ho46; rw [← Ny107.out] at ho46)); have HO109 := Aside0.mk (Kd.R_lower (Kd.R_new' ho46 (Kd.R_lt (by (with_reducible repeat (first | apply Kd.R_alloc | apply Kd.R_drewN | apply Kd.R_drew)); exact HO_5.out))) (below_size bh)); replace HO_5 := Aside0.mk (Kd.R_elder' (by (with_reducible repeat (first | apply Kd.R_alloc | apply Kd.R_drewN | apply Kd.R_drew)); exact HO_5.out) (Kd.R_base ho46) hb); replace HB := Aside0.mk (below_step bh hb); clear hb ho46))
    go_ret3
    exact ⟨_, er, by (with_reducible repeat (first | apply Kd.R_alloc | apply Kd.R_drewN | apply Kd.R_drew)); exact Kd.R_mono HO109.out (fun _ hk => trivial), bh⟩

end Go.Proofs.YtkaknffeoeoajaaDoor.P
