/- Functions of the Go program as Lean functions, and proofs that each Go function comes to its Lean function's answers; conditions: those that each theorem states. Written by this session's program hprint.py, which drives the kit's printer. -/
import Derived.Test.YtfbgpjhnjdhpcaaDoorP0
import Derived.Test.YtfbgpjhnjdhpcaaDoorPspecHex
import Derived.Test.YtfbgpjhnjdhpcaaDoorXA
import Derived.Test.YtfbgpjhnjdhpcaaDoorXW
namespace Go.Proofs.YtfbgpjhnjdhpcaaDoor.P
open Go.RowKit Go.Proofs.YtfbgpjhnjdhpcaaDoorW.PrintWords Go.Proofs.YtfbgpjhnjdhpcaaDoorW.PrintLast Go.Proofs.YtfbgpjhnjdhpcaaDoorW.PrintMore
attribute [local go_sem] max2_int min2_int max_two min_two max_three min_three max_four min_four   -- for this text's walks alone
set_option linter.unusedVariables false
set_option linter.unusedSimpArgs false

/-! ### spec_Chunked: function 24 -/
mutual
def spec_Chunked.l0 : Nat → List ByteArray → Int → List Int → Int → Option (ByteArray)
 | 0, _, _, _, _ => none
 | k + 1, x0, x3, x4, x5 => if x5 < (x0.length : Int) then (if 0 ≤ x5 then (if (wrap64 (x3 + ((rdOf ByteArray.empty x0 x5).size : Int))) > 4000 then (spec_Chunked.j1 k x0 (wrap64 (x3 + ((rdOf ByteArray.empty x0 x5).size : Int))) x4 x5 true) else (spec_Chunked.j1 k x0 (wrap64 (x3 + ((rdOf ByteArray.empty x0 x5).size : Int))) x4 x5 (decide ((x0.length : Int) > 100)))) else (none)) else (if (x0.length : Int) > 100 then (some (⟨#[]⟩ : ByteArray)) else (if (strOfNums x4).size + 5 ≤ 9223372036854775807 then (some ((strOfNums x4) ++ (⟨#[48, 13, 10, 13, 10]⟩ : ByteArray))) else (none)))
def spec_Chunked.j1 : Nat → List ByteArray → Int → List Int → Int → Bool → Option (ByteArray)
 | 0, _, _, _, _, _ => none
 | k + 1, x0, x3, x4, x5, x26 => if x26 = true then (some (⟨#[]⟩ : ByteArray)) else (if 0 ≤ x5 then (if x5 < (x0.length : Int) then (if (rdOf ByteArray.empty x0 x5).toList = ([] : List UInt8) then (spec_Chunked.l0 k x0 x3 x4 (wrap64 (x5 + 1))) else ((spec_Hex.f k ((rdOf ByteArray.empty x0 x5).size : Int)).bind fun t107 => (if t107.size + 2 ≤ 9223372036854775807 then (if (t107 ++ (⟨#[13, 10]⟩ : ByteArray)).size + (rdOf ByteArray.empty x0 x5).size ≤ 9223372036854775807 then (if ((t107 ++ (⟨#[13, 10]⟩ : ByteArray)) ++ (rdOf ByteArray.empty x0 x5)).size + 2 ≤ 9223372036854775807 then (if x4.length + (((t107 ++ (⟨#[13, 10]⟩ : ByteArray)) ++ (rdOf ByteArray.empty x0 x5)) ++ (⟨#[13, 10]⟩ : ByteArray)).size < 140737488355328 then (spec_Chunked.l0 k x0 x3 (x4 ++ bytesOf (((t107 ++ (⟨#[13, 10]⟩ : ByteArray)) ++ (rdOf ByteArray.empty x0 x5)) ++ (⟨#[13, 10]⟩ : ByteArray))) (wrap64 (x5 + 1))) else (none)) else (none)) else (none)) else (none)))) else (none)) else (none))
end
def spec_Chunked.f (k : Nat) (l0 : List ByteArray) : Option (ByteArray) := spec_Chunked.l0 k l0 0 (([] : List Int)) 0
theorem spec_Chunked.mono_l : ∀ k, (∀ y0 y1 y2 y3, LeO (spec_Chunked.l0 k y0 y1 y2 y3) (spec_Chunked.l0 (k + 1) y0 y1 y2 y3)) ∧ (∀ y0 y1 y2 y3 y4, LeO (spec_Chunked.j1 k y0 y1 y2 y3 y4) (spec_Chunked.j1 (k + 1) y0 y1 y2 y3 y4))
 | 0 => ⟨fun _ _ _ _ r h => by simp [spec_Chunked.l0] at h, fun _ _ _ _ _ r h => by simp [spec_Chunked.j1] at h⟩
 | k + 1 => by
  obtain ⟨ih0, ih1⟩ := spec_Chunked.mono_l k
  refine ⟨?_, ?_⟩
  ·
   intro y0 y1 y2 y3
   unfold spec_Chunked.l0
   repeat' first
   | (with_reducible exact ih0 _ _ _ _)
   | (with_reducible exact ih1 _ _ _ _ _)
   | (with_reducible exact spec_Hex.mono _ _)
   | (with_reducible exact LeO.refl _)
   | (with_reducible exact LeO.none _)
   | (with_reducible refine LeO.ite ?_ ?_)
   | (with_reducible refine LeO.bind ?_ (fun _ => ?_))
   | exact ih0 _ _ _ _
   | exact ih1 _ _ _ _ _
   | exact spec_Hex.mono _ _
   | exact LeO.none _
   | refine LeO.ite ?_ ?_
   | refine LeO.bind ?_ (fun _ => ?_)
  ·
   intro y0 y1 y2 y3 y4
   unfold spec_Chunked.j1
   repeat' first
   | (with_reducible exact ih0 _ _ _ _)
   | (with_reducible exact ih1 _ _ _ _ _)
   | (with_reducible exact spec_Hex.mono _ _)
   | (with_reducible exact LeO.refl _)
   | (with_reducible exact LeO.none _)
   | (with_reducible refine LeO.ite ?_ ?_)
   | (with_reducible refine LeO.bind ?_ (fun _ => ?_))
   | exact ih0 _ _ _ _
   | exact ih1 _ _ _ _ _
   | exact spec_Hex.mono _ _
   | exact LeO.none _
   | refine LeO.ite ?_ ?_
   | refine LeO.bind ?_ (fun _ => ?_)
theorem spec_Chunked.mono : ∀ a0 k, LeO (spec_Chunked.f k a0) (spec_Chunked.f (k + 1) a0) := by
 intro a0 k
 obtain ⟨ih0, ih1⟩ := spec_Chunked.mono_l k
 unfold spec_Chunked.f
 repeat' first
   | (with_reducible exact ih0 _ _ _ _)
   | (with_reducible exact ih1 _ _ _ _ _)
   | (with_reducible exact spec_Hex.mono _ _)
   | (with_reducible exact LeO.refl _)
   | (with_reducible exact LeO.none _)
   | (with_reducible refine LeO.ite ?_ ?_)
   | (with_reducible refine LeO.bind ?_ (fun _ => ?_))
   | exact ih0 _ _ _ _
   | exact ih1 _ _ _ _ _
   | exact spec_Hex.mono _ _
   | exact LeO.none _
   | refine LeO.ite ?_ ?_
   | refine LeO.bind ?_ (fun _ => ?_)
def spec_Chunked.T10 : Bool × List (List Nat × List Nat) := (true, [([], []), ([], []), ([], []), ([1, 2], [1, 2]), ([3], [3]), ([4], [4]), ([5], [5]), ([6], [6]), ([], []), ([], []), ([8, 9], [8, 9]), ([10], [10]), ([7, 11], [7, 11]), ([12], [12]), ([0, 13, 6], [0, 13]), ([14, 14, 0, 1, 2, 3, 4, 5, 6, 7, 8, 9, 10, 11, 12, 13, 14], [0, 14])])
def spec_Chunked.B10 : List Nat := [0, 0, 0, 6, 14, 30, 62, 126, 0, 0, 768, 1792, 4094, 8190, 16383, 32767]
theorem spec_Chunked.tab10 : rtab .any (opsOf Tryd.f24 10) = spec_Chunked.T10 := by kernel_rfl
theorem spec_Chunked.bits10 : waitsOk spec_Chunked.T10.2 spec_Chunked.B10 = true := by kernel_rfl
set_option maxHeartbeats 8000000 in
set_option maxRecDepth 100000 in
theorem spec_Chunked.calls (k : Nat) (A0 : Option Addr) (c0 : Nat) (l0 : List ByteArray) (r : ByteArray) (w : World) (hr0 : Kd.C Kd.string w A0 l0.length l0) (hc0 : l0.length ≤ c0) (h : spec_Chunked.f k l0 = some r) :
  Calls Tryd.prog 24 #[.slice A0 l0.length c0] w fun e w' => e = .returned (.string r) ∧ Below w.heap.size w w' := by
 have HR0 := Aside0.mk hr0
 have HC0 := Aside0.mk hc0
 clear hr0 hc0
 have HB := Aside0.mk (Below.refl w.heap.size w)
 have H : (spec_Chunked.l0 k l0 0 (([] : List Int)) 0) = some r := h
 clear h
 obtain ⟨y101, hy101⟩ : ∃ y_ : List Int, y_ = (([] : List Int)) := ⟨_, rfl⟩
 replace H : (spec_Chunked.l0 k l0 0 y101 0) = some r := by first | (rw [hy101]; with_reducible exact H) | (have H2_ := (Option.bind_some _ _).symm.trans H; rw [hy101]; with_reducible exact H2_) | (have H2_ := (Option.bind_some _ _).symm.trans H; with_reducible exact H2_) | with_reducible exact H | (rw [hy101]; exact H) | exact H
 have Ny101 := Aside0.mk hy101
 clear hy101
 have H' := Aside0.mk H
 clear H
 go_enter Tryd.func24, Tryd.ntmps24
 go_wp2_with (first | ((with_reducible refine gate_dst (N := 6) rfl ?_); (try (refine gate_guard (by rfl) ?_; dsimp only)); refine Kd.R_lit (Kd.int .u8) _ 5 ?hg (N := 6) ?hd (xs := ([] : List Int)) (inner := []) (ok := fun _ => True) (okp := fun _ => True) ?hr ?hp (fun _ hk => hk) trivial (Below.refl _ _) (Nat.le_refl _) (by simp) ?_; (case hd => rfl); (case hg => rfl); (case hr => first | (go_simp; done) | (go_simp; rfl)); (case hp => exact (Reps.none _ _)); intro v102 w2 ho3 hb hg_ hnew_; clear hg_ hnew_; (first | rw [← Ny101.out] at ho3 | (simp only [Int.reduceToNat] at ho3; rw [← Ny101.out] at ho3)); have HO103 := Aside0.mk (Kd.R_lower ho3 (below_size bh)); replace HB := Aside0.mk (below_step bh hb); clear hb ho3))
 go_loopg [3, 4, 5] k (fun kq v3 v4 v5 w' => ∃ (x3_1 : Int) (x4_1 : List Int) (x5_1 : Int), v3 = .int .i64 x3_1 ∧ v5 = .int .i64 x5_1 ∧ Aside0 (spec_Chunked.l0 kq l0 x3_1 x4_1 x5_1 = some r) ∧ Aside0 (kq ≤ k) ∧ Aside0 (Kd.R (Kd.int .u8) 5 w' w.heap.size (fun _ => True) v4 x4_1) ∧ Aside0 (Below w.heap.size w w'))
 case atStart => exact ⟨(0), (y101), (0), (by first | rfl | (simp; done) | (simp [*]; done)), (by first | rfl | (simp; done) | (simp [*]; done)), H', ⟨Nat.le_refl _⟩, ⟨by (with_reducible repeat (first | apply Kd.R_alloc | apply Kd.R_drewN | apply Kd.R_drew)); exact HO103.out⟩, ⟨bh⟩⟩
 case round =>
  clear H'
  try clear c2
  try clear p2
  obtain ⟨x3_1, x4_1, x5_1, rfl, rfl, HA, HK1, HO_4, HB⟩ := hrel
  cases gk with
  | zero => exact absurd HA.out (by simp [spec_Chunked.l0])
  | succ k1 =>
   have H := HA.out
   clear HA
   simp only [spec_Chunked.l0] at H
   by_cases c4 : x5_1 < (l0.length : Int)
   ·
    rw [if_pos c4] at H
    have c4b0 : decide (x5_1 < (l0.length : Int)) = true := decide_eq_true c4
    clear c4
    by_cases c5 : 0 ≤ x5_1
    ·
     rw [if_pos c5] at H
     have c5b0 : decide (0 ≤ x5_1) = true := decide_eq_true c5
     clear c5
     have HC6 := Aside0.mk H
     clear H
     have p104 : 0 ≤ (x5_1 : Int) := of_decide_eq_true (by first | (with_reducible assumption) | assumption)
     have q104 : x5_1 < (l0.length : Int) := of_decide_eq_true (by first | (with_reducible assumption) | assumption)
     obtain ⟨ad104, e104, hx104_0⟩ := Kd.at_string HR0.out x5_1 p104 q104
     cases e104
     replace hx104_0 := (HB.out.cell (World.block_lt_of_cell? w _ hx104_0)).trans hx104_0
     replace p104 := eq_true p104
     replace q104 := eq_true q104
     go_upto_region 7 with (fail)
     go_cut [26] (fun v26 wc => ∃ (kq : Nat) (x26_5 : Bool), v26 = .bool x26_5 ∧ Aside0 (spec_Chunked.j1 kq l0 (wrap64 (x3_1 + ((rdOf ByteArray.empty l0 x5_1).size : Int))) x4_1 x5_1 x26_5 = some r) ∧ Aside0 (kq ≤ k1) ∧ Aside0 (Kd.R (Kd.int .u8) 5 wc w.heap.size (fun _ => True) u4 x4_1) ∧ Aside0 (Below w.heap.size w wc))
     case first =>
      have H := HC6.out
      clear HC6
      by_cases c7 : (wrap64 (x3_1 + ((rdOf ByteArray.empty l0 x5_1).size : Int))) > 4000
      ·
       rw [if_pos c7] at H
       have c7b0 : decide (4000 < (wrap64 (x3_1 + ((rdOf ByteArray.empty l0 x5_1).size : Int)))) = true := decide_eq_true c7
       clear c7
       (first | rw [c7b0] | (simp only [i64_w, i32_w]; rw [c7b0]) | skip)
       have H' := Aside0.mk H
       clear H
       go_wp2
       go_meet
       case rel => exact ⟨_, (true), (by first | rfl | (simp; done) | (simp [*]; done)), H', ⟨by have := HK1.out; first | omega | exact Nat.le_refl _⟩, ⟨by (with_reducible repeat (first | apply Kd.R_alloc | apply Kd.R_drewN | apply Kd.R_drew)); exact HO_4.out⟩, ⟨bh⟩⟩
      ·
       rw [if_neg c7] at H
       have c7b0 : decide (4000 < (wrap64 (x3_1 + ((rdOf ByteArray.empty l0 x5_1).size : Int)))) = false := decide_eq_false c7
       clear c7
       (first | rw [c7b0] | (simp only [i64_w, i32_w]; rw [c7b0]) | skip)
       have H' := Aside0.mk H
       clear H
       go_wp2
       go_meet
       case rel => exact ⟨_, (decide ((l0.length : Int) > 100)), (by first | rfl | (simp; done) | (simp [*]; done)), H', ⟨by have := HK1.out; first | omega | exact Nat.le_refl _⟩, ⟨by (with_reducible repeat (first | apply Kd.R_alloc | apply Kd.R_drewN | apply Kd.R_drew)); exact HO_4.out⟩, ⟨bh⟩⟩
     case rest =>
      clear HC6
      try clear p1
      try clear q1
      try clear hx1
      try clear c2
      try clear p2
      try clear c4
      try clear c4b0
      try clear c5
      try clear c5b0
      try clear p6
      try clear c7
      try clear c7b0
      try clear hx104_0
      try clear p104
      try clear p2
      try clear q104
      obtain ⟨kq, x26_5, rfl, HA, HJ5, HO_4, HB⟩ := hcut
      cases kq with
      | zero => exact absurd HA.out (by simp [spec_Chunked.j1])
      | succ kj5 =>
       have H := HA.out
       clear HA
       simp only [spec_Chunked.j1] at H
       by_cases c8 : x26_5 = true
       ·
        subst c8
        have H1 : (some (⟨#[]⟩ : ByteArray)) = some r := by rw [if_pos rfl] at H; exact H
        clear H
        have H := H1
        clear H1
        obtain rfl := Option.some.inj H
        go_wp2
        go_ret
        exact ⟨er, bh⟩
       ·
        replace c8 := Bool.eq_false_iff.mpr c8
        subst c8
        rw [if_neg (show ¬ (false = true) by decide)] at H
        by_cases c9 : 0 ≤ x5_1
        ·
         rw [if_pos c9] at H
         have c9b0 : decide (0 ≤ x5_1) = true := decide_eq_true c9
         clear c9
         by_cases c10 : x5_1 < (l0.length : Int)
         ·
          rw [if_pos c10] at H
          have c10b0 : decide (x5_1 < (l0.length : Int)) = true := decide_eq_true c10
          clear c10
          by_cases c11 : (rdOf ByteArray.empty l0 x5_1).toList = ([] : List UInt8)
          ·
           rw [if_pos c11] at H
           have c11b0 : ((rdOf ByteArray.empty l0 x5_1).toList == ([] : List UInt8)) = true := beq_iff_eq.mpr c11
           have c11b1 : ((rdOf ByteArray.empty l0 x5_1).toList != ([] : List UInt8)) = false := bne_eq_false_iff_eq.mpr c11
           clear c11
           have H' := Aside0.mk H
           clear H
           have p105 : 0 ≤ (x5_1 : Int) := of_decide_eq_true (by first | (with_reducible assumption) | assumption)
           have q105 : x5_1 < (l0.length : Int) := of_decide_eq_true (by first | (with_reducible assumption) | assumption)
           obtain ⟨ad105, e105, hx105_0⟩ := Kd.at_string HR0.out x5_1 p105 q105
           obtain rfl : ad104 = ad105 := (by injection e105)
           replace hx105_0 := (HB.out.cell (World.block_lt_of_cell? w _ hx105_0)).trans hx105_0
           replace p105 := eq_true p105
           replace q105 := eq_true q105
           go_wp2
           go_roundg kj5
           case measure => have := HK1.out; have := HJ5.out; omega
           case rel => exact ⟨((wrap64 (x3_1 + ((rdOf ByteArray.empty l0 x5_1).size : Int)))), (x4_1), (wrap64 (x5_1 + 1)), (by first | rfl | (simp; done) | (simp [*]; done)), (by first | rfl | (simp; done) | (simp [*]; done)), H', ⟨by have := HK1.out; have := HJ5.out; omega⟩, ⟨by (with_reducible repeat (first | apply Kd.R_alloc | apply Kd.R_drewN | apply Kd.R_drew)); exact HO_4.out⟩, ⟨bh⟩⟩
          ·
           rw [if_neg c11] at H
           have c11b0 : ((rdOf ByteArray.empty l0 x5_1).toList == ([] : List UInt8)) = false := beq_eq_false_iff_ne.mpr c11
           have c11b1 : ((rdOf ByteArray.empty l0 x5_1).toList != ([] : List UInt8)) = true := bne_iff_ne.mpr c11
           obtain ⟨t107, A120, H⟩ := Option.bind_eq_some_iff.mp H
           try dsimp only at H
           have A12 := Aside0.mk A120
           clear A120
           by_cases c13 : t107.size + 2 ≤ 9223372036854775807
           ·
            rw [if_pos c13] at H
            have c13b0 := eq_true c13
            have c13b1 : decide (t107.size + 2 ≤ 9223372036854775807) = true := decide_eq_true c13
            try have c13b2 : (9223372036854775807 < t107.size + 2) = False := eq_false (Nat.not_lt.2 c13)
            by_cases c14 : (t107 ++ (⟨#[13, 10]⟩ : ByteArray)).size + (rdOf ByteArray.empty l0 x5_1).size ≤ 9223372036854775807
            ·
             rw [if_pos c14] at H
             have c14b0 := eq_true c14
             have c14b1 : decide ((t107 ++ (⟨#[13, 10]⟩ : ByteArray)).size + (rdOf ByteArray.empty l0 x5_1).size ≤ 9223372036854775807) = true := decide_eq_true c14
             try have c14b2 : (9223372036854775807 < (t107 ++ (⟨#[13, 10]⟩ : ByteArray)).size + (rdOf ByteArray.empty l0 x5_1).size) = False := eq_false (Nat.not_lt.2 c14)
             try have c14n3 := by have z_ := c14b2; simp only [ByteArray.size_append', ByteArray.size_mk', List.size_toArray, List.length_cons, List.length_nil, Nat.zero_add, Nat.reduceAdd] at z_; exact z_
             by_cases c15 : ((t107 ++ (⟨#[13, 10]⟩ : ByteArray)) ++ (rdOf ByteArray.empty l0 x5_1)).size + 2 ≤ 9223372036854775807
             ·
              rw [if_pos c15] at H
              have c15b0 := eq_true c15
              have c15b1 : decide (((t107 ++ (⟨#[13, 10]⟩ : ByteArray)) ++ (rdOf ByteArray.empty l0 x5_1)).size + 2 ≤ 9223372036854775807) = true := decide_eq_true c15
              try have c15b2 : (9223372036854775807 < ((t107 ++ (⟨#[13, 10]⟩ : ByteArray)) ++ (rdOf ByteArray.empty l0 x5_1)).size + 2) = False := eq_false (Nat.not_lt.2 c15)
              try have c15n3 := by have z_ := c15b2; simp only [ByteArray.size_append', ByteArray.size_mk', List.size_toArray, List.length_cons, List.length_nil, Nat.zero_add, Nat.reduceAdd] at z_; exact z_
              by_cases c16 : x4_1.length + (((t107 ++ (⟨#[13, 10]⟩ : ByteArray)) ++ (rdOf ByteArray.empty l0 x5_1)) ++ (⟨#[13, 10]⟩ : ByteArray)).size < 140737488355328
              ·
               rw [if_pos c16] at H
               have LMc16 := Aside0.mk c16
               clear c16
               obtain ⟨y109, hy109⟩ : ∃ y_ : List Int, y_ = (x4_1 ++ bytesOf (((t107 ++ (⟨#[13, 10]⟩ : ByteArray)) ++ (rdOf ByteArray.empty l0 x5_1)) ++ (⟨#[13, 10]⟩ : ByteArray))) := ⟨_, rfl⟩
               replace H : (spec_Chunked.l0 kj5 l0 (wrap64 (x3_1 + ((rdOf ByteArray.empty l0 x5_1).size : Int))) y109 (wrap64 (x5_1 + 1))) = some r := by first | (rw [hy109]; with_reducible exact H) | (have H2_ := (Option.bind_some _ _).symm.trans H; rw [hy109]; with_reducible exact H2_) | (have H2_ := (Option.bind_some _ _).symm.trans H; with_reducible exact H2_) | with_reducible exact H | (rw [hy109]; exact H) | exact H
               have Ny109 := Aside0.mk hy109
               clear hy109
               have H' := Aside0.mk H
               clear H
               have p105 : 0 ≤ (x5_1 : Int) := of_decide_eq_true (by first | (with_reducible assumption) | assumption)
               have q105 : x5_1 < (l0.length : Int) := of_decide_eq_true (by first | (with_reducible assumption) | assumption)
               obtain ⟨ad105, e105, hx105_0⟩ := Kd.at_string HR0.out x5_1 p105 q105
               obtain rfl : ad104 = ad105 := (by injection e105)
               replace hx105_0 := (HB.out.cell (World.block_lt_of_cell? w _ hx105_0)).trans hx105_0
               replace p105 := eq_true p105
               replace q105 := eq_true q105
               try go_wp2
               replace HO_4 := Aside0.mk (Kd.R_drew HO_4.out)
               replace HB := Aside0.mk (below_drew1 HB.out)
               have p106 : 0 ≤ (x5_1 : Int) := of_decide_eq_true (by first | (with_reducible assumption) | assumption)
               have q106 : x5_1 < (l0.length : Int) := of_decide_eq_true (by first | (with_reducible assumption) | assumption)
               obtain ⟨ad106, e106, hx106_0⟩ := Kd.at_string HR0.out x5_1 p106 q106
               have hw106_0 := hx106_0
               obtain rfl : ad104 = ad106 := (by injection e106)
               replace hx106_0 := (HB.out.cell (World.block_lt_of_cell? w _ hx106_0)).trans hx106_0
               replace p106 := eq_true p106
               replace q106 := eq_true q106
               have p108 : 0 ≤ (x5_1 : Int) := of_decide_eq_true (by first | (with_reducible assumption) | assumption)
               have q108 : x5_1 < (l0.length : Int) := of_decide_eq_true (by first | (with_reducible assumption) | assumption)
               obtain ⟨ad108, e108, hx108_0⟩ := Kd.at_string HR0.out x5_1 p108 q108
               have hw108_0 := hx108_0
               obtain rfl : ad104 = ad108 := (by injection e108)
               replace hx108_0 := (HB.out.cell (World.block_lt_of_cell? w _ hx108_0)).trans hx108_0
               replace p108 := eq_true p108
               replace q108 := eq_true q108
               refine start_ (n := 16) (S := fun w' => w'.cell? (ad104.add (x5_1).toNat) = some (.string (rdOf ByteArray.empty l0 x5_1)) ∧ w'.cell? (ad104.add (x5_1).toNat) = some (.string (rdOf ByteArray.empty l0 x5_1))) (ds := []) #[false, false, false, false, false, false, false, false, false, false, false, false, false, false, false, false] (by kernel_rfl) rfl rfl ⟨((HB.out.cell (World.block_lt_of_cell? w _ hw106_0)).trans hw106_0), ((HB.out.cell (World.block_lt_of_cell? w _ hw108_0)).trans hw108_0)⟩ (fun hHeld => ?_); refine with_tabW spec_Chunked.tab10 spec_Chunked.bits10 (fun HT_ HW_ => ?_)
               generalize wc.drew = w17 at HO_4 HB hx106_0 hx108_0 hHeld ⊢
               refine pu 0 32 #[true, false, false, false, false, false, false, false, false, false, false, false, false, false, false, false] HT_ ?_
               refine pu 1 33 #[true, true, false, false, false, false, false, false, false, false, false, false, false, false, false, false] HT_ ?_
               refine pu 2 34 #[true, true, true, false, false, false, false, false, false, false, false, false, false, false, false, false] HT_ ?_
               refine pu 3 35 #[true, true, true, true, false, false, false, false, false, false, false, false, false, false, false, false] HT_ ?_
               refine pu 8 40 #[true, true, true, true, false, false, false, false, true, false, false, false, false, false, false, false] HT_ ?_
               refine pu 9 41 #[true, true, true, true, false, false, false, false, true, true, false, false, false, false, false, false] HT_ ?_
               refine pu 10 42 #[true, true, true, true, false, false, false, false, true, true, true, false, false, false, false, false] HT_ ?_
               refine tk 4 36 #[true, true, true, true, true, false, false, false, true, true, true, false, false, false, false, false] HT_ HW_ hHeld ?_
               refine pu 5 37 #[true, true, true, true, true, true, false, false, true, true, true, false, false, false, false, false] HT_ ?_
               refine tk 11 43 #[true, true, true, true, true, true, false, false, true, true, true, true, false, false, false, false] HT_ HW_ hHeld ?_
               refine onx 6 38 #[true, true, true, true, true, true, true, false, true, true, true, true, false, false, false, false] HT_ (fun K hK => ?_)
               refine goes_ Tryd.func55 (by kernel_rfl) rfl #[.int .i64 ((rdOf ByteArray.empty l0 x5_1).size : Int)] (by rfl) rfl rfl (by (try simp only [List.map_toArray, List.map_cons, List.map_nil]); first | done | rfl | (simp only [ne_nil_isEmpty]; rfl) | (simp only [List.length_drop, List.length_take]; rfl)) ?_
               with_reducible refine (spec_Hex.calls kj5 ((rdOf ByteArray.empty l0 x5_1).size : Int) t107 _ A12.out).mono ?_
               rintro e w' ⟨rfl, ⟨nd, rfl⟩⟩
               refine ⟨_, rfl, ?_⟩
               refine hK.out _ _ ⟨((HB.out.cell (World.block_lt_of_cell? w _ hw106_0)).trans hw106_0), ((HB.out.cell (World.block_lt_of_cell? w _ hw108_0)).trans hw108_0)⟩ (fun hHeld => ?_)
               clear hK K
               refine nm 38 ?_
               refine pu 7 39 #[true, true, true, true, true, true, true, true, true, true, true, true, false, false, false, false] HT_ ?_
               refine pu 12 44 #[true, true, true, true, true, true, true, true, true, true, true, true, true, false, false, false] HT_ ?_
               refine pu 13 45 #[true, true, true, true, true, true, true, true, true, true, true, true, true, true, false, false] HT_ ?_
               refine onx 14 46 #[true, true, true, true, true, true, true, true, true, true, true, true, true, true, true, false] HT_ (fun K hK => ?_)
               refine print_append_str_step (w0 := w) w.heap.size (by rfl) (.tmp 32) _ 22 9 5 rfl Tryd.underlying22 Tryd.underlying9 info5 u4 x4_1 (((t107 ++ (⟨#[13, 10]⟩ : ByteArray)) ++ (rdOf ByteArray.empty l0 x5_1)) ++ (⟨#[13, 10]⟩ : ByteArray)) rfl rfl ?aO ?aB ?aS ?aL ?_
               (case aB => exact bh)
               (case aO => exact (Kd.own_of_R (by (with_reducible repeat (first | apply Kd.R_alloc | apply Kd.R_drewN | apply Kd.R_drew)); exact HO_4.out)))
               (case aS => exact (below_size bh))
               (case aL => have := LMc16.out; omega)
               intro v110 w18 ho0 hb hg
               have ho := Kd.R_of_own (h1 := fun _ => rfl) (ok := fun _ => True) ho0 (fun _ _ => trivial)
               clear ho0
               have hat := True.intro
               rw [← Ny109.out] at ho
               change Kd.R (Kd.int .u8) 5 w18 w.heap.size (fun _ => True) v110 y109 at ho
               have n0_ := Aside0.mk (hb)
               have n1_ := Aside0.mk (ho)
               clear HB
               clear HO_4
               have HB := n0_
               have HO111 := n1_
               clear n0_ n1_
               clear ho hb hg hat
               refine hK.out _ _ ⟨((HB.out.cell (World.block_lt_of_cell? w _ hw106_0)).trans hw106_0), ((HB.out.cell (World.block_lt_of_cell? w _ hw108_0)).trans hw108_0)⟩ (fun hHeld => ?_)
               clear hK K
               refine nm 46 ?_
               refine pu 15 4 #[true, true, true, true, true, true, true, true, true, true, true, true, true, true, true, true] HT_ ?_
               refine dn HT_ ?_
               try go_wp2
               go_roundg kj5
               case measure => have := HK1.out; have := HJ5.out; omega
               case rel => exact ⟨((wrap64 (x3_1 + ((rdOf ByteArray.empty l0 x5_1).size : Int)))), (y109), (wrap64 (x5_1 + 1)), (by first | rfl | (simp; done) | (simp [*]; done)), (by first | rfl | (simp; done) | (simp [*]; done)), H', ⟨by have := HK1.out; have := HJ5.out; omega⟩, ⟨by (with_reducible repeat (first | apply Kd.R_alloc | apply Kd.R_drewN | apply Kd.R_drew)); exact HO111.out⟩, ⟨bh⟩⟩
              ·
               rw [if_neg c16] at H
               exact absurd H (by simp)
             ·
              rw [if_neg c15] at H
              exact absurd H (by simp)
            ·
             rw [if_neg c14] at H
             exact absurd H (by simp)
           ·
            rw [if_neg c13] at H
            exact absurd H (by simp)
         ·
          rw [if_neg c10] at H
          exact absurd H (by simp)
        ·
         rw [if_neg c9] at H
         exact absurd H (by simp)
    ·
     rw [if_neg c5] at H
     exact absurd H (by simp)
   ·
    rw [if_neg c4] at H
    have c4b0 : decide (x5_1 < (l0.length : Int)) = false := decide_eq_false c4
    clear c4
    by_cases c19 : (l0.length : Int) > 100
    ·
     rw [if_pos c19] at H
     have c19b0 : decide (100 < (l0.length : Int)) = true := decide_eq_true c19
     have c19b1 : decide (100 < l0.length) = true := decide_eq_true (by omega)
     clear c19
     obtain rfl := Option.some.inj H
     go_wp2
     go_ret
     exact ⟨er, bh⟩
    ·
     rw [if_neg c19] at H
     have c19b0 : decide (100 < (l0.length : Int)) = false := decide_eq_false c19
     have c19b1 : decide (100 < l0.length) = false := decide_eq_false (by omega)
     clear c19
     by_cases c20 : (strOfNums x4_1).size + 5 ≤ 9223372036854775807
     ·
      rw [if_pos c20] at H
      have c20b0 := eq_true c20
      have c20b1 : decide ((strOfNums x4_1).size + 5 ≤ 9223372036854775807) = true := decide_eq_true c20
      try have c20b2 : (9223372036854775807 < (strOfNums x4_1).size + 5) = False := eq_false (Nat.not_lt.2 c20)
      obtain rfl := Option.some.inj H
      have hcv21 := own_string (P := Tryd.prog) Tryd.underlying22 Tryd.underlying5 Tryd.underlying9 (Kd.own_of_R HO_4.out)
      go_wp2
      go_ret
      exact ⟨er, bh⟩
     ·
      rw [if_neg c20] at H
      exact absurd H (by simp)

end Go.Proofs.YtfbgpjhnjdhpcaaDoor.P
