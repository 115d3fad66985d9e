/- Functions of the Go program as Lean functions, and proofs that each Go function comes to its Lean function's answers; conditions: those that each theorem states. Written by this session's program hprint.py, which drives the kit's printer. -/
import Derived.Test.YtalbfkhkfhnmjaaDoorP0
import Derived.Test.YtalbfkhkfhnmjaaDoorGimplItems
import Derived.Test.YtalbfkhkfhnmjaaDoorPimplTrimmed
import Derived.Test.YtalbfkhkfhnmjaaDoorPlawsbig
import Derived.Test.YtalbfkhkfhnmjaaDoorPlawslikeTexts
import Derived.Test.YtalbfkhkfhnmjaaDoorPspecDrawItems
import Derived.Test.YtalbfkhkfhnmjaaDoorPspecItems
import Derived.Test.YtalbfkhkfhnmjaaDoorXA
import Derived.Test.YtalbfkhkfhnmjaaDoorXW
namespace Go.Proofs.YtalbfkhkfhnmjaaDoor.P
open Go.RowKit Go.Proofs.YtalbfkhkfhnmjaaDoorW.PrintWords Go.Proofs.YtalbfkhkfhnmjaaDoorW.PrintLast Go.Proofs.YtalbfkhkfhnmjaaDoorW.PrintMore
attribute [local go_sem] max2_int min2_int max_two min_two max_three min_three max_four min_four   -- for this text's walks alone
set_option linter.unusedVariables false
set_option linter.unusedSimpArgs false

/-! ### laws_FnItems: function 4 -/
abbrev laws_FnItems.d0 : Array Bool := #[false, false, false, false, false, false, false, false, false, false, false, false, false, false, false, false, false]
abbrev laws_FnItems.d1 : Array Bool := #[true, false, false, false, false, false, false, false, false, false, false, false, false, false, false, false, false]
abbrev laws_FnItems.d2 : Array Bool := #[true, true, false, false, false, false, false, false, false, false, false, false, false, false, false, false, false]
abbrev laws_FnItems.d3 : Array Bool := #[true, true, true, false, false, false, false, false, false, false, false, false, false, false, false, false, false]
abbrev laws_FnItems.d4 : Array Bool := #[true, true, true, true, false, false, false, false, false, false, false, false, false, false, false, false, false]
abbrev laws_FnItems.d5 : Array Bool := #[true, true, true, true, true, false, false, false, false, false, false, false, false, false, false, false, false]
abbrev laws_FnItems.d6 : Array Bool := #[true, true, true, true, true, true, false, false, false, false, false, false, false, false, false, false, false]
abbrev laws_FnItems.d7 : Array Bool := #[true, true, true, true, true, true, true, false, false, false, false, false, false, false, false, false, false]
abbrev laws_FnItems.d8 : Array Bool := #[true, true, true, true, true, true, true, true, false, false, false, false, false, false, false, false, false]
abbrev laws_FnItems.d9 : Array Bool := #[true, true, true, true, true, true, true, true, true, false, false, false, false, false, false, false, false]
abbrev laws_FnItems.d10 : Array Bool := #[true, true, true, true, true, true, true, true, true, true, true, true, true, true, true, false, false]
abbrev laws_FnItems.d11 : Array Bool := #[true, true, true, true, true, true, true, true, true, true, true, true, true, true, true, true, false]
abbrev laws_FnItems.d12 : Array Bool := #[true, true, true, true, true, true, true, true, true, true, true, true, true, true, true, true, true]
mutual
def laws_FnItems.l0 : Nat → List ByteArray → ByteArray → Bool → Int → Option (Bool)
  | 0, _, _, _, _ => none
  | k + 1, x4, x5, x6, x7 => if x7 < (x4.length : Int) then (if 0 ≤ x7 then (if (rdOf ByteArray.empty x4 x7).toList = ([] : List UInt8) then (laws_FnItems.j1 k x4 x5 x6 x7 true) else ((impl_Trimmed.f (rdOf ByteArray.empty x4 x7)).bind fun t116 => (laws_FnItems.j1 k x4 x5 x6 x7 (t116.toList != (rdOf ByteArray.empty x4 x7).toList)))) else (none)) else (if x6 = true then (some true) else (if (x5.size : Int) > 400 then (some true) else ((impl_Items.f x5).bind fun t110 => ((laws_likeTexts.f k t110 x4).bind fun t113 => (some t113)))))
def laws_FnItems.j1 : Nat → List ByteArray → ByteArray → Bool → Int → Bool → Option (Bool)
  | 0, _, _, _, _, _ => none
  | k + 1, x4, x5, x6, x7, x41 => if x41 = true then (some false) else (if x7 > 0 then (if x5.size + 1 ≤ 9223372036854775807 then (if 0 ≤ x7 then (if x7 < (x4.length : Int) then (if (x5 ++ (⟨#[44]⟩ : ByteArray)).size + (rdOf ByteArray.empty x4 x7).size ≤ 9223372036854775807 then (if x6 = true then (laws_FnItems.l0 k x4 ((x5 ++ (⟨#[44]⟩ : ByteArray)) ++ (rdOf ByteArray.empty x4 x7)) true (wrap64 (x7 + 1))) else (if x7 = (wrap64 ((x4.length : Int) - 1)) then (if (rdOf ByteArray.empty x4 x7).size + 2 ≤ 9223372036854775807 then ((impl_Items.f ((rdOf ByteArray.empty x4 x7) ++ (⟨#[44, 120]⟩ : ByteArray))).bind fun t120 => (laws_FnItems.l0 k x4 ((x5 ++ (⟨#[44]⟩ : ByteArray)) ++ (rdOf ByteArray.empty x4 x7)) ((t120.length : Int) == 1) (wrap64 (x7 + 1)))) else (none)) else (laws_FnItems.l0 k x4 ((x5 ++ (⟨#[44]⟩ : ByteArray)) ++ (rdOf ByteArray.empty x4 x7)) false (wrap64 (x7 + 1))))) else (none)) else (none)) else (none)) else (none)) else (if 0 ≤ x7 then (if x7 < (x4.length : Int) then (if x5.size + (rdOf ByteArray.empty x4 x7).size ≤ 9223372036854775807 then (if x6 = true then (laws_FnItems.l0 k x4 (x5 ++ (rdOf ByteArray.empty x4 x7)) true (wrap64 (x7 + 1))) else (if x7 = (wrap64 ((x4.length : Int) - 1)) then (if (rdOf ByteArray.empty x4 x7).size + 2 ≤ 9223372036854775807 then ((impl_Items.f ((rdOf ByteArray.empty x4 x7) ++ (⟨#[44, 120]⟩ : ByteArray))).bind fun t125 => (laws_FnItems.l0 k x4 (x5 ++ (rdOf ByteArray.empty x4 x7)) ((t125.length : Int) == 1) (wrap64 (x7 + 1)))) else (none)) else (laws_FnItems.l0 k x4 (x5 ++ (rdOf ByteArray.empty x4 x7)) false (wrap64 (x7 + 1))))) else (none)) else (none)) else (none)))
end
def laws_FnItems.f (k : Nat) (l0 : List Int) : Option (Bool) := (laws_big.f l0).bind fun t101 => (if t101 = true then (some true) else ((spec_DrawItems.f k l0).bind fun t102 => ((impl_Items.f t102).bind fun t103 => ((spec_Items.f k t102).bind fun t106 => ((laws_likeTexts.f k t103 t106).bind fun t109 => (if t109 = true then (laws_FnItems.l0 k t103 (⟨#[]⟩ : ByteArray) false 0) else (some false)))))))
theorem laws_FnItems.mono_l : ∀ k, (∀ y0 y1 y2 y3, LeO (laws_FnItems.l0 k y0 y1 y2 y3) (laws_FnItems.l0 (k + 1) y0 y1 y2 y3)) ∧ (∀ y0 y1 y2 y3 y4, LeO (laws_FnItems.j1 k y0 y1 y2 y3 y4) (laws_FnItems.j1 (k + 1) y0 y1 y2 y3 y4))
  | 0 => ⟨fun _ _ _ _ r h => by simp [laws_FnItems.l0] at h, fun _ _ _ _ _ r h => by simp [laws_FnItems.j1] at h⟩
  | k + 1 => by
    obtain ⟨ih0, ih1⟩ := laws_FnItems.mono_l k
    refine ⟨?_, ?_⟩
    · intro y0 y1 y2 y3
      unfold laws_FnItems.l0
      repeat' first
      | (with_reducible exact ih0 _ _ _ _)
      | (with_reducible exact ih1 _ _ _ _ _)
      | (with_reducible exact laws_likeTexts.mono _ _ _)
      | (with_reducible exact spec_DrawItems.mono _ _)
      | (with_reducible exact spec_Items.mono _ _)
      | (with_reducible exact LeO.refl _)
      | (with_reducible exact LeO.none _)
      | (with_reducible refine LeO.ite ?_ ?_)
      | (with_reducible refine LeO.bind ?_ (fun _ => ?_))
      | exact ih0 _ _ _ _
      | exact ih1 _ _ _ _ _
      | exact laws_likeTexts.mono _ _ _
      | exact spec_DrawItems.mono _ _
      | exact spec_Items.mono _ _
      | exact LeO.none _
      | refine LeO.ite ?_ ?_
      | refine LeO.bind ?_ (fun _ => ?_)
    · intro y0 y1 y2 y3 y4
      unfold laws_FnItems.j1
      repeat' first
      | (with_reducible exact ih0 _ _ _ _)
      | (with_reducible exact ih1 _ _ _ _ _)
      | (with_reducible exact laws_likeTexts.mono _ _ _)
      | (with_reducible exact spec_DrawItems.mono _ _)
      | (with_reducible exact spec_Items.mono _ _)
      | (with_reducible exact LeO.refl _)
      | (with_reducible exact LeO.none _)
      | (with_reducible refine LeO.ite ?_ ?_)
      | (with_reducible refine LeO.bind ?_ (fun _ => ?_))
      | exact ih0 _ _ _ _
      | exact ih1 _ _ _ _ _
      | exact laws_likeTexts.mono _ _ _
      | exact spec_DrawItems.mono _ _
      | exact spec_Items.mono _ _
      | exact LeO.none _
      | refine LeO.ite ?_ ?_
      | refine LeO.bind ?_ (fun _ => ?_)
theorem laws_FnItems.mono : ∀ a0 k, LeO (laws_FnItems.f k a0) (laws_FnItems.f (k + 1) a0) := by
  intro a0 k
  obtain ⟨ih0, ih1⟩ := laws_FnItems.mono_l k
  unfold laws_FnItems.f
  repeat' first
      | (with_reducible exact ih0 _ _ _ _)
      | (with_reducible exact ih1 _ _ _ _ _)
      | (with_reducible exact laws_likeTexts.mono _ _ _)
      | (with_reducible exact spec_DrawItems.mono _ _)
      | (with_reducible exact spec_Items.mono _ _)
      | (with_reducible exact LeO.refl _)
      | (with_reducible exact LeO.none _)
      | (with_reducible refine LeO.ite ?_ ?_)
      | (with_reducible refine LeO.bind ?_ (fun _ => ?_))
      | exact ih0 _ _ _ _
      | exact ih1 _ _ _ _ _
      | exact laws_likeTexts.mono _ _ _
      | exact spec_DrawItems.mono _ _
      | exact spec_Items.mono _ _
      | exact LeO.none _
      | refine LeO.ite ?_ ?_
      | refine LeO.bind ?_ (fun _ => ?_)
def laws_FnItems.T12 : Bool × List (List Nat × List Nat) := (true, [([], []), ([], []), ([0, 1], [0, 1]), ([2], [2]), ([3], [3]), ([4], [4]), ([5], [5]), ([5], [5]), ([6, 7, 5], [5, 6, 7]), ([8, 5], [5, 8]), ([9, 5, 5], [5, 9]), ([5], [5]), ([5], [5]), ([11, 12, 5], [5, 11, 12]), ([13, 5], [5, 13]), ([10, 14, 5], [5, 10, 14]), ([5, 15], [5, 15])])
def laws_FnItems.B12 : List Nat := [0, 0, 3, 7, 15, 31, 63, 63, 255, 511, 1023, 63, 63, 6207, 14399, 32767, 65535]
theorem laws_FnItems.tab12 : rtab .any (opsOf Tryd.f4 12) = laws_FnItems.T12 := by kernel_rfl
theorem laws_FnItems.bits12 : waitsOk laws_FnItems.T12.2 laws_FnItems.B12 = true := by kernel_rfl
set_option maxHeartbeats 8000000 in
set_option maxRecDepth 100000 in
theorem laws_FnItems.calls (k : Nat) (A0 : Option Addr) (c0 : Nat) (l0 : List Int) (r : Bool) (w : World) (hr0 : Kd.C (Kd.int .u8) w A0 l0.length l0) (hc0 : l0.length ≤ c0) (h : laws_FnItems.f k l0 = some r) :
    Calls Tryd.prog 4 #[.slice A0 l0.length c0] w fun e w' => e = .returned (.bool r) ∧ Below w.heap.size w w' := by
  have HR0 := Aside0.mk hr0
  have HC0 := Aside0.mk hc0
  clear hr0 hc0
  have HB := Aside0.mk (Below.refl w.heap.size w)
  have H : ((laws_big.f l0).bind fun t101 => (if t101 = true then (some true) else ((spec_DrawItems.f k l0).bind fun t102 => ((impl_Items.f t102).bind fun t103 => ((spec_Items.f k t102).bind fun t106 => ((laws_likeTexts.f k t103 t106).bind fun t109 => (if t109 = true then (laws_FnItems.l0 k t103 (⟨#[]⟩ : ByteArray) false 0) else (some false)))))))) = some r := h
  clear h
  obtain ⟨t101, A20, H⟩ := Option.bind_eq_some_iff.mp H
  try dsimp only at H
  have A2 := Aside0.mk A20
  clear A20
  by_cases c3 : t101 = true
  · subst c3
    have H1 : (some true) = some r := by rw [if_pos rfl] at H; exact H
    clear H
    have H := H1
    clear H1
    obtain rfl := Option.some.inj H
    go_enter Tryd.func4, Tryd.ntmps4
    go_wp2_with (first | ((with_reducible refine gate_callee (f := 12) rfl ?_); refine goesL_ (some 9) rfl rfl Tryd.func12 (by kernel_rfl) rfl #[.slice A0 l0.length c0] rfl (by (try simp only [List.map_toArray, List.map_cons, List.map_nil]); first | done | rfl | (simp only [ne_nil_isEmpty]; rfl) | (simp only [List.length_drop, List.length_take]; rfl)) ?_; (with_reducible refine (laws_big.calls _ _ l0 true _ ?side1 ?side2 A2.out).mono ?_); (case side1 => repeat (first | exact HR0.out | (with_reducible refine Kd.C_alloc ?_ _) | (with_reducible refine Kd.C_drewN ?_ _) | (with_reducible refine Kd.C_drew ?_))); (case side2 => exact HC0.out); rintro e w' ⟨rfl, ⟨nd, rfl⟩⟩; refine ⟨_, rfl, ?_⟩))
    go_ret
    exact ⟨by first | rfl | (simp [ne_nil_isEmpty]; done) | (simp [errW_none, errW_some] <;> rfl) | (simp [*, errW_none, errW_some] <;> rfl), bh⟩
  · replace c3 := Bool.eq_false_iff.mpr c3
    subst c3
    rw [if_neg (show ¬ (false = true) by decide)] at H
    obtain ⟨t102, A40, H⟩ := Option.bind_eq_some_iff.mp H
    try dsimp only at H
    have A4 := Aside0.mk A40
    clear A40
    obtain ⟨t103, A50, H⟩ := Option.bind_eq_some_iff.mp H
    try dsimp only at H
    have A5 := Aside0.mk A50
    clear A50
    obtain ⟨t106, A60, H⟩ := Option.bind_eq_some_iff.mp H
    try dsimp only at H
    have A6 := Aside0.mk A60
    clear A60
    obtain ⟨t109, A70, H⟩ := Option.bind_eq_some_iff.mp H
    try dsimp only at H
    have A7 := Aside0.mk A70
    clear A70
    by_cases c8 : t109 = true
    · subst c8
      rw [if_pos rfl] at H
      have H' := Aside0.mk H
      clear H
      go_enter Tryd.func4, Tryd.ntmps4
      go_wp2_with (first | ((with_reducible refine gate_callee (f := 12) rfl ?_); refine goesL_ (some 9) rfl rfl Tryd.func12 (by kernel_rfl) rfl #[.slice A0 l0.length c0] rfl (by (try simp only [List.map_toArray, List.map_cons, List.map_nil]); first | done | rfl | (simp only [ne_nil_isEmpty]; rfl) | (simp only [List.length_drop, List.length_take]; rfl)) ?_; (with_reducible refine (laws_big.calls _ _ l0 false _ ?side1 ?side2 A2.out).mono ?_); (case side1 => repeat (first | exact HR0.out | (with_reducible refine Kd.C_alloc ?_ _) | (with_reducible refine Kd.C_drewN ?_ _) | (with_reducible refine Kd.C_drew ?_))); (case side2 => exact HC0.out); rintro e w' ⟨rfl, ⟨nd, rfl⟩⟩; refine ⟨_, rfl, ?_⟩) | ((with_reducible refine gate_callee (f := 13) rfl ?_); refine goesL_ (some 11) rfl rfl Tryd.func13 (by kernel_rfl) rfl #[.slice A0 l0.length c0] rfl (by (try simp only [List.map_toArray, List.map_cons, List.map_nil]); first | done | rfl | (simp only [ne_nil_isEmpty]; rfl) | (simp only [List.length_drop, List.length_take]; rfl)) ?_; (with_reducible refine (spec_DrawItems.calls k _ _ l0 t102 _ ?side1 ?side2 A4.out).mono ?_); (case side1 => repeat (first | exact HR0.out | (with_reducible refine Kd.C_alloc ?_ _) | (with_reducible refine Kd.C_drewN ?_ _) | (with_reducible refine Kd.C_drew ?_))); (case side2 => exact HC0.out); rintro e w9 ⟨rfl, hb⟩; refine ⟨_, rfl, ?_⟩; replace HB := Aside0.mk (below_step bh hb); (try clear hb); (try clear hb2); (try clear hk); (try clear hi)) | ((with_reducible refine gate_callee (f := 8) rfl ?_); refine goesL_ (some 13) rfl rfl Tryd.func8 (by kernel_rfl) rfl #[.string t102] rfl (by (try simp only [List.map_toArray, List.map_cons, List.map_nil]); first | done | rfl | (simp only [ne_nil_isEmpty]; rfl) | (simp only [List.length_drop, List.length_take]; rfl)) ?_; (with_reducible refine (impl_Items.calls t102 t103 _ A5.out).mono ?_); rintro e w10 ⟨v104, rfl, ho0, hb⟩; refine ⟨_, rfl, ?_⟩; have HO105 := Aside0.mk (Kd.R_lower ho0 (below_size bh)); replace HB := Aside0.mk (below_step bh hb); (try clear hb); (try clear hb2); (try clear hk); (try clear hi); (try clear ho0)) | ((with_reducible refine gate_callee (f := 7) rfl ?_); refine goesL_ (some 16) rfl rfl Tryd.func7 (by kernel_rfl) rfl #[.string t102] rfl (by (try simp only [List.map_toArray, List.map_cons, List.map_nil]); first | done | rfl | (simp only [ne_nil_isEmpty]; rfl) | (simp only [List.length_drop, List.length_take]; rfl)) ?_; (with_reducible refine (spec_Items.calls k t102 t106 _ A6.out).mono ?_); rintro e w11 ⟨v107, rfl, ho0, hb⟩; refine ⟨_, rfl, ?_⟩; have HO108 := Aside0.mk (Kd.R_lower (Kd.R_new' ho0 (Kd.R_lt (by (with_reducible repeat (first | apply Kd.R_alloc | apply Kd.R_drewN | apply Kd.R_drew)); exact HO105.out))) (below_size bh)); replace HO105 := Aside0.mk (Kd.R_elder' (by (with_reducible repeat (first | apply Kd.R_alloc | apply Kd.R_drewN | apply Kd.R_drew)); exact HO105.out) (Kd.R_base ho0) hb); replace HB := Aside0.mk (below_step bh hb); (try clear hb); (try clear hb2); (try clear hk); (try clear hi); (try clear ho0); obtain ⟨Ao12, co12, eo12⟩ := Kd.R_slice HO105.out; subst eo12; obtain ⟨Ao13, co13, eo13⟩ := Kd.R_slice HO108.out; subst eo13) | ((with_reducible refine gate_callee (f := 14) rfl ?_); refine goesL_ (some 17) rfl rfl Tryd.func14 (by kernel_rfl) rfl #[.slice Ao12 t103.length co12, .slice Ao13 t106.length co13] rfl (by (try simp only [List.map_toArray, List.map_cons, List.map_nil]); first | done | rfl | (simp only [ne_nil_isEmpty]; rfl) | (simp only [List.length_drop, List.length_take]; rfl)) ?_; (with_reducible refine (laws_likeTexts.calls k _ _ t103 _ _ t106 true _ ?side1 ?side2 ?side3 ?side4 A7.out).mono ?_); (case side1 => repeat (first | exact (Kd.R_reads' HO105.out).2.2 | (with_reducible refine Kd.C_alloc ?_ _) | (with_reducible refine Kd.C_drewN ?_ _) | (with_reducible refine Kd.C_drew ?_))); (case side2 => exact (Kd.R_reads' HO105.out).2.1); (case side3 => repeat (first | exact (Kd.R_reads' HO108.out).2.2 | (with_reducible refine Kd.C_alloc ?_ _) | (with_reducible refine Kd.C_drewN ?_ _) | (with_reducible refine Kd.C_drew ?_))); (case side4 => exact (Kd.R_reads' HO108.out).2.1); rintro e w' ⟨rfl, ⟨nd, rfl⟩⟩; refine ⟨_, rfl, ?_⟩))
      go_loopg [5, 6, 7] k (fun kq v5 v6 v7 w' => ∃ (x5_1 : ByteArray) (x6_1 : Bool) (x7_1 : Int), v5 = .string x5_1 ∧ v6 = .bool x6_1 ∧ v7 = .int .i64 x7_1 ∧ Aside0 (laws_FnItems.l0 kq t103 x5_1 x6_1 x7_1 = some r) ∧ Aside0 (kq ≤ k) ∧ Aside0 (Kd.R Kd.string 9 w' w.heap.size (fun _ => True) (.slice Ao12 t103.length co12) t103) ∧ Aside0 (Below w.heap.size w w'))
      case atStart => exact ⟨((⟨#[]⟩ : ByteArray)), (false), (0), (by first | rfl | (simp; done) | (simp [*]; done)), (by first | rfl | (simp; done) | (simp [*]; done)), (by first | rfl | (simp; done) | (simp [*]; done)), H', ⟨Nat.le_refl _⟩, ⟨by (with_reducible repeat (first | apply Kd.R_alloc | apply Kd.R_drewN | apply Kd.R_drew)); exact Kd.R_mono HO105.out (fun _ hk => trivial)⟩, ⟨bh⟩⟩
      case round =>
        clear H'
        try clear c1
        try clear p2
        try clear c3
        try clear c4
        try clear c7
        try clear c8
        try clear c12
        try clear c13
        obtain ⟨x5_1, x6_1, x7_1, rfl, rfl, rfl, HA, HK1, HO_4, HB⟩ := hrel
        cases gk with
        | zero => exact absurd HA.out (by simp [laws_FnItems.l0])
        | succ k1 =>
          have H := HA.out
          clear HA
          simp only [laws_FnItems.l0] at H
          by_cases c14 : x7_1 < (t103.length : Int)
          · rw [if_pos c14] at H
            have c14b0 : decide (x7_1 < (t103.length : Int)) = true := decide_eq_true c14
            clear c14
            have HC15 := Aside0.mk H
            clear H
            go_upto_region 12 with (fail)
            go_cut [41] (fun v41 wc => ∃ (kq : Nat) (x41_14 : Bool), v41 = .bool x41_14 ∧ Aside0 (laws_FnItems.j1 kq t103 x5_1 x6_1 x7_1 x41_14 = some r) ∧ Aside0 (kq ≤ k1) ∧ Aside0 (Kd.R Kd.string 9 wc w.heap.size (fun _ => True) (.slice Ao12 t103.length co12) t103) ∧ Aside0 (Below w.heap.size w wc))
            case first =>
              have H := HC15.out
              clear HC15
              by_cases c16 : 0 ≤ x7_1
              · rw [if_pos c16] at H
                have c16b0 : decide (0 ≤ x7_1) = true := decide_eq_true c16
                clear c16
                (first | rw [c16b0] | (simp only [i64_w, i32_w]; rw [c16b0]) | skip)
                by_cases c17 : (rdOf ByteArray.empty t103 x7_1).toList = ([] : List UInt8)
                · rw [if_pos c17] at H
                  have c17b0 : ((rdOf ByteArray.empty t103 x7_1).toList == ([] : List UInt8)) = true := beq_iff_eq.mpr c17
                  have c17b1 : ((rdOf ByteArray.empty t103 x7_1).toList != ([] : List UInt8)) = false := bne_eq_false_iff_eq.mpr c17
                  clear c17
                  have H' := Aside0.mk H
                  clear H
                  try go_wp2
                  replace HO_4 := Aside0.mk (Kd.R_drew HO_4.out)
                  replace HB := Aside0.mk (below_drew1 HB.out)
                  have p114 : 0 ≤ (x7_1 : Int) := of_decide_eq_true (by first | (with_reducible assumption) | assumption)
                  have q114 : x7_1 < (t103.length : Int) := of_decide_eq_true (by first | (with_reducible assumption) | assumption)
                  obtain ⟨ad114, e114, hx114_0⟩ := Kd.at_string (Kd.R_reads' HO_4.out).2.2 x7_1 p114 q114
                  cases e114
                  replace p114 := eq_true p114
                  replace q114 := eq_true q114
                  refine start_ (n := 17) (S := fun w' => w'.cell? (ad114.add (x7_1).toNat) = some (.string (rdOf ByteArray.empty t103 x7_1))) (ds := []) laws_FnItems.d0 (by kernel_rfl) rfl rfl (hx114_0) (fun hHeld => ?_); refine with_tabW laws_FnItems.tab12 laws_FnItems.bits12 (fun HT_ HW_ => ?_)
                  generalize wr.drew = w18 at HO_4 HB hx114_0 hHeld ⊢
                  refine pu 0 25 laws_FnItems.d1 HT_ ?_
                  refine pu 1 26 laws_FnItems.d2 HT_ ?_
                  refine pu 2 27 laws_FnItems.d3 HT_ ?_
                  refine take_ (i := 3) (N := some 28) (v := ?_) (a' := ?_) laws_FnItems.d4 rfl rfl (take_ofW HT_.out HW_.out (by kernel_rfl)) (fun _ _ _ h => h) (Or.inl ⟨by rfl, ?_⟩) hHeld ?_ ?_
                  rotate_left
                  · intro w' s0
                    go_simp
                    with_reducible rfl
                  rotate_left
                  · simp only [Act.put, List.setIfInBounds_toArray, List.set_cons_zero, List.set_cons_succ, i64_w, i32_w]
                    rfl
                  refine pu 4 29 laws_FnItems.d5 HT_ ?_
                  refine pu 5 30 laws_FnItems.d6 HT_ ?_
                  refine un 6 31 laws_FnItems.d7 HT_ ?_
                  refine un 7 32 laws_FnItems.d8 HT_ ?_
                  refine un 8 33 laws_FnItems.d9 HT_ ?_
                  refine un 9 34 #[true, true, true, true, true, true, true, true, true, true, false, false, false, false, false, false, false] HT_ ?_
                  refine un 10 35 #[true, true, true, true, true, true, true, true, true, true, true, false, false, false, false, false, false] HT_ ?_
                  refine un 11 36 #[true, true, true, true, true, true, true, true, true, true, true, true, false, false, false, false, false] HT_ ?_
                  refine un 12 37 #[true, true, true, true, true, true, true, true, true, true, true, true, true, false, false, false, false] HT_ ?_
                  refine un 13 38 #[true, true, true, true, true, true, true, true, true, true, true, true, true, true, false, false, false] HT_ ?_
                  refine un 14 39 laws_FnItems.d10 HT_ ?_
                  refine un 15 40 laws_FnItems.d11 HT_ ?_
                  refine pu 16 41 laws_FnItems.d12 HT_ ?_
                  refine dn HT_ ?_
                  try go_wp2
                  go_meet
                  case rel => exact ⟨_, (true), (by first | rfl | (simp; done) | (simp [*]; done)), H', ⟨by have := HK1.out; first | omega | exact Nat.le_refl _⟩, ⟨by (with_reducible repeat (first | apply Kd.R_alloc | apply Kd.R_drewN | apply Kd.R_drew)); exact HO_4.out⟩, ⟨bh⟩⟩
                · rw [if_neg c17] at H
                  have c17b0 : ((rdOf ByteArray.empty t103 x7_1).toList == ([] : List UInt8)) = false := beq_eq_false_iff_ne.mpr c17
                  have c17b1 : ((rdOf ByteArray.empty t103 x7_1).toList != ([] : List UInt8)) = true := bne_iff_ne.mpr c17
                  obtain ⟨t116, A190, H⟩ := Option.bind_eq_some_iff.mp H
                  try dsimp only at H
                  have A19 := Aside0.mk A190
                  clear A190
                  have H' := Aside0.mk H
                  clear H
                  try go_wp2
                  replace HO_4 := Aside0.mk (Kd.R_drew HO_4.out)
                  replace HB := Aside0.mk (below_drew1 HB.out)
                  have p114 : 0 ≤ (x7_1 : Int) := of_decide_eq_true (by first | (with_reducible assumption) | assumption)
                  have q114 : x7_1 < (t103.length : Int) := of_decide_eq_true (by first | (with_reducible assumption) | assumption)
                  obtain ⟨ad114, e114, hx114_0⟩ := Kd.at_string (Kd.R_reads' HO_4.out).2.2 x7_1 p114 q114
                  cases e114
                  replace p114 := eq_true p114
                  replace q114 := eq_true q114
                  have p115 : 0 ≤ (x7_1 : Int) := of_decide_eq_true (by first | (with_reducible assumption) | assumption)
                  have q115 : x7_1 < (t103.length : Int) := of_decide_eq_true (by first | (with_reducible assumption) | assumption)
                  obtain ⟨ad115, e115, hx115_0⟩ := Kd.at_string (Kd.R_reads' HO_4.out).2.2 x7_1 p115 q115
                  obtain rfl : ad114 = ad115 := (by injection e115)
                  replace p115 := eq_true p115
                  replace q115 := eq_true q115
                  have p117 : 0 ≤ (x7_1 : Int) := of_decide_eq_true (by first | (with_reducible assumption) | assumption)
                  have q117 : x7_1 < (t103.length : Int) := of_decide_eq_true (by first | (with_reducible assumption) | assumption)
                  obtain ⟨ad117, e117, hx117_0⟩ := Kd.at_string (Kd.R_reads' HO_4.out).2.2 x7_1 p117 q117
                  obtain rfl : ad114 = ad117 := (by injection e117)
                  replace p117 := eq_true p117
                  replace q117 := eq_true q117
                  refine start_ (n := 17) (S := fun w' => w'.cell? (ad114.add (x7_1).toNat) = some (.string (rdOf ByteArray.empty t103 x7_1)) ∧ w'.cell? (ad114.add (x7_1).toNat) = some (.string (rdOf ByteArray.empty t103 x7_1)) ∧ w'.cell? (ad114.add (x7_1).toNat) = some (.string (rdOf ByteArray.empty t103 x7_1))) (ds := []) laws_FnItems.d0 (by kernel_rfl) rfl rfl ⟨hx114_0, hx115_0, hx117_0⟩ (fun hHeld => ?_); refine with_tabW laws_FnItems.tab12 laws_FnItems.bits12 (fun HT_ HW_ => ?_)
                  generalize wr.drew = w20 at HO_4 HB hx114_0 hx115_0 hx117_0 hHeld ⊢
                  refine pu 0 25 laws_FnItems.d1 HT_ ?_
                  refine pu 1 26 laws_FnItems.d2 HT_ ?_
                  refine pu 2 27 laws_FnItems.d3 HT_ ?_
                  refine tk 3 28 laws_FnItems.d4 HT_ HW_ hHeld ?_
                  refine pu 4 29 laws_FnItems.d5 HT_ ?_
                  refine pu 5 30 laws_FnItems.d6 HT_ ?_
                  refine pu 6 31 laws_FnItems.d7 HT_ ?_
                  refine pu 7 32 laws_FnItems.d8 HT_ ?_
                  refine pu 8 33 laws_FnItems.d9 HT_ ?_
                  refine pu 11 36 #[true, true, true, true, true, true, true, true, true, false, false, true, false, false, false, false, false] HT_ ?_
                  refine pu 12 37 #[true, true, true, true, true, true, true, true, true, false, false, true, true, false, false, false, false] HT_ ?_
                  refine pu 13 38 #[true, true, true, true, true, true, true, true, true, false, false, true, true, true, false, false, false] HT_ ?_
                  refine tk 9 34 #[true, true, true, true, true, true, true, true, true, true, false, true, true, true, false, false, false] HT_ HW_ hHeld ?_
                  refine tk 14 39 #[true, true, true, true, true, true, true, true, true, true, false, true, true, true, true, false, false] HT_ HW_ hHeld ?_
                  refine onx 10 35 laws_FnItems.d10 HT_ (fun K hK => ?_)
                  refine goes_ Tryd.func15 (by kernel_rfl) rfl #[.string (rdOf ByteArray.empty t103 x7_1)] (by rfl) rfl rfl (by (try simp only [List.map_toArray, List.map_cons, List.map_nil]); first | done | rfl | (simp only [ne_nil_isEmpty]; rfl) | (simp only [List.length_drop, List.length_take]; rfl)) ?_
                  with_reducible refine (impl_Trimmed.calls (rdOf ByteArray.empty t103 x7_1) t116 _ A19.out).mono ?_
                  rintro e w21 ⟨rfl, hb⟩
                  have HS0_ := (hb.cell (World.block_lt_of_cell? _ _ (hHeld.1))).trans (hHeld.1)
                  have HS1_ := (hb.cell (World.block_lt_of_cell? _ _ (hHeld.2.1))).trans (hHeld.2.1)
                  have HS2_ := (hb.cell (World.block_lt_of_cell? _ _ (hHeld.2.2))).trans (hHeld.2.2)
                  refine ⟨_, rfl, ?_⟩
                  replace HO_4 := Aside0.mk (Kd.R_below (by (with_reducible repeat (first | apply Kd.R_alloc | apply Kd.R_drewN | apply Kd.R_drew)); exact HO_4.out) hb)
                  replace HB := Aside0.mk (below_step bh hb)
                  (try clear hb)
                  (try clear hb2)
                  (try clear hk)
                  (try clear hi)
                  refine hK.out _ _ ⟨HS0_, HS1_, HS2_⟩ (fun hHeld => ?_)
                  clear hK K
                  refine nm 35 ?_
                  refine pu 15 40 laws_FnItems.d11 HT_ ?_
                  refine pu 16 41 laws_FnItems.d12 HT_ ?_
                  refine dn HT_ ?_
                  try go_wp2
                  go_meet
                  case rel => exact ⟨_, ((t116.toList != (rdOf ByteArray.empty t103 x7_1).toList)), (by first | rfl | (simp; done) | (simp [*]; done)), H', ⟨by have := HK1.out; first | omega | exact Nat.le_refl _⟩, ⟨by (with_reducible repeat (first | apply Kd.R_alloc | apply Kd.R_drewN | apply Kd.R_drew)); exact HO_4.out⟩, ⟨bh⟩⟩
              · rw [if_neg c16] at H
                exact absurd H (by simp)
            case rest =>
              clear HC15
              try clear c1
              try clear p1
              try clear q1
              try clear hx1
              try clear p2
              try clear c3
              try clear c4
              try clear c7
              try clear c8
              try clear p11
              try clear q11
              try clear hx11
              try clear c12
              try clear c13
              try clear c14
              try clear c14b0
              try clear c15
              try clear c16
              try clear c16b0
              try clear c17
              try clear c17b0
              try clear c17b1
              try clear hx114_0
              try clear hx115_0
              try clear hx117_0
              try clear p114
              try clear p115
              try clear p117
              try clear p2
              try clear q114
              try clear q115
              try clear q117
              obtain ⟨kq, x41_14, rfl, HA, HJ14, HO_4, HB⟩ := hcut
              cases kq with
              | zero => exact absurd HA.out (by simp [laws_FnItems.j1])
              | succ kj14 =>
                have H := HA.out
                clear HA
                simp only [laws_FnItems.j1] at H
                by_cases c22 : x41_14 = true
                · subst c22
                  have H1 : (some false) = some r := by rw [if_pos rfl] at H; exact H
                  clear H
                  have H := H1
                  clear H1
                  obtain rfl := Option.some.inj H
                  go_wp2
                  go_ret
                  exact ⟨by first | rfl | (simp [ne_nil_isEmpty]; done) | (simp [errW_none, errW_some] <;> rfl) | (simp [*, errW_none, errW_some] <;> rfl), bh⟩
                · replace c22 := Bool.eq_false_iff.mpr c22
                  subst c22
                  rw [if_neg (show ¬ (false = true) by decide)] at H
                  by_cases c23 : x7_1 > 0
                  · rw [if_pos c23] at H
                    have c23b0 : decide (0 < x7_1) = true := decide_eq_true c23
                    clear c23
                    by_cases c24 : x5_1.size + 1 ≤ 9223372036854775807
                    · rw [if_pos c24] at H
                      have c24b0 := eq_true c24
                      have c24b1 : decide (x5_1.size + 1 ≤ 9223372036854775807) = true := decide_eq_true c24
                      try have c24b2 : (9223372036854775807 < x5_1.size + 1) = False := eq_false (Nat.not_lt.2 c24)
                      by_cases c25 : 0 ≤ x7_1
                      · rw [if_pos c25] at H
                        have c25b0 : decide (0 ≤ x7_1) = true := decide_eq_true c25
                        clear c25
                        by_cases c26 : x7_1 < (t103.length : Int)
                        · rw [if_pos c26] at H
                          have c26b0 : decide (x7_1 < (t103.length : Int)) = true := decide_eq_true c26
                          clear c26
                          by_cases c27 : (x5_1 ++ (⟨#[44]⟩ : ByteArray)).size + (rdOf ByteArray.empty t103 x7_1).size ≤ 9223372036854775807
                          · rw [if_pos c27] at H
                            have c27b0 := eq_true c27
                            have c27b1 : decide ((x5_1 ++ (⟨#[44]⟩ : ByteArray)).size + (rdOf ByteArray.empty t103 x7_1).size ≤ 9223372036854775807) = true := decide_eq_true c27
                            try have c27b2 : (9223372036854775807 < (x5_1 ++ (⟨#[44]⟩ : ByteArray)).size + (rdOf ByteArray.empty t103 x7_1).size) = False := eq_false (Nat.not_lt.2 c27)
                            try have c27n3 := by have z_ := c27b2; simp only [ByteArray.size_append', ByteArray.size_mk', List.size_toArray, List.length_cons, List.length_nil, Nat.zero_add, Nat.reduceAdd] at z_; exact z_
                            by_cases c28 : x6_1 = true
                            · subst c28
                              rw [if_pos rfl] at H
                              have H' := Aside0.mk H
                              clear H
                              have p118 : 0 ≤ (x7_1 : Int) := of_decide_eq_true (by first | (with_reducible assumption) | assumption)
                              have q118 : x7_1 < (t103.length : Int) := of_decide_eq_true (by first | (with_reducible assumption) | assumption)
                              obtain ⟨ad118, e118, hx118_0⟩ := Kd.at_string (Kd.R_reads' HO_4.out).2.2 x7_1 p118 q118
                              cases e118
                              replace p118 := eq_true p118
                              replace q118 := eq_true q118
                              go_wp2
                              go_roundg kj14
                              case measure => have := HK1.out; have := HJ14.out; omega
                              case rel => exact ⟨((x5_1 ++ (⟨#[44]⟩ : ByteArray)) ++ (rdOf ByteArray.empty t103 x7_1)), (true), (wrap64 (x7_1 + 1)), (by first | rfl | (simp; done) | (simp [*]; done)), (by first | rfl | (simp; done) | (simp [*]; done)), (by first | rfl | (simp; done) | (simp [*]; done)), H', ⟨by have := HK1.out; have := HJ14.out; omega⟩, ⟨by (with_reducible repeat (first | apply Kd.R_alloc | apply Kd.R_drewN | apply Kd.R_drew)); exact HO_4.out⟩, ⟨bh⟩⟩
                            · replace c28 := Bool.eq_false_iff.mpr c28
                              subst c28
                              rw [if_neg (show ¬ (false = true) by decide)] at H
                              by_cases c29 : x7_1 = (wrap64 ((t103.length : Int) - 1))
                              · rw [if_pos c29] at H
                                have c29b0 : (x7_1 == (wrap64 ((t103.length : Int) - 1))) = true := beq_iff_eq.mpr c29
                                have c29b1 : (x7_1 != (wrap64 ((t103.length : Int) - 1))) = false := bne_eq_false_iff_eq.mpr c29
                                clear c29
                                by_cases c30 : (rdOf ByteArray.empty t103 x7_1).size + 2 ≤ 9223372036854775807
                                · rw [if_pos c30] at H
                                  have c30b0 := eq_true c30
                                  have c30b1 : decide ((rdOf ByteArray.empty t103 x7_1).size + 2 ≤ 9223372036854775807) = true := decide_eq_true c30
                                  try have c30b2 : (9223372036854775807 < (rdOf ByteArray.empty t103 x7_1).size + 2) = False := eq_false (Nat.not_lt.2 c30)
                                  obtain ⟨t120, A310, H⟩ := Option.bind_eq_some_iff.mp H
                                  try dsimp only at H
                                  have A31 := Aside0.mk A310
                                  clear A310
                                  have H' := Aside0.mk H
                                  clear H
                                  have p118 : 0 ≤ (x7_1 : Int) := of_decide_eq_true (by first | (with_reducible assumption) | assumption)
                                  have q118 : x7_1 < (t103.length : Int) := of_decide_eq_true (by first | (with_reducible assumption) | assumption)
                                  obtain ⟨ad118, e118, hx118_0⟩ := Kd.at_string (Kd.R_reads' HO_4.out).2.2 x7_1 p118 q118
                                  cases e118
                                  replace p118 := eq_true p118
                                  replace q118 := eq_true q118
                                  have p119 : 0 ≤ (x7_1 : Int) := of_decide_eq_true (by first | (with_reducible assumption) | assumption)
                                  have q119 : x7_1 < (t103.length : Int) := of_decide_eq_true (by first | (with_reducible assumption) | assumption)
                                  obtain ⟨ad119, e119, hx119_0⟩ := Kd.at_string (Kd.R_reads' HO_4.out).2.2 x7_1 p119 q119
                                  obtain rfl : ad118 = ad119 := (by injection e119)
                                  replace p119 := eq_true p119
                                  replace q119 := eq_true q119
                                  go_wp2_with (first | (go_at_call 8; (with_reducible refine (impl_Items.calls ((rdOf ByteArray.empty t103 x7_1) ++ (⟨#[44, 120]⟩ : ByteArray)) t120 _ A31.out).mono ?_); rintro e w32 ⟨v121, rfl, ho0, hb⟩; have HO122 := Aside0.mk (Kd.R_lower (Kd.R_new' ho0 (Kd.R_lt (by (with_reducible repeat (first | apply Kd.R_alloc | apply Kd.R_drewN | apply Kd.R_drew)); exact HO_4.out))) (below_size bh)); replace HO_4 := Aside0.mk (Kd.R_elder' (by (with_reducible repeat (first | apply Kd.R_alloc | apply Kd.R_drewN | apply Kd.R_drew)); exact HO_4.out) (Kd.R_base ho0) hb); replace HB := Aside0.mk (below_step bh hb); (try clear hb); (try clear hb2); (try clear hk); (try clear hi); (try clear ho0); obtain ⟨Ao33, co33, eo33⟩ := Kd.R_slice HO122.out; subst eo33))
                                  go_roundg kj14
                                  case measure => have := HK1.out; have := HJ14.out; omega
                                  case rel => exact ⟨((x5_1 ++ (⟨#[44]⟩ : ByteArray)) ++ (rdOf ByteArray.empty t103 x7_1)), (((t120.length : Int) == 1)), (wrap64 (x7_1 + 1)), (by first | rfl | (simp; done) | (simp [*]; done)), (by first | rfl | (simp; done) | (simp [*]; done)), (by first | rfl | (simp; done) | (simp [*]; done)), H', ⟨by have := HK1.out; have := HJ14.out; omega⟩, ⟨by (with_reducible repeat (first | apply Kd.R_alloc | apply Kd.R_drewN | apply Kd.R_drew)); exact Kd.R_mono HO_4.out (fun _ hk => trivial)⟩, ⟨bh⟩⟩
                                · rw [if_neg c30] at H
                                  exact absurd H (by simp)
                              · rw [if_neg c29] at H
                                have c29b0 : (x7_1 == (wrap64 ((t103.length : Int) - 1))) = false := beq_eq_false_iff_ne.mpr c29
                                have c29b1 : (x7_1 != (wrap64 ((t103.length : Int) - 1))) = true := bne_iff_ne.mpr c29
                                have H' := Aside0.mk H
                                clear H
                                have p118 : 0 ≤ (x7_1 : Int) := of_decide_eq_true (by first | (with_reducible assumption) | assumption)
                                have q118 : x7_1 < (t103.length : Int) := of_decide_eq_true (by first | (with_reducible assumption) | assumption)
                                obtain ⟨ad118, e118, hx118_0⟩ := Kd.at_string (Kd.R_reads' HO_4.out).2.2 x7_1 p118 q118
                                cases e118
                                replace p118 := eq_true p118
                                replace q118 := eq_true q118
                                go_wp2
                                go_roundg kj14
                                case measure => have := HK1.out; have := HJ14.out; omega
                                case rel => exact ⟨((x5_1 ++ (⟨#[44]⟩ : ByteArray)) ++ (rdOf ByteArray.empty t103 x7_1)), (false), (wrap64 (x7_1 + 1)), (by first | rfl | (simp; done) | (simp [*]; done)), (by first | rfl | (simp; done) | (simp [*]; done)), (by first | rfl | (simp; done) | (simp [*]; done)), H', ⟨by have := HK1.out; have := HJ14.out; omega⟩, ⟨by (with_reducible repeat (first | apply Kd.R_alloc | apply Kd.R_drewN | apply Kd.R_drew)); exact HO_4.out⟩, ⟨bh⟩⟩
                          · rw [if_neg c27] at H
                            exact absurd H (by simp)
                        · rw [if_neg c26] at H
                          exact absurd H (by simp)
                      · rw [if_neg c25] at H
                        exact absurd H (by simp)
                    · rw [if_neg c24] at H
                      exact absurd H (by simp)
                  · rw [if_neg c23] at H
                    have c23b0 : decide (0 < x7_1) = false := decide_eq_false c23
                    clear c23
                    by_cases c34 : 0 ≤ x7_1
                    · rw [if_pos c34] at H
                      have c34b0 : decide (0 ≤ x7_1) = true := decide_eq_true c34
                      clear c34
                      by_cases c35 : x7_1 < (t103.length : Int)
                      · rw [if_pos c35] at H
                        have c35b0 : decide (x7_1 < (t103.length : Int)) = true := decide_eq_true c35
                        clear c35
                        by_cases c36 : x5_1.size + (rdOf ByteArray.empty t103 x7_1).size ≤ 9223372036854775807
                        · rw [if_pos c36] at H
                          have c36b0 := eq_true c36
                          have c36b1 : decide (x5_1.size + (rdOf ByteArray.empty t103 x7_1).size ≤ 9223372036854775807) = true := decide_eq_true c36
                          try have c36b2 : (9223372036854775807 < x5_1.size + (rdOf ByteArray.empty t103 x7_1).size) = False := eq_false (Nat.not_lt.2 c36)
                          by_cases c37 : x6_1 = true
                          · subst c37
                            rw [if_pos rfl] at H
                            have H' := Aside0.mk H
                            clear H
                            have p123 : 0 ≤ (x7_1 : Int) := of_decide_eq_true (by first | (with_reducible assumption) | assumption)
                            have q123 : x7_1 < (t103.length : Int) := of_decide_eq_true (by first | (with_reducible assumption) | assumption)
                            obtain ⟨ad123, e123, hx123_0⟩ := Kd.at_string (Kd.R_reads' HO_4.out).2.2 x7_1 p123 q123
                            cases e123
                            replace p123 := eq_true p123
                            replace q123 := eq_true q123
                            go_wp2
                            go_roundg kj14
                            case measure => have := HK1.out; have := HJ14.out; omega
                            case rel => exact ⟨(x5_1 ++ (rdOf ByteArray.empty t103 x7_1)), (true), (wrap64 (x7_1 + 1)), (by first | rfl | (simp; done) | (simp [*]; done)), (by first | rfl | (simp; done) | (simp [*]; done)), (by first | rfl | (simp; done) | (simp [*]; done)), H', ⟨by have := HK1.out; have := HJ14.out; omega⟩, ⟨by (with_reducible repeat (first | apply Kd.R_alloc | apply Kd.R_drewN | apply Kd.R_drew)); exact HO_4.out⟩, ⟨bh⟩⟩
                          · replace c37 := Bool.eq_false_iff.mpr c37
                            subst c37
                            rw [if_neg (show ¬ (false = true) by decide)] at H
                            by_cases c38 : x7_1 = (wrap64 ((t103.length : Int) - 1))
                            · rw [if_pos c38] at H
                              have c38b0 : (x7_1 == (wrap64 ((t103.length : Int) - 1))) = true := beq_iff_eq.mpr c38
                              have c38b1 : (x7_1 != (wrap64 ((t103.length : Int) - 1))) = false := bne_eq_false_iff_eq.mpr c38
                              clear c38
                              by_cases c39 : (rdOf ByteArray.empty t103 x7_1).size + 2 ≤ 9223372036854775807
                              · rw [if_pos c39] at H
                                have c39b0 := eq_true c39
                                have c39b1 : decide ((rdOf ByteArray.empty t103 x7_1).size + 2 ≤ 9223372036854775807) = true := decide_eq_true c39
                                try have c39b2 : (9223372036854775807 < (rdOf ByteArray.empty t103 x7_1).size + 2) = False := eq_false (Nat.not_lt.2 c39)
                                obtain ⟨t125, A400, H⟩ := Option.bind_eq_some_iff.mp H
                                try dsimp only at H
                                have A40 := Aside0.mk A400
                                clear A400
                                have H' := Aside0.mk H
                                clear H
                                have p123 : 0 ≤ (x7_1 : Int) := of_decide_eq_true (by first | (with_reducible assumption) | assumption)
                                have q123 : x7_1 < (t103.length : Int) := of_decide_eq_true (by first | (with_reducible assumption) | assumption)
                                obtain ⟨ad123, e123, hx123_0⟩ := Kd.at_string (Kd.R_reads' HO_4.out).2.2 x7_1 p123 q123
                                cases e123
                                replace p123 := eq_true p123
                                replace q123 := eq_true q123
                                have p124 : 0 ≤ (x7_1 : Int) := of_decide_eq_true (by first | (with_reducible assumption) | assumption)
                                have q124 : x7_1 < (t103.length : Int) := of_decide_eq_true (by first | (with_reducible assumption) | assumption)
                                obtain ⟨ad124, e124, hx124_0⟩ := Kd.at_string (Kd.R_reads' HO_4.out).2.2 x7_1 p124 q124
                                obtain rfl : ad123 = ad124 := (by injection e124)
                                replace p124 := eq_true p124
                                replace q124 := eq_true q124
                                go_wp2_with (first | (go_at_call 8; (with_reducible refine (impl_Items.calls ((rdOf ByteArray.empty t103 x7_1) ++ (⟨#[44, 120]⟩ : ByteArray)) t125 _ A40.out).mono ?_); rintro e w41 ⟨v126, rfl, ho0, hb⟩; have HO127 := Aside0.mk (Kd.R_lower (Kd.R_new' ho0 (Kd.R_lt (by (with_reducible repeat (first | apply Kd.R_alloc | apply Kd.R_drewN | apply Kd.R_drew)); exact HO_4.out))) (below_size bh)); replace HO_4 := Aside0.mk (Kd.R_elder' (by (with_reducible repeat (first | apply Kd.R_alloc | apply Kd.R_drewN | apply Kd.R_drew)); exact HO_4.out) (Kd.R_base ho0) hb); replace HB := Aside0.mk (below_step bh hb); (try clear hb); (try clear hb2); (try clear hk); (try clear hi); (try clear ho0); obtain ⟨Ao42, co42, eo42⟩ := Kd.R_slice HO127.out; subst eo42))
                                go_roundg kj14
                                case measure => have := HK1.out; have := HJ14.out; omega
                                case rel => exact ⟨(x5_1 ++ (rdOf ByteArray.empty t103 x7_1)), (((t125.length : Int) == 1)), (wrap64 (x7_1 + 1)), (by first | rfl | (simp; done) | (simp [*]; done)), (by first | rfl | (simp; done) | (simp [*]; done)), (by first | rfl | (simp; done) | (simp [*]; done)), H', ⟨by have := HK1.out; have := HJ14.out; omega⟩, ⟨by (with_reducible repeat (first | apply Kd.R_alloc | apply Kd.R_drewN | apply Kd.R_drew)); exact Kd.R_mono HO_4.out (fun _ hk => trivial)⟩, ⟨bh⟩⟩
                              · rw [if_neg c39] at H
                                exact absurd H (by simp)
                            · rw [if_neg c38] at H
                              have c38b0 : (x7_1 == (wrap64 ((t103.length : Int) - 1))) = false := beq_eq_false_iff_ne.mpr c38
                              have c38b1 : (x7_1 != (wrap64 ((t103.length : Int) - 1))) = true := bne_iff_ne.mpr c38
                              have H' := Aside0.mk H
                              clear H
                              have p123 : 0 ≤ (x7_1 : Int) := of_decide_eq_true (by first | (with_reducible assumption) | assumption)
                              have q123 : x7_1 < (t103.length : Int) := of_decide_eq_true (by first | (with_reducible assumption) | assumption)
                              obtain ⟨ad123, e123, hx123_0⟩ := Kd.at_string (Kd.R_reads' HO_4.out).2.2 x7_1 p123 q123
                              cases e123
                              replace p123 := eq_true p123
                              replace q123 := eq_true q123
                              go_wp2
                              go_roundg kj14
                              case measure => have := HK1.out; have := HJ14.out; omega
                              case rel => exact ⟨(x5_1 ++ (rdOf ByteArray.empty t103 x7_1)), (false), (wrap64 (x7_1 + 1)), (by first | rfl | (simp; done) | (simp [*]; done)), (by first | rfl | (simp; done) | (simp [*]; done)), (by first | rfl | (simp; done) | (simp [*]; done)), H', ⟨by have := HK1.out; have := HJ14.out; omega⟩, ⟨by (with_reducible repeat (first | apply Kd.R_alloc | apply Kd.R_drewN | apply Kd.R_drew)); exact HO_4.out⟩, ⟨bh⟩⟩
                        · rw [if_neg c36] at H
                          exact absurd H (by simp)
                      · rw [if_neg c35] at H
                        exact absurd H (by simp)
                    · rw [if_neg c34] at H
                      exact absurd H (by simp)
          · rw [if_neg c14] at H
            have c14b0 : decide (x7_1 < (t103.length : Int)) = false := decide_eq_false c14
            clear c14
            by_cases c43 : x6_1 = true
            · subst c43
              have H1 : (some true) = some r := by rw [if_pos rfl] at H; exact H
              clear H
              have H := H1
              clear H1
              obtain rfl := Option.some.inj H
              go_wp2
              go_ret
              exact ⟨by first | rfl | (simp [ne_nil_isEmpty]; done) | (simp [errW_none, errW_some] <;> rfl) | (simp [*, errW_none, errW_some] <;> rfl), bh⟩
            · replace c43 := Bool.eq_false_iff.mpr c43
              subst c43
              rw [if_neg (show ¬ (false = true) by decide)] at H
              by_cases c44 : (x5_1.size : Int) > 400
              · rw [if_pos c44] at H
                have c44b0 : decide (400 < (x5_1.size : Int)) = true := decide_eq_true c44
                have c44b1 : decide (400 < x5_1.size) = true := decide_eq_true (by omega)
                clear c44
                obtain rfl := Option.some.inj H
                go_wp2
                go_ret
                exact ⟨by first | rfl | (simp [ne_nil_isEmpty]; done) | (simp [errW_none, errW_some] <;> rfl) | (simp [*, errW_none, errW_some] <;> rfl), bh⟩
              · rw [if_neg c44] at H
                have c44b0 : decide (400 < (x5_1.size : Int)) = false := decide_eq_false c44
                have c44b1 : decide (400 < x5_1.size) = false := decide_eq_false (by omega)
                clear c44
                obtain ⟨t110, A450, H⟩ := Option.bind_eq_some_iff.mp H
                try dsimp only at H
                have A45 := Aside0.mk A450
                clear A450
                replace H := Option.bind_eq_some_iff.mp H
                obtain ⟨t113, A460, H⟩ := H
                replace H : (some t113) = some r := H
                have A46 := Aside0.mk A460
                clear A460
                obtain rfl := Option.some.inj H
                go_wp2_with (first | (go_at_call 8; (with_reducible refine (impl_Items.calls x5_1 t110 _ A45.out).mono ?_); rintro e w47 ⟨v111, rfl, ho0, hb⟩; have HO112 := Aside0.mk (Kd.R_lower (Kd.R_new' ho0 (Kd.R_lt (by (with_reducible repeat (first | apply Kd.R_alloc | apply Kd.R_drewN | apply Kd.R_drew)); exact HO_4.out))) (below_size bh)); replace HO_4 := Aside0.mk (Kd.R_elder' (by (with_reducible repeat (first | apply Kd.R_alloc | apply Kd.R_drewN | apply Kd.R_drew)); exact HO_4.out) (Kd.R_base ho0) hb); replace HB := Aside0.mk (below_step bh hb); (try clear hb); (try clear hb2); (try clear hk); (try clear hi); (try clear ho0); obtain ⟨Ao48, co48, eo48⟩ := Kd.R_slice HO112.out; subst eo48) | (go_at_call 14; (with_reducible refine (laws_likeTexts.calls k1 _ _ t110 _ _ t103 t113 _ ?side1 ?side2 ?side3 ?side4 A46.out).mono ?_); (case side1 => repeat (first | exact (Kd.R_reads' HO112.out).2.2 | (with_reducible refine Kd.C_alloc ?_ _) | (with_reducible refine Kd.C_drewN ?_ _) | (with_reducible refine Kd.C_drew ?_))); (case side2 => exact (Kd.R_reads' HO112.out).2.1); (case side3 => repeat (first | exact (Kd.R_reads' HO_4.out).2.2 | (with_reducible refine Kd.C_alloc ?_ _) | (with_reducible refine Kd.C_drewN ?_ _) | (with_reducible refine Kd.C_drew ?_))); (case side4 => exact (Kd.R_reads' HO_4.out).2.1); rintro e w' ⟨rfl, ⟨nd, rfl⟩⟩))
                go_ret
                exact ⟨by first | rfl | (simp [ne_nil_isEmpty]; done) | (simp [errW_none, errW_some] <;> rfl) | (simp [*, errW_none, errW_some] <;> rfl), bh⟩
    · replace c8 := Bool.eq_false_iff.mpr c8
      subst c8
      have H1 : (some false) = some r := by rw [if_neg (show ¬ (false = true) by decide)] at H; exact H
      clear H
      have H := H1
      clear H1
      obtain rfl := Option.some.inj H
      go_enter Tryd.func4, Tryd.ntmps4
      go_wp2_with (first | ((with_reducible refine gate_callee (f := 12) rfl ?_); refine goesL_ (some 9) rfl rfl Tryd.func12 (by kernel_rfl) rfl #[.slice A0 l0.length c0] rfl (by (try simp only [List.map_toArray, List.map_cons, List.map_nil]); first | done | rfl | (simp only [ne_nil_isEmpty]; rfl) | (simp only [List.length_drop, List.length_take]; rfl)) ?_; (with_reducible refine (laws_big.calls _ _ l0 false _ ?side1 ?side2 A2.out).mono ?_); (case side1 => repeat (first | exact HR0.out | (with_reducible refine Kd.C_alloc ?_ _) | (with_reducible refine Kd.C_drewN ?_ _) | (with_reducible refine Kd.C_drew ?_))); (case side2 => exact HC0.out); rintro e w' ⟨rfl, ⟨nd, rfl⟩⟩; refine ⟨_, rfl, ?_⟩) | ((with_reducible refine gate_callee (f := 13) rfl ?_); refine goesL_ (some 11) rfl rfl Tryd.func13 (by kernel_rfl) rfl #[.slice A0 l0.length c0] rfl (by (try simp only [List.map_toArray, List.map_cons, List.map_nil]); first | done | rfl | (simp only [ne_nil_isEmpty]; rfl) | (simp only [List.length_drop, List.length_take]; rfl)) ?_; (with_reducible refine (spec_DrawItems.calls k _ _ l0 t102 _ ?side1 ?side2 A4.out).mono ?_); (case side1 => repeat (first | exact HR0.out | (with_reducible refine Kd.C_alloc ?_ _) | (with_reducible refine Kd.C_drewN ?_ _) | (with_reducible refine Kd.C_drew ?_))); (case side2 => exact HC0.out); rintro e w49 ⟨rfl, hb⟩; refine ⟨_, rfl, ?_⟩; replace HB := Aside0.mk (below_step bh hb); (try clear hb); (try clear hb2); (try clear hk); (try clear hi)) | ((with_reducible refine gate_callee (f := 8) rfl ?_); refine goesL_ (some 13) rfl rfl Tryd.func8 (by kernel_rfl) rfl #[.string t102] rfl (by (try simp only [List.map_toArray, List.map_cons, List.map_nil]); first | done | rfl | (simp only [ne_nil_isEmpty]; rfl) | (simp only [List.length_drop, List.length_take]; rfl)) ?_; (with_reducible refine (impl_Items.calls t102 t103 _ A5.out).mono ?_); rintro e w50 ⟨v104, rfl, ho0, hb⟩; refine ⟨_, rfl, ?_⟩; have HO105 := Aside0.mk (Kd.R_lower ho0 (below_size bh)); replace HB := Aside0.mk (below_step bh hb); (try clear hb); (try clear hb2); (try clear hk); (try clear hi); (try clear ho0)) | ((with_reducible refine gate_callee (f := 7) rfl ?_); refine goesL_ (some 16) rfl rfl Tryd.func7 (by kernel_rfl) rfl #[.string t102] rfl (by (try simp only [List.map_toArray, List.map_cons, List.map_nil]); first | done | rfl | (simp only [ne_nil_isEmpty]; rfl) | (simp only [List.length_drop, List.length_take]; rfl)) ?_; (with_reducible refine (spec_Items.calls k t102 t106 _ A6.out).mono ?_); rintro e w51 ⟨v107, rfl, ho0, hb⟩; refine ⟨_, rfl, ?_⟩; have HO108 := Aside0.mk (Kd.R_lower (Kd.R_new' ho0 (Kd.R_lt (by (with_reducible repeat (first | apply Kd.R_alloc | apply Kd.R_drewN | apply Kd.R_drew)); exact HO105.out))) (below_size bh)); replace HO105 := Aside0.mk (Kd.R_elder' (by (with_reducible repeat (first | apply Kd.R_alloc | apply Kd.R_drewN | apply Kd.R_drew)); exact HO105.out) (Kd.R_base ho0) hb); replace HB := Aside0.mk (below_step bh hb); (try clear hb); (try clear hb2); (try clear hk); (try clear hi); (try clear ho0); obtain ⟨Ao52, co52, eo52⟩ := Kd.R_slice HO105.out; subst eo52; obtain ⟨Ao53, co53, eo53⟩ := Kd.R_slice HO108.out; subst eo53) | ((with_reducible refine gate_callee (f := 14) rfl ?_); refine goesL_ (some 17) rfl rfl Tryd.func14 (by kernel_rfl) rfl #[.slice Ao52 t103.length co52, .slice Ao53 t106.length co53] rfl (by (try simp only [List.map_toArray, List.map_cons, List.map_nil]); first | done | rfl | (simp only [ne_nil_isEmpty]; rfl) | (simp only [List.length_drop, List.length_take]; rfl)) ?_; (with_reducible refine (laws_likeTexts.calls k _ _ t103 _ _ t106 false _ ?side1 ?side2 ?side3 ?side4 A7.out).mono ?_); (case side1 => repeat (first | exact (Kd.R_reads' HO105.out).2.2 | (with_reducible refine Kd.C_alloc ?_ _) | (with_reducible refine Kd.C_drewN ?_ _) | (with_reducible refine Kd.C_drew ?_))); (case side2 => exact (Kd.R_reads' HO105.out).2.1); (case side3 => repeat (first | exact (Kd.R_reads' HO108.out).2.2 | (with_reducible refine Kd.C_alloc ?_ _) | (with_reducible refine Kd.C_drewN ?_ _) | (with_reducible refine Kd.C_drew ?_))); (case side4 => exact (Kd.R_reads' HO108.out).2.1); rintro e w' ⟨rfl, ⟨nd, rfl⟩⟩; refine ⟨_, rfl, ?_⟩))
      go_ret
      exact ⟨by first | rfl | (simp [ne_nil_isEmpty]; done) | (simp [errW_none, errW_some] <;> rfl) | (simp [*, errW_none, errW_some] <;> rfl), bh⟩

/-- THE ONE PURE STATEMENT of laws_FnItems: yours. -/
def laws_FnItems.Pure : Prop := ∀ (l0 : List Int), l0.length ≤ maxLen → l0.length * 1 ≤ 140737488351232 → (∀ x ∈ l0, (Lit.int .u8 x).wf = true) → ∃ k, laws_FnItems.f k l0 = some true
theorem laws_FnItems.walk (P : laws_FnItems.Pure) (a0 : Option Addr) (len0 cap0 : Nat) (z0 : List Int) (w : World) (w0 : (a0 = none ∧ len0 = 0 ∧ cap0 = 0 ∧ z0 = []) ∨ ∃ x, a0 = some x ∧ len0 ≤ cap0 ∧ cap0 ≤ maxLen ∧ z0.length = cap0 ∧ (∀ i, i < z0.length → w.cell? (x.add i) = some (.int .u8 (z0.getD i 0))) ∧ ∀ n ∈ z0, (Lit.int .u8 n).wf = true) (y0 : len0 * 1 ≤ 140737488351232) :
    Calls Tryd.prog 4 #[.slice a0 len0 cap0] w fun e w' => e = .returned (.bool true) ∧ Below w.heap.size w w' := by
  obtain ⟨l0, rfl, hr0, hm0, hw0, hc0⟩ := ReadsInt.ofRowC w0
  obtain ⟨k, h⟩ := P l0 hm0 y0 hw0
  refine (laws_FnItems.calls k _ _ l0 true w (Kd.C_of_reads (d := (0 : Int)) (h1 := fun _ => rfl) hr0) hc0 h).mono ?_
  rintro e w' ⟨rfl, hd⟩
  exact ⟨rfl, hd⟩

end Go.Proofs.YtalbfkhkfhnmjaaDoor.P
