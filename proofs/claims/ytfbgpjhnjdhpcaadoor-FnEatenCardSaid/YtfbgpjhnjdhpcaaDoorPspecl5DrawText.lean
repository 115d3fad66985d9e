/- Functions of the Go program as Lean functions, and proofs that each Go function comes to its Lean function's answers; conditions: those that each theorem states. Written by this session's program hprint.py, which drives the kit's printer. -/
import Derived.Test.YtfbgpjhnjdhpcaaDoorP0
import Derived.Test.YtfbgpjhnjdhpcaaDoorGspecl1Bend
import Derived.Test.YtfbgpjhnjdhpcaaDoorPspecChunked
import Derived.Test.YtfbgpjhnjdhpcaaDoorPspecl1New
import Derived.Test.YtfbgpjhnjdhpcaaDoorPspecl1Once
import Derived.Test.YtfbgpjhnjdhpcaaDoorPspecl5DrawParts
import Derived.Test.YtfbgpjhnjdhpcaaDoorXA
import Derived.Test.YtfbgpjhnjdhpcaaDoorXB
namespace Go.Proofs.YtfbgpjhnjdhpcaaDoor.P
open Go.RowKit Go.Proofs.YtfbgpjhnjdhpcaaDoorW.PrintWords Go.Proofs.YtfbgpjhnjdhpcaaDoorW.PrintLast Go.Proofs.YtfbgpjhnjdhpcaaDoorW.PrintMore
attribute [local go_sem] max2_int min2_int max_two min_two max_three min_three max_four min_four   -- for this text's walks alone
set_option linter.unusedVariables false
set_option linter.unusedSimpArgs false

/-! ### spec_l5DrawText: function 53 -/
def spec_l5DrawText.f (k : Nat) (s0_0 : List Int) (s0_1 : Int) (s0_2 : Int) : Option (ByteArray × Int × Int) := (spec_l5DrawParts.f k s0_0 s0_1 s0_2).bind fun bt101 => ((spec_Chunked.f k bt101.1).bind fun t106 => ((spec_l1Once.f s0_0 bt101.2.1 bt101.2.2 2).bind fun bt107 => (if bt107.1 = true then ((spec_l1Bend.f k s0_0 bt107.2.1 bt107.2.2 t106 (⟨#[48, 97, 70, 13, 10, 32]⟩ : ByteArray)).bind fun bt110 => (some (bt110.1, bt110.2.1, bt110.2.2))) else (some (t106, bt107.2.1, bt107.2.2)))))
theorem spec_l5DrawText.mono : ∀ a0 a1 a2 k, LeO (spec_l5DrawText.f k a0 a1 a2) (spec_l5DrawText.f (k + 1) a0 a1 a2) := by
 intro a0 a1 a2 k
 unfold spec_l5DrawText.f
 repeat' first
   | (with_reducible exact spec_Chunked.mono _ _)
   | (with_reducible exact spec_l1Bend.mono _ _ _ _ _ _)
   | (with_reducible exact spec_l5DrawParts.mono _ _ _ _)
   | (with_reducible exact LeO.refl _)
   | (with_reducible exact LeO.none _)
   | (with_reducible refine LeO.ite ?_ ?_)
   | (with_reducible refine LeO.bind ?_ (fun _ => ?_))
   | exact spec_Chunked.mono _ _
   | exact spec_l1Bend.mono _ _ _ _ _ _
   | exact spec_l5DrawParts.mono _ _ _ _
   | exact LeO.none _
   | refine LeO.ite ?_ ?_
   | refine LeO.bind ?_ (fun _ => ?_)
set_option maxHeartbeats 8000000 in
set_option maxRecDepth 100000 in
theorem spec_l5DrawText.calls (k : Nat) (g : Nat) (s0_0 : List Int) (s0_1 : Int) (s0_2 : Int) (r1 : ByteArray) (r2 : Int) (r3 : Int) (w0 w : World) (hI : IsS76 w0 w g s0_0 s0_1 s0_2) (hB : Below w0.heap.size w0 w) (h : spec_l5DrawText.f k s0_0 s0_1 s0_2 = some (r1, r2, r3)) :
  Calls Tryd.prog 53 #[.pointer (some ⟨g, 0, none⟩)] w fun e w' => e = .returned (.string r1) ∧ IsS76 w0 w' g s0_0 r2 r3 ∧ Below w0.heap.size w0 w' ∧ KeepBut w w' g none := by
 have HI0 := Aside0.mk hI
 have HK := Aside0.mk (KeepBut.refl w g none)
 have HL := Aside0.mk hB.size
 clear hI
 have HW0 := Aside0.mk hB.size
 have HB := Aside0.mk hB
 clear hB
 have H : ((spec_l5DrawParts.f k s0_0 s0_1 s0_2).bind fun bt101 => ((spec_Chunked.f k bt101.1).bind fun t106 => ((spec_l1Once.f s0_0 bt101.2.1 bt101.2.2 2).bind fun bt107 => (if bt107.1 = true then ((spec_l1Bend.f k s0_0 bt107.2.1 bt107.2.2 t106 (⟨#[48, 97, 70, 13, 10, 32]⟩ : ByteArray)).bind fun bt110 => (some (bt110.1, bt110.2.1, bt110.2.2))) else (some (t106, bt107.2.1, bt107.2.2)))))) = some (r1, r2, r3) := h
 clear h
 obtain ⟨⟨t101, t104, t105⟩, A20, H⟩ := Option.bind_eq_some_iff.mp H
 try dsimp only at H
 have A2 := Aside0.mk A20
 clear A20
 obtain ⟨t106, A30, H⟩ := Option.bind_eq_some_iff.mp H
 try dsimp only at H
 have A3 := Aside0.mk A30
 clear A30
 obtain ⟨⟨t107, t108, t109⟩, A40, H⟩ := Option.bind_eq_some_iff.mp H
 try dsimp only at H
 have A4 := Aside0.mk A40
 clear A40
 by_cases c5 : t107 = true
 ·
  subst c5
  rw [if_pos rfl] at H
  replace H := Option.bind_eq_some_iff.mp H
  obtain ⟨⟨t110, t111, t112⟩, A60, H⟩ := H
  replace H : (some (t110, t111, t112)) = some (r1, r2, r3) := H
  have A6 := Aside0.mk A60
  clear A60
  simp only [Option.some.injEq, Prod.mk.injEq] at H
  obtain ⟨rfl, rfl, rfl⟩ := H
  go_enter Tryd.func53, Tryd.ntmps53
  go_wp2_with (first | ((with_reducible refine gate_callee (f := 49) rfl ?_); refine goesL_ (some 5) rfl rfl Tryd.func49 (by kernel_rfl) rfl #[.pointer (some ⟨g, 0, none⟩)] rfl mc ?_; (with_reducible refine (spec_l5DrawParts.calls k g s0_0 s0_1 s0_2 t101 t104 t105 w0 _ ?side1 ?side2 A2.out).mono ?_); (case side1 => exact zis); (case side2 => exact zbh); rintro e w7 ⟨v102, rfl, ho0, hi, hb, hk⟩; refine ⟨_, rfl, ?_⟩; have HO103 := Aside0.mk (Kd.R_lower ho0 (keep_size (w := w) (g := g) (row := none) zkk)); replace HK := Aside0.mk (KeepBut.trans zkk hk (.inl rfl)); replace HI0 := Aside0.mk (hi); replace HB := Aside0.mk (hb); (try clear hb); (try clear hb2); (try clear hk); (try clear hi); (try clear ho0); obtain ⟨Ao8, co8, eo8⟩ := Kd.R_slice HO103.out; subst eo8) | ((with_reducible refine gate_callee (f := 24) rfl ?_); refine goesL_ (some 6) rfl rfl Tryd.func24 (by kernel_rfl) rfl #[.slice Ao8 t101.length co8] rfl mc ?_; (with_reducible refine (spec_Chunked.calls k _ _ t101 t106 _ ?side1 ?side2 A3.out).mono ?_); (case side1 => repeat (first | exact (Kd.R_reads' HO103.out).2.2 | (with_reducible refine Kd.C_alloc ?_ _) | (with_reducible refine Kd.C_drewN ?_ _) | (with_reducible refine Kd.C_drew ?_))); (case side2 => exact (Kd.R_reads' HO103.out).2.1); rintro e w9 ⟨rfl, hb⟩; refine ⟨_, rfl, ?_⟩; replace HO103 := Aside0.mk (Kd.R_below (by (with_reducible repeat (first | apply Kd.R_alloc | apply Kd.R_drewN | apply Kd.R_drew)); exact HO103.out) hb); replace HK := Aside0.mk (KeepBut.trans zkk (KeepBut.of_below hb g none) (.inl rfl)); replace HI0 := Aside0.mk (IsS76.below zis hb); replace HB := Aside0.mk (below_step zbh hb); (try clear hb); (try clear hb2); (try clear hk); (try clear hi)) | ((with_reducible refine gate_callee (f := 35) rfl ?_); refine goesL_ (some 8) rfl rfl Tryd.func35 (by kernel_rfl) rfl #[.pointer (some ⟨g, 0, none⟩), .int .i64 2] rfl mc ?_; (with_reducible refine (spec_l1Once.calls g s0_0 t104 t105 2 true t108 t109 w0 _ ?side1 ?side2 A4.out).mono ?_); (case side1 => exact zis); (case side2 => exact zbh); rintro e w10 ⟨rfl, hi, hb, hk⟩; refine ⟨_, rfl, ?_⟩; replace HO103 := Aside0.mk (Kd.R_mono (Kd.R_keep (IsS76.apart (show IsS76 w0 _ g s0_0 t104 t105 from zis) (by (with_reducible repeat (first | apply Kd.R_alloc | apply Kd.R_drewN | apply Kd.R_drew)); exact HO103.out) (by decide)) hk (fun _ h => h.2)) (fun _ h => h.1)); replace HK := Aside0.mk (KeepBut.trans zkk hk (.inl rfl)); replace HI0 := Aside0.mk (hi); replace HB := Aside0.mk (hb); (try clear hb); (try clear hb2); (try clear hk); (try clear hi)) | ((with_reducible refine gate_callee (f := 39) rfl ?_); refine goesL_ (some 11) rfl rfl Tryd.func39 (by kernel_rfl) rfl #[.pointer (some ⟨g, 0, none⟩), .string t106, .string (⟨#[48, 97, 70, 13, 10, 32]⟩ : ByteArray)] rfl mc ?_; (with_reducible refine (spec_l1Bend.calls k g s0_0 t108 t109 t106 (⟨#[48, 97, 70, 13, 10, 32]⟩ : ByteArray) t110 t111 t112 w0 _ ?side1 ?side2 A6.out).mono ?_); (case side1 => exact zis); (case side2 => exact zbh); rintro e w11 ⟨rfl, hi, hb, hk⟩; refine ⟨_, rfl, ?_⟩; replace HO103 := Aside0.mk (Kd.R_mono (Kd.R_keep (IsS76.apart (show IsS76 w0 _ g s0_0 t108 t109 from zis) (by (with_reducible repeat (first | apply Kd.R_alloc | apply Kd.R_drewN | apply Kd.R_drew)); exact HO103.out) (by decide)) hk (fun _ h => h.2)) (fun _ h => h.1)); replace HK := Aside0.mk (KeepBut.trans zkk hk (.inl rfl)); replace HI0 := Aside0.mk (hi); replace HB := Aside0.mk (hb); (try clear hb); (try clear hb2); (try clear hk); (try clear hi)))
  go_ret
  exact ⟨er, zis, zbh, zkk⟩
 ·
  replace c5 := Bool.eq_false_iff.mpr c5
  subst c5
  have H1 : (some (t106, t108, t109)) = some (r1, r2, r3) := by rw [if_neg (show ¬ (false = true) by decide)] at H; exact H
  clear H
  have H := H1
  clear H1
  simp only [Option.some.injEq, Prod.mk.injEq] at H
  obtain ⟨rfl, rfl, rfl⟩ := H
  go_enter Tryd.func53, Tryd.ntmps53
  go_wp2_with (first | ((with_reducible refine gate_callee (f := 49) rfl ?_); refine goesL_ (some 5) rfl rfl Tryd.func49 (by kernel_rfl) rfl #[.pointer (some ⟨g, 0, none⟩)] rfl mc ?_; (with_reducible refine (spec_l5DrawParts.calls k g s0_0 s0_1 s0_2 t101 t104 t105 w0 _ ?side1 ?side2 A2.out).mono ?_); (case side1 => exact zis); (case side2 => exact zbh); rintro e w12 ⟨v102, rfl, ho0, hi, hb, hk⟩; refine ⟨_, rfl, ?_⟩; have HO103 := Aside0.mk (Kd.R_lower ho0 (keep_size (w := w) (g := g) (row := none) zkk)); replace HK := Aside0.mk (KeepBut.trans zkk hk (.inl rfl)); replace HI0 := Aside0.mk (hi); replace HB := Aside0.mk (hb); (try clear hb); (try clear hb2); (try clear hk); (try clear hi); (try clear ho0); obtain ⟨Ao13, co13, eo13⟩ := Kd.R_slice HO103.out; subst eo13) | ((with_reducible refine gate_callee (f := 24) rfl ?_); refine goesL_ (some 6) rfl rfl Tryd.func24 (by kernel_rfl) rfl #[.slice Ao13 t101.length co13] rfl mc ?_; (with_reducible refine (spec_Chunked.calls k _ _ t101 t106 _ ?side1 ?side2 A3.out).mono ?_); (case side1 => repeat (first | exact (Kd.R_reads' HO103.out).2.2 | (with_reducible refine Kd.C_alloc ?_ _) | (with_reducible refine Kd.C_drewN ?_ _) | (with_reducible refine Kd.C_drew ?_))); (case side2 => exact (Kd.R_reads' HO103.out).2.1); rintro e w14 ⟨rfl, hb⟩; refine ⟨_, rfl, ?_⟩; replace HO103 := Aside0.mk (Kd.R_below (by (with_reducible repeat (first | apply Kd.R_alloc | apply Kd.R_drewN | apply Kd.R_drew)); exact HO103.out) hb); replace HK := Aside0.mk (KeepBut.trans zkk (KeepBut.of_below hb g none) (.inl rfl)); replace HI0 := Aside0.mk (IsS76.below zis hb); replace HB := Aside0.mk (below_step zbh hb); (try clear hb); (try clear hb2); (try clear hk); (try clear hi)) | ((with_reducible refine gate_callee (f := 35) rfl ?_); refine goesL_ (some 8) rfl rfl Tryd.func35 (by kernel_rfl) rfl #[.pointer (some ⟨g, 0, none⟩), .int .i64 2] rfl mc ?_; (with_reducible refine (spec_l1Once.calls g s0_0 t104 t105 2 false t108 t109 w0 _ ?side1 ?side2 A4.out).mono ?_); (case side1 => exact zis); (case side2 => exact zbh); rintro e w15 ⟨rfl, hi, hb, hk⟩; refine ⟨_, rfl, ?_⟩; replace HO103 := Aside0.mk (Kd.R_mono (Kd.R_keep (IsS76.apart (show IsS76 w0 _ g s0_0 t104 t105 from zis) (by (with_reducible repeat (first | apply Kd.R_alloc | apply Kd.R_drewN | apply Kd.R_drew)); exact HO103.out) (by decide)) hk (fun _ h => h.2)) (fun _ h => h.1)); replace HK := Aside0.mk (KeepBut.trans zkk hk (.inl rfl)); replace HI0 := Aside0.mk (hi); replace HB := Aside0.mk (hb); (try clear hb); (try clear hb2); (try clear hk); (try clear hi)))
  go_ret
  exact ⟨er, zis, zbh, zkk⟩

end Go.Proofs.YtfbgpjhnjdhpcaaDoor.P
