/- Functions of the Go program as Lean functions, and proofs about them, merged out of this session's texts by its program bundle.py; conditions: those that each theorem states. -/
import Derived.Below
import Derived.ChangeOld
import Derived.LaidMore
import Derived.Lay
import Derived.Lib.Bytealg
import Derived.Lib.Hide
import Derived.Lib.SlBytesConst
import Derived.OpenShut
import Derived.ProofKit
import Derived.SevenTiedAt
import Derived.ShutString
import Derived.SizedLaws
import Derived.Stop.Joined
import Derived.Test.YtfbgpjhnjdhpcaaDoorBFnChunked1
import Derived.Test.YtfbgpjhnjdhpcaaDoorCards
import Derived.Test.YtfbgpjhnjdhpcaaDoorGIndexByte
import Derived.Test.YtfbgpjhnjdhpcaaDoorGParseInt
import Derived.Test.YtfbgpjhnjdhpcaaDoorGall
import Derived.Test.YtfbgpjhnjdhpcaaDoorP0
import Derived.Test.YtfbgpjhnjdhpcaaDoorPimplChunkerbad
import Derived.Test.YtfbgpjhnjdhpcaaDoorPimplChunkereat
import Derived.Test.YtfbgpjhnjdhpcaaDoorPimplChunkersize
import Derived.Test.YtfbgpjhnjdhpcaaDoorPimplHexDigits
import Derived.Test.YtfbgpjhnjdhpcaaDoorPimplisDigit
import Derived.Test.YtfbgpjhnjdhpcaaDoorPimplisHex
import Derived.Test.YtfbgpjhnjdhpcaaDoorPimplisLetter
import Derived.Test.YtfbgpjhnjdhpcaaDoorProg
import Derived.Test.YtfbgpjhnjdhpcaaDoorPspecChunkerOk
import Derived.Test.YtfbgpjhnjdhpcaaDoorPspecHexDigits
import Derived.Test.YtfbgpjhnjdhpcaaDoorPspecl1Hex
import Derived.Test.YtfbgpjhnjdhpcaaDoorPspecl5DrawParts
import Derived.Test.YtfbgpjhnjdhpcaaDoorPspecl5Eat
import Derived.Test.YtfbgpjhnjdhpcaaDoorRows
import Derived.Test.YtfbgpjhnjdhpcaaDoorTie
import Derived.Test.YtfbgpjhnjdhpcaaDoorWSized
import Derived.Test.YtfbgpjhnjdhpcaaDoorXA
import Derived.Test.YtfbgpjhnjdhpcaaDoorXW
import Derived.WalkKit
namespace Go.Proofs.YtfbgpjhnjdhpcaaDoor.Q
set_option linter.unusedVariables false
set_option linter.unusedSimpArgs false
open Go.RowKit Go.Proofs.YtfbgpjhnjdhpcaaDoor.P Go.Proofs.YtfbgpjhnjdhpcaaDoorW.PrintWords Go.Proofs.YtfbgpjhnjdhpcaaDoorW.PrintLast Go.Proofs.YtfbgpjhnjdhpcaaDoorW.PrintMore
theorem sizes_app (a b : List ByteArray) : sizes (a ++ b) = sizes a + sizes b := by simp [sizes]
theorem sizes_rep (n : Nat) : sizes (List.replicate n (⟨#[]⟩ : ByteArray)) = 0 := by
  induction n with
  | zero => rfl
  | succ n ih => rw [List.replicate_succ, sizes_cons, ih]; rfl
theorem drawParts_loop (b : List Int) (hb : b.length ≤ 140737488351232) (d : Nat) : ∀ (out : List ByteArray) (i h : Int), 0 ≤ i → out.length + d ≤ 10 → sizes out + 20 * d ≤ 200 →
    TotP (fun k => spec_l5DrawParts.l0 k out (d : Int) b i h) (fun r => r.1.length ≤ 101 ∧ sizes r.1 ≤ 4200 ∧ 0 ≤ r.2.1) := by
  induction d with
  | zero =>
    intro out i h h0 hl hs
    refine TotP.step (fun k => by simp only [spec_l5DrawParts.l0]; rw [if_neg (by omega)]) (TotP.bind (TotP.of (once_ok b i h 30 h0 hb)) fun r1 p1 => TotP.ite (fun _ => ?_) (fun _ => TotP.now ⟨by show out.length ≤ 101; omega, by show sizes out ≤ 4200; omega, p1⟩))
    refine TotP.bind (TotP.of (below_ok b _ _ 2 p1 hb)) fun r2 p2 => TotP.ite (fun _ => ?_) (fun _ => TotP.ite (fun _ => ?_) (fun _ => TotP.now ⟨by show out.length ≤ 101; omega, by show sizes out ≤ 4200; omega, p2.2.2.2⟩))
    · refine TotP.bind (TotP.of (below_ok b _ _ 2 p2.2.2.2 hb)) fun r3 p3 => ?_
      have h2 := p3.2.1 (by decide)
      have h3 := p3.1
      have hw : wrap64 (100 + r3.1) = 100 + r3.1 := wrap_in (by omega) (by omega)
      rw [hw]
      refine TotP.ite (fun _ => TotP.ite (fun _ => TotP.now ⟨?_, ?_, p3.2.2.2⟩) (fun c => absurd (by omega) c)) (fun c => absurd (by omega) c)
      · rw [List.length_replicate]; omega
      · rw [sizes_rep]; omega
    · refine TotP.bind (TotP.of (below_ok b _ _ 60 p2.2.2.2 hb)) fun r3 p3 => ?_
      have h2 := p3.2.1 (by decide)
      have h3 := p3.1
      have hw : wrap64 (4000 - r3.1) = 4000 - r3.1 := wrap_in (by omega) (by omega)
      rw [hw]
      refine TotP.ite (fun _ => TotP.ite (fun _ => TotP.ite (fun _ => TotP.now ⟨?_, ?_, p3.2.2.2⟩) (fun c => absurd (by omega) c)) (fun c => absurd (by omega) c)) (fun c => absurd (by omega) c)
      · rw [List.length_append, List.length_singleton]; omega
      · rw [sizes_app, sizes_cons, strOfNums_size, List.length_replicate]
        show sizes out + ((4000 - r3.1).toNat + 0) ≤ 4200
        omega
  | succ d ih =>
    intro out i h h0 hl hs
    have hw : wrap64 (((d + 1 : Nat) : Int) - 1) = (d : Int) := by rw [wrap_in (by omega) (by omega)]; omega
    refine TotP.step (fun k => by simp only [spec_l5DrawParts.l0]; rw [if_pos (by omega), hw]) (TotP.bind (drawText_ok b hb _ _ h0 _ (by decide) 20 (by decide) (by decide)) fun r1 p1 => TotP.ite (fun _ => ?_) (fun c => absurd (by omega) c))
    have h20 : r1.1.size ≤ 20 := p1.2
    refine ih (out ++ [r1.1]) _ _ p1.1 (by rw [List.length_append, List.length_singleton]; omega) ?_
    rw [sizes_app, sizes_cons]
    show sizes out + (r1.1.size + 0) + 20 * d ≤ 200
    omega
theorem drawParts_ok (b : List Int) (hb : b.length ≤ 140737488351232) (i h : Int) (h0 : 0 ≤ i) : TotP (fun k => spec_l5DrawParts.f k b i h) (fun r => r.1.length ≤ 101 ∧ sizes r.1 ≤ 4200 ∧ 0 ≤ r.2.1) := by
  unfold spec_l5DrawParts.f
  refine TotP.bind (TotP.of (below_ok b i h 5 h0 hb)) fun r1 p1 => ?_
  have h5 := p1.2.1 (by decide)
  have h1 := p1.1
  have := drawParts_loop b hb r1.1.toNat [] r1.2.1 r1.2.2 p1.2.2.2 (by simp only [List.length_nil]; omega) (by show 0 + 20 * r1.1.toNat ≤ 200; omega)
  rw [Int.toNat_of_nonneg h1] at this
  exact this
theorem chunkedR_size (l : List ByteArray) : (chunkedR l).size ≤ 5000 := by
  unfold chunkedR
  split
  · exact Nat.zero_le _
  · split
    · exact Nat.zero_le _
    · have h := chunksL_le l (by omega)
      show (chunksL l ++ [48, 13, 10, 13, 10]).toArray.size ≤ 5000
      rw [List.size_toArray, List.length_append]
      simp only [List.length_cons, List.length_nil]
      omega
theorem drawChunkText_ok (b : List Int) (hb : b.length ≤ 140737488351232) (i h : Int) (h0 : 0 ≤ i) : TotP (fun k => spec_l5DrawText.f k b i h) (fun r => r.1.size ≤ 5002 ∧ 0 ≤ r.2.1) := by
  unfold spec_l5DrawText.f
  refine TotP.bind (drawParts_ok b hb i h h0) fun r1 p1 => TotP.bind (P := fun r => r = chunkedR r1.1) ⟨_, spec_Chunked_ev r1.1 (by have := p1.1; omega) (by have := p1.2.1; omega), rfl⟩ fun u pu => ?_
  subst pu
  have hz := chunkedR_size r1.1
  refine TotP.bind (TotP.of (once_ok b _ _ 2 p1.2.2 hb)) fun r2 p2 => TotP.ite (fun _ => ?_) (fun _ => TotP.now ⟨by show (chunkedR r1.1).size ≤ 5002; omega, p2⟩)
  refine TotP.bind (bend_ok b hb _ _ (by omega) (by decide) _ _ p2) fun r3 p3 => TotP.now ⟨?_, p3.2⟩
  have := p3.1
  show r3.1.size ≤ 5002
  omega
theorem drawChunked_ok (b : List Int) (hb : b.length ≤ 140737488351232) : TotP (fun k => spec_DrawChunked.f k b) (fun r => r.length ≤ 101 ∧ sizes r ≤ 4200) := by
  unfold spec_DrawChunked.f
  refine TotP.bind (new_ok b hb) fun c pc => ?_
  obtain ⟨c0, c1, c2⟩ := c
  obtain ⟨e, p⟩ := pc
  simp only at e p
  subst e
  exact TotP.bind (drawParts_ok _ hb _ _ p) fun r1 p1 => TotP.now ⟨p1.1, p1.2.1⟩
theorem drawUnchunked_ok (b : List Int) (hb : b.length ≤ 140737488351232) : TotP (fun k => spec_DrawUnchunked.f k b) (fun r => r.size ≤ 5004) := by
  unfold spec_DrawUnchunked.f
  refine TotP.bind (new_ok b hb) fun c pc => ?_
  obtain ⟨c0, c1, c2⟩ := c
  obtain ⟨e, p⟩ := pc
  simp only at e p
  subst e
  refine TotP.bind (drawChunkText_ok _ hb _ _ p) fun r1 p1 => TotP.bind (drawText_ok _ hb _ _ p1.2 _ (by decide) 2 (by decide) (by decide)) fun r2 p2 => ?_
  have h2 : r2.1.size ≤ 2 := p2.2
  have h1 := p1.1
  refine TotP.ite (fun _ => TotP.now ?_) (fun c => absurd (by omega) c)
  rw [ByteArray.size_append]
  omega
end Go.Proofs.YtfbgpjhnjdhpcaaDoor.Q
namespace Go.Proofs.YtfbgpjhnjdhpcaaDoor.P
open Go.RowKit Go.Proofs.YtfbgpjhnjdhpcaaDoorW.PrintWords Go.Proofs.YtfbgpjhnjdhpcaaDoorW.PrintLast Go.Proofs.YtfbgpjhnjdhpcaaDoorW.PrintMore
attribute [local go_sem] max2_int min2_int max_two min_two max_three min_three max_four min_four   -- for this text's walks alone
set_option linter.unusedVariables false
set_option linter.unusedSimpArgs false

/-! ### impl_ChunkerOk: function 29 -/
def impl_ChunkerOk.j0 : Nat → Bool → Int → Int → ByteArray → ByteArray → Option (Bool)
 | 0, _, _, _, _, _ => none
 | k + 1, x39, x102000, x102001, x102002, x102003 => if x39 = true then (some false) else (if x102001 > 0 then (if x102000 = 2 then (if x102001 = 0 then (if x102000 = 3 then (some false) else (if x102002.toList = ([] : List UInt8) then (some true) else (some (x102000 == 1)))) else (if x102002.toList = ([] : List UInt8) then (some true) else (some (x102000 == 1)))) else (if x102000 = 3 then (if x102001 = 0 then (some false) else (if x102002.toList = ([] : List UInt8) then (some true) else (some (x102000 == 1)))) else (some false))) else (if x102001 = 0 then (if x102000 = 3 then (some false) else (if x102002.toList = ([] : List UInt8) then (some true) else (some (x102000 == 1)))) else (if x102002.toList = ([] : List UInt8) then (some true) else (some (x102000 == 1)))))
def impl_ChunkerOk.f (k : Nat) (a0_0 : Int) (a0_1 : Int) (a0_2 : ByteArray) (a0_3 : ByteArray) : Option (Bool) := (impl_within.f a0_0 1 9).bind fun t102 => (if t102 = true then ((impl_within.f a0_1 0 4000).bind fun t103 => (if t103 = true then (if (a0_2.size : Int) > 13 then (impl_ChunkerOk.j0 k true a0_0 a0_1 a0_2 a0_3) else ((impl_all.f a0_2 62).bind fun t104 => (if t104 = true then (if (a0_3.size : Int) > 4000 then (impl_ChunkerOk.j0 k true a0_0 a0_1 a0_2 a0_3) else (impl_ChunkerOk.j0 k (decide ((wrap64 (a0_1 + (a0_3.size : Int))) > 4000)) a0_0 a0_1 a0_2 a0_3)) else (impl_ChunkerOk.j0 k true a0_0 a0_1 a0_2 a0_3)))) else (impl_ChunkerOk.j0 k true a0_0 a0_1 a0_2 a0_3))) else (impl_ChunkerOk.j0 k true a0_0 a0_1 a0_2 a0_3))
theorem impl_ChunkerOk.mono_l : ∀ k, (∀ y0 y1 y2 y3 y4, LeO (impl_ChunkerOk.j0 k y0 y1 y2 y3 y4) (impl_ChunkerOk.j0 (k + 1) y0 y1 y2 y3 y4))
 | 0 => fun _ _ _ _ _ r h => by simp [impl_ChunkerOk.j0] at h
 | k + 1 => by
  have ih0 := impl_ChunkerOk.mono_l k
  ·
   intro y0 y1 y2 y3 y4
   unfold impl_ChunkerOk.j0
   repeat' first
   | (with_reducible exact ih0 _ _ _ _ _)
   | (with_reducible exact LeO.refl _)
   | (with_reducible exact LeO.none _)
   | (with_reducible refine LeO.ite ?_ ?_)
   | (with_reducible refine LeO.bind ?_ (fun _ => ?_))
   | exact ih0 _ _ _ _ _
   | exact LeO.none _
   | refine LeO.ite ?_ ?_
   | refine LeO.bind ?_ (fun _ => ?_)
theorem impl_ChunkerOk.mono : ∀ a0 a1 a2 a3 k, LeO (impl_ChunkerOk.f k a0 a1 a2 a3) (impl_ChunkerOk.f (k + 1) a0 a1 a2 a3) := by
 intro a0 a1 a2 a3 k
 have ih0 := impl_ChunkerOk.mono_l k
 unfold impl_ChunkerOk.f
 repeat' first
   | (with_reducible exact ih0 _ _ _ _ _)
   | (with_reducible exact LeO.refl _)
   | (with_reducible exact LeO.none _)
   | (with_reducible refine LeO.ite ?_ ?_)
   | (with_reducible refine LeO.bind ?_ (fun _ => ?_))
   | exact ih0 _ _ _ _ _
   | exact LeO.none _
   | refine LeO.ite ?_ ?_
   | refine LeO.bind ?_ (fun _ => ?_)
set_option maxHeartbeats 8000000 in
set_option maxRecDepth 100000 in
theorem impl_ChunkerOk.calls (k : Nat) (a0_0 : Int) (a0_1 : Int) (a0_2 : ByteArray) (a0_3 : ByteArray) (r : Bool) (w : World) (h : impl_ChunkerOk.f k a0_0 a0_1 a0_2 a0_3 = some r) :
  Calls Tryd.prog 29 #[.agg #[.int .i64 a0_0, .int .i64 a0_1, .string a0_2, .string a0_3]] w fun e w' => e = .returned (.bool r) ∧ Below w.heap.size w w' := by
 have hu35 := Tryd.underlying35
 have HB := Aside0.mk (Below.refl w.heap.size w)
 have H : ((impl_within.f a0_0 1 9).bind fun t102 => (if t102 = true then ((impl_within.f a0_1 0 4000).bind fun t103 => (if t103 = true then (if (a0_2.size : Int) > 13 then (impl_ChunkerOk.j0 k true a0_0 a0_1 a0_2 a0_3) else ((impl_all.f a0_2 62).bind fun t104 => (if t104 = true then (if (a0_3.size : Int) > 4000 then (impl_ChunkerOk.j0 k true a0_0 a0_1 a0_2 a0_3) else (impl_ChunkerOk.j0 k (decide ((wrap64 (a0_1 + (a0_3.size : Int))) > 4000)) a0_0 a0_1 a0_2 a0_3)) else (impl_ChunkerOk.j0 k true a0_0 a0_1 a0_2 a0_3)))) else (impl_ChunkerOk.j0 k true a0_0 a0_1 a0_2 a0_3))) else (impl_ChunkerOk.j0 k true a0_0 a0_1 a0_2 a0_3))) = some r := h
 clear h
 have HC2 := Aside0.mk H
 clear H
 go_enter Tryd.func29, Tryd.ntmps29
 go_upto_region 1 with (first | ((with_reducible refine gate_dst (N := 1) rfl ?_); (try (refine gate_guard (by rfl) ?_; dsimp only)); refine bx 1 #[.int .i64 a0_0, .int .i64 a0_1, .string a0_2, .string a0_3] 35 ?_; intro gb101 hg w3 hbox hb; have BK101 := Aside0.mk (hbox); have GW101 := Aside0.mk (bz hg); have GE101 := Aside0.mk (bz hg); replace HB := Aside0.mk (below_step bh hb); clear hb hbox hg))
 (try simp only [Act.put, List.setIfInBounds_toArray, List.set_cons_zero, List.set_cons_succ])
 go_cut [39] (fun v39 wc => ∃ (kq : Nat) (x39_1 : Bool), v39 = .bool x39_1 ∧ Aside0 (impl_ChunkerOk.j0 kq x39_1 a0_0 a0_1 a0_2 a0_3 = some r) ∧ Aside0 (kq ≤ k) ∧ Aside0 (wc.heap[gb101]? = some (.cells #[.int .i64 a0_0, .int .i64 a0_1, .string a0_2, .string a0_3] 35 (0, 0))) ∧ Aside0 (Below w.heap.size w wc))
 case first =>
  have H := HC2.out
  clear HC2
  obtain ⟨t102, A40, H⟩ := Option.bind_eq_some_iff.mp H
  try dsimp only at H
  have A4 := Aside0.mk A40
  clear A40
  by_cases c5 : t102 = true
  ·
   subst c5
   rw [if_pos rfl] at H
   obtain ⟨t103, A60, H⟩ := Option.bind_eq_some_iff.mp H
   try dsimp only at H
   have A6 := Aside0.mk A60
   clear A60
   by_cases c7 : t103 = true
   ·
    subst c7
    rw [if_pos rfl] at H
    by_cases c8 : (a0_2.size : Int) > 13
    ·
     rw [if_pos c8] at H
     have c8b0 : decide (13 < (a0_2.size : Int)) = true := decide_eq_true c8
     have c8b1 : decide (13 < a0_2.size) = true := decide_eq_true (by omega)
     clear c8
     (first | rw [c8b0] | (simp only [i64_w, i32_w]; rw [c8b0]) | skip)
     have H' := Aside0.mk H
     clear H
     have hcz9_0 : w3.cell? ⟨gb101, 0, none⟩ = some (.int .i64 a0_0) := bc BK101 0
     have hcz9_1 : w3.cell? ⟨gb101, 1, none⟩ = some (.int .i64 a0_1) := bc BK101 1
     have hcz9_2 : w3.cell? ⟨gb101, 2, none⟩ = some (.string a0_2) := bc BK101 2
     have hcz9_3 : w3.cell? ⟨gb101, 3, none⟩ = some (.string a0_3) := bc BK101 3
     have hfz9_0 := blk_frozen BK101.out 0
     have hfz9_1 := blk_frozen BK101.out 1
     have hfz9_2 := blk_frozen BK101.out 2
     have hfz9_3 := blk_frozen BK101.out 3
     go_wp2_with (first | ((with_reducible refine gate_callee (f := 60) rfl ?_); refine goesL_ (some 5) rfl rfl Tryd.func60 (by kernel_rfl) rfl #[.int .i64 a0_0, .int .i64 1, .int .i64 9] rfl (by (try simp only [List.map_toArray, List.map_cons, List.map_nil]); first | done | rfl | (simp only [ne_nil_isEmpty]; rfl) | (simp only [List.length_drop, List.length_take]; rfl)) ?_; (with_reducible refine (impl_within.calls a0_0 1 9 true _ A4.out).mono ?_); rintro e w' ⟨rfl, ⟨nd, rfl⟩⟩; refine ⟨_, rfl, ?_⟩) | (go_at_call 60; (with_reducible refine (impl_within.calls a0_1 0 4000 true _ A6.out).mono ?_); rintro e w' ⟨rfl, ⟨nd, rfl⟩⟩))
     go_meet
     case rel => exact ⟨_, (true), (by first | rfl | (simp; done) | (simp [*]; done)), H', ⟨by first | omega | exact Nat.le_refl _⟩, ⟨by (with_reducible repeat (first | refine blk_drewN ?_ _ | refine blk_drew ?_ | refine blk_alloc ?_ _)); exact BK101.out⟩, ⟨bh⟩⟩
    ·
     rw [if_neg c8] at H
     have c8b0 : decide (13 < (a0_2.size : Int)) = false := decide_eq_false c8
     have c8b1 : decide (13 < a0_2.size) = false := decide_eq_false (by omega)
     clear c8
     (first | rw [c8b0] | (simp only [i64_w, i32_w]; rw [c8b0]) | skip)
     obtain ⟨t104, A100, H⟩ := Option.bind_eq_some_iff.mp H
     try dsimp only at H
     have A10 := Aside0.mk A100
     clear A100
     by_cases c11 : t104 = true
     ·
      subst c11
      rw [if_pos rfl] at H
      by_cases c12 : (a0_3.size : Int) > 4000
      ·
       rw [if_pos c12] at H
       have c12b0 : decide (4000 < (a0_3.size : Int)) = true := decide_eq_true c12
       have c12b1 : decide (4000 < a0_3.size) = true := decide_eq_true (by omega)
       clear c12
       have H' := Aside0.mk H
       clear H
       have hcz13_0 : w3.cell? ⟨gb101, 0, none⟩ = some (.int .i64 a0_0) := bc BK101 0
       have hcz13_1 : w3.cell? ⟨gb101, 1, none⟩ = some (.int .i64 a0_1) := bc BK101 1
       have hcz13_2 : w3.cell? ⟨gb101, 2, none⟩ = some (.string a0_2) := bc BK101 2
       have hcz13_3 : w3.cell? ⟨gb101, 3, none⟩ = some (.string a0_3) := bc BK101 3
       have hfz13_0 := blk_frozen BK101.out 0
       have hfz13_1 := blk_frozen BK101.out 1
       have hfz13_2 := blk_frozen BK101.out 2
       have hfz13_3 := blk_frozen BK101.out 3
       go_wp2_with (first | ((with_reducible refine gate_callee (f := 60) rfl ?_); refine goesL_ (some 5) rfl rfl Tryd.func60 (by kernel_rfl) rfl #[.int .i64 a0_0, .int .i64 1, .int .i64 9] rfl (by (try simp only [List.map_toArray, List.map_cons, List.map_nil]); first | done | rfl | (simp only [ne_nil_isEmpty]; rfl) | (simp only [List.length_drop, List.length_take]; rfl)) ?_; (with_reducible refine (impl_within.calls a0_0 1 9 true _ A4.out).mono ?_); rintro e w' ⟨rfl, ⟨nd, rfl⟩⟩; refine ⟨_, rfl, ?_⟩) | (go_at_call 60; (with_reducible refine (impl_within.calls a0_1 0 4000 true _ A6.out).mono ?_); rintro e w' ⟨rfl, ⟨nd, rfl⟩⟩) | (go_at_call 61; (with_reducible refine (impl_all.calls a0_2 62 true _ A10.out).mono ?_); rintro e w14 ⟨rfl, hb⟩; replace BK101 := Aside0.mk (blk_below (g := gb101) (o := .cells #[.int .i64 a0_0, .int .i64 a0_1, .string a0_2, .string a0_3] 35 (0, 0)) bk hb); replace HB := Aside0.mk (below_step bh hb); (try clear hb); (try clear hb2); (try clear hk); (try clear hi); have hcz15_0 : w14.cell? ⟨gb101, 0, none⟩ = some (.int .i64 a0_0) := bc BK101 0; have hcz15_1 : w14.cell? ⟨gb101, 1, none⟩ = some (.int .i64 a0_1) := bc BK101 1; have hcz15_2 : w14.cell? ⟨gb101, 2, none⟩ = some (.string a0_2) := bc BK101 2; have hcz15_3 : w14.cell? ⟨gb101, 3, none⟩ = some (.string a0_3) := bc BK101 3; have hfz15_0 := blk_frozen BK101.out 0; have hfz15_1 := blk_frozen BK101.out 1; have hfz15_2 := blk_frozen BK101.out 2; have hfz15_3 := blk_frozen BK101.out 3))
       go_meet
       case rel => exact ⟨_, (true), (by first | rfl | (simp; done) | (simp [*]; done)), H', ⟨by first | omega | exact Nat.le_refl _⟩, ⟨by (with_reducible repeat (first | refine blk_drewN ?_ _ | refine blk_drew ?_ | refine blk_alloc ?_ _)); exact BK101.out⟩, ⟨bh⟩⟩
      ·
       rw [if_neg c12] at H
       have c12b0 : decide (4000 < (a0_3.size : Int)) = false := decide_eq_false c12
       have c12b1 : decide (4000 < a0_3.size) = false := decide_eq_false (by omega)
       clear c12
       have H' := Aside0.mk H
       clear H
       have hcz16_0 : w3.cell? ⟨gb101, 0, none⟩ = some (.int .i64 a0_0) := bc BK101 0
       have hcz16_1 : w3.cell? ⟨gb101, 1, none⟩ = some (.int .i64 a0_1) := bc BK101 1
       have hcz16_2 : w3.cell? ⟨gb101, 2, none⟩ = some (.string a0_2) := bc BK101 2
       have hcz16_3 : w3.cell? ⟨gb101, 3, none⟩ = some (.string a0_3) := bc BK101 3
       have hfz16_0 := blk_frozen BK101.out 0
       have hfz16_1 := blk_frozen BK101.out 1
       have hfz16_2 := blk_frozen BK101.out 2
       have hfz16_3 := blk_frozen BK101.out 3
       go_wp2_with (first | ((with_reducible refine gate_callee (f := 60) rfl ?_); refine goesL_ (some 5) rfl rfl Tryd.func60 (by kernel_rfl) rfl #[.int .i64 a0_0, .int .i64 1, .int .i64 9] rfl (by (try simp only [List.map_toArray, List.map_cons, List.map_nil]); first | done | rfl | (simp only [ne_nil_isEmpty]; rfl) | (simp only [List.length_drop, List.length_take]; rfl)) ?_; (with_reducible refine (impl_within.calls a0_0 1 9 true _ A4.out).mono ?_); rintro e w' ⟨rfl, ⟨nd, rfl⟩⟩; refine ⟨_, rfl, ?_⟩) | (go_at_call 60; (with_reducible refine (impl_within.calls a0_1 0 4000 true _ A6.out).mono ?_); rintro e w' ⟨rfl, ⟨nd, rfl⟩⟩) | (go_at_call 61; (with_reducible refine (impl_all.calls a0_2 62 true _ A10.out).mono ?_); rintro e w17 ⟨rfl, hb⟩; replace BK101 := Aside0.mk (blk_below (g := gb101) (o := .cells #[.int .i64 a0_0, .int .i64 a0_1, .string a0_2, .string a0_3] 35 (0, 0)) bk hb); replace HB := Aside0.mk (below_step bh hb); (try clear hb); (try clear hb2); (try clear hk); (try clear hi); have hcz18_0 : w17.cell? ⟨gb101, 0, none⟩ = some (.int .i64 a0_0) := bc BK101 0; have hcz18_1 : w17.cell? ⟨gb101, 1, none⟩ = some (.int .i64 a0_1) := bc BK101 1; have hcz18_2 : w17.cell? ⟨gb101, 2, none⟩ = some (.string a0_2) := bc BK101 2; have hcz18_3 : w17.cell? ⟨gb101, 3, none⟩ = some (.string a0_3) := bc BK101 3; have hfz18_0 := blk_frozen BK101.out 0; have hfz18_1 := blk_frozen BK101.out 1; have hfz18_2 := blk_frozen BK101.out 2; have hfz18_3 := blk_frozen BK101.out 3))
       go_meet
       case rel => exact ⟨_, (decide ((wrap64 (a0_1 + (a0_3.size : Int))) > 4000)), (by first | rfl | (simp; done) | (simp [*]; done)), H', ⟨by first | omega | exact Nat.le_refl _⟩, ⟨by (with_reducible repeat (first | refine blk_drewN ?_ _ | refine blk_drew ?_ | refine blk_alloc ?_ _)); exact BK101.out⟩, ⟨bh⟩⟩
     ·
      replace c11 := Bool.eq_false_iff.mpr c11
      subst c11
      have H1 : (impl_ChunkerOk.j0 k true a0_0 a0_1 a0_2 a0_3) = some r := by rw [if_neg (show ¬ (false = true) by decide)] at H; exact H
      clear H
      have H := H1
      clear H1
      have H' := Aside0.mk H
      clear H
      have hcz19_0 : w3.cell? ⟨gb101, 0, none⟩ = some (.int .i64 a0_0) := bc BK101 0
      have hcz19_1 : w3.cell? ⟨gb101, 1, none⟩ = some (.int .i64 a0_1) := bc BK101 1
      have hcz19_2 : w3.cell? ⟨gb101, 2, none⟩ = some (.string a0_2) := bc BK101 2
      have hcz19_3 : w3.cell? ⟨gb101, 3, none⟩ = some (.string a0_3) := bc BK101 3
      have hfz19_0 := blk_frozen BK101.out 0
      have hfz19_1 := blk_frozen BK101.out 1
      have hfz19_2 := blk_frozen BK101.out 2
      have hfz19_3 := blk_frozen BK101.out 3
      go_wp2_with (first | ((with_reducible refine gate_callee (f := 60) rfl ?_); refine goesL_ (some 5) rfl rfl Tryd.func60 (by kernel_rfl) rfl #[.int .i64 a0_0, .int .i64 1, .int .i64 9] rfl (by (try simp only [List.map_toArray, List.map_cons, List.map_nil]); first | done | rfl | (simp only [ne_nil_isEmpty]; rfl) | (simp only [List.length_drop, List.length_take]; rfl)) ?_; (with_reducible refine (impl_within.calls a0_0 1 9 true _ A4.out).mono ?_); rintro e w' ⟨rfl, ⟨nd, rfl⟩⟩; refine ⟨_, rfl, ?_⟩) | (go_at_call 60; (with_reducible refine (impl_within.calls a0_1 0 4000 true _ A6.out).mono ?_); rintro e w' ⟨rfl, ⟨nd, rfl⟩⟩) | (go_at_call 61; (with_reducible refine (impl_all.calls a0_2 62 false _ A10.out).mono ?_); rintro e w20 ⟨rfl, hb⟩; replace BK101 := Aside0.mk (blk_below (g := gb101) (o := .cells #[.int .i64 a0_0, .int .i64 a0_1, .string a0_2, .string a0_3] 35 (0, 0)) bk hb); replace HB := Aside0.mk (below_step bh hb); (try clear hb); (try clear hb2); (try clear hk); (try clear hi)))
      go_meet
      case rel => exact ⟨_, (true), (by first | rfl | (simp; done) | (simp [*]; done)), H', ⟨by first | omega | exact Nat.le_refl _⟩, ⟨by (with_reducible repeat (first | refine blk_drewN ?_ _ | refine blk_drew ?_ | refine blk_alloc ?_ _)); exact BK101.out⟩, ⟨bh⟩⟩
   ·
    replace c7 := Bool.eq_false_iff.mpr c7
    subst c7
    have H1 : (impl_ChunkerOk.j0 k true a0_0 a0_1 a0_2 a0_3) = some r := by rw [if_neg (show ¬ (false = true) by decide)] at H; exact H
    clear H
    have H := H1
    clear H1
    have H' := Aside0.mk H
    clear H
    have hcz21_0 : w3.cell? ⟨gb101, 0, none⟩ = some (.int .i64 a0_0) := bc BK101 0
    have hcz21_1 : w3.cell? ⟨gb101, 1, none⟩ = some (.int .i64 a0_1) := bc BK101 1
    have hcz21_2 : w3.cell? ⟨gb101, 2, none⟩ = some (.string a0_2) := bc BK101 2
    have hcz21_3 : w3.cell? ⟨gb101, 3, none⟩ = some (.string a0_3) := bc BK101 3
    have hfz21_0 := blk_frozen BK101.out 0
    have hfz21_1 := blk_frozen BK101.out 1
    have hfz21_2 := blk_frozen BK101.out 2
    have hfz21_3 := blk_frozen BK101.out 3
    go_wp2_with (first | ((with_reducible refine gate_callee (f := 60) rfl ?_); refine goesL_ (some 5) rfl rfl Tryd.func60 (by kernel_rfl) rfl #[.int .i64 a0_0, .int .i64 1, .int .i64 9] rfl (by (try simp only [List.map_toArray, List.map_cons, List.map_nil]); first | done | rfl | (simp only [ne_nil_isEmpty]; rfl) | (simp only [List.length_drop, List.length_take]; rfl)) ?_; (with_reducible refine (impl_within.calls a0_0 1 9 true _ A4.out).mono ?_); rintro e w' ⟨rfl, ⟨nd, rfl⟩⟩; refine ⟨_, rfl, ?_⟩) | (go_at_call 60; (with_reducible refine (impl_within.calls a0_1 0 4000 false _ A6.out).mono ?_); rintro e w' ⟨rfl, ⟨nd, rfl⟩⟩))
    go_meet
    case rel => exact ⟨_, (true), (by first | rfl | (simp; done) | (simp [*]; done)), H', ⟨by first | omega | exact Nat.le_refl _⟩, ⟨by (with_reducible repeat (first | refine blk_drewN ?_ _ | refine blk_drew ?_ | refine blk_alloc ?_ _)); exact BK101.out⟩, ⟨bh⟩⟩
  ·
   replace c5 := Bool.eq_false_iff.mpr c5
   subst c5
   have H1 : (impl_ChunkerOk.j0 k true a0_0 a0_1 a0_2 a0_3) = some r := by rw [if_neg (show ¬ (false = true) by decide)] at H; exact H
   clear H
   have H := H1
   clear H1
   have H' := Aside0.mk H
   clear H
   have hcz22_0 : w3.cell? ⟨gb101, 0, none⟩ = some (.int .i64 a0_0) := bc BK101 0
   have hcz22_1 : w3.cell? ⟨gb101, 1, none⟩ = some (.int .i64 a0_1) := bc BK101 1
   have hcz22_2 : w3.cell? ⟨gb101, 2, none⟩ = some (.string a0_2) := bc BK101 2
   have hcz22_3 : w3.cell? ⟨gb101, 3, none⟩ = some (.string a0_3) := bc BK101 3
   have hfz22_0 := blk_frozen BK101.out 0
   have hfz22_1 := blk_frozen BK101.out 1
   have hfz22_2 := blk_frozen BK101.out 2
   have hfz22_3 := blk_frozen BK101.out 3
   go_wp2_with (first | ((with_reducible refine gate_callee (f := 60) rfl ?_); refine goesL_ (some 5) rfl rfl Tryd.func60 (by kernel_rfl) rfl #[.int .i64 a0_0, .int .i64 1, .int .i64 9] rfl (by (try simp only [List.map_toArray, List.map_cons, List.map_nil]); first | done | rfl | (simp only [ne_nil_isEmpty]; rfl) | (simp only [List.length_drop, List.length_take]; rfl)) ?_; (with_reducible refine (impl_within.calls a0_0 1 9 false _ A4.out).mono ?_); rintro e w' ⟨rfl, ⟨nd, rfl⟩⟩; refine ⟨_, rfl, ?_⟩))
   go_meet
   case rel => exact ⟨_, (true), (by first | rfl | (simp; done) | (simp [*]; done)), H', ⟨by first | omega | exact Nat.le_refl _⟩, ⟨by (with_reducible repeat (first | refine blk_drewN ?_ _ | refine blk_drew ?_ | refine blk_alloc ?_ _)); exact BK101.out⟩, ⟨bh⟩⟩
 case rest =>
  clear HC2
  try clear c1
  try clear c2
  try clear p2
  try clear c5
  try clear c6
  try clear p6
  try clear c7
  try clear c8
  try clear c8b0
  try clear c8b1
  try clear c11
  try clear c12
  try clear c12b0
  try clear c12b1
  try clear hcz13_0
  try clear hcz13_1
  try clear hcz13_2
  try clear hcz13_3
  try clear hcz15_0
  try clear hcz15_1
  try clear hcz15_2
  try clear hcz15_3
  try clear hcz16_0
  try clear hcz16_1
  try clear hcz16_2
  try clear hcz16_3
  try clear hcz18_0
  try clear hcz18_1
  try clear hcz18_2
  try clear hcz18_3
  try clear hcz19_0
  try clear hcz19_1
  try clear hcz19_2
  try clear hcz19_3
  try clear hcz21_0
  try clear hcz21_1
  try clear hcz21_2
  try clear hcz21_3
  try clear hcz22_0
  try clear hcz22_1
  try clear hcz22_2
  try clear hcz22_3
  try clear hcz9_0
  try clear hcz9_1
  try clear hcz9_2
  try clear hcz9_3
  try clear hfz13_0
  try clear hfz13_1
  try clear hfz13_2
  try clear hfz13_3
  try clear hfz15_0
  try clear hfz15_1
  try clear hfz15_2
  try clear hfz15_3
  try clear hfz16_0
  try clear hfz16_1
  try clear hfz16_2
  try clear hfz16_3
  try clear hfz18_0
  try clear hfz18_1
  try clear hfz18_2
  try clear hfz18_3
  try clear hfz19_0
  try clear hfz19_1
  try clear hfz19_2
  try clear hfz19_3
  try clear hfz21_0
  try clear hfz21_1
  try clear hfz21_2
  try clear hfz21_3
  try clear hfz22_0
  try clear hfz22_1
  try clear hfz22_2
  try clear hfz22_3
  try clear hfz9_0
  try clear hfz9_1
  try clear hfz9_2
  try clear hfz9_3
  obtain ⟨kq, x39_1, rfl, HA, HJ1, BK101, HB⟩ := hcut
  cases kq with
  | zero => exact absurd HA.out (by simp [impl_ChunkerOk.j0])
  | succ kj1 =>
   have H := HA.out
   clear HA
   simp only [impl_ChunkerOk.j0] at H
   by_cases c23 : x39_1 = true
   ·
    subst c23
    have H1 : (some false) = some r := by rw [if_pos rfl] at H; exact H
    clear H
    have H := H1
    clear H1
    obtain rfl := Option.some.inj H
    go_wp2
    go_ret
    exact ⟨er, bh⟩
   ·
    replace c23 := Bool.eq_false_iff.mpr c23
    subst c23
    rw [if_neg (show ¬ (false = true) by decide)] at H
    by_cases c24 : a0_1 > 0
    ·
     rw [if_pos c24] at H
     have c24b0 : decide (0 < a0_1) = true := decide_eq_true c24
     clear c24
     by_cases c25 : a0_0 = 2
     ·
      rw [if_pos c25] at H
      have c25b0 : (a0_0 == 2) = true := beq_iff_eq.mpr c25
      have c25b1 : (a0_0 != 2) = false := bne_eq_false_iff_eq.mpr c25
      clear c25
      by_cases c26 : a0_1 = 0
      ·
       rw [if_pos c26] at H
       have c26b0 : (a0_1 == 0) = true := beq_iff_eq.mpr c26
       have c26b1 : (a0_1 != 0) = false := bne_eq_false_iff_eq.mpr c26
       clear c26
       by_cases c27 : a0_0 = 3
       ·
        rw [if_pos c27] at H
        have c27b0 : (a0_0 == 3) = true := beq_iff_eq.mpr c27
        have c27b1 : (a0_0 != 3) = false := bne_eq_false_iff_eq.mpr c27
        clear c27
        obtain rfl := Option.some.inj H
        have hcz28_0 : wc.cell? ⟨gb101, 0, none⟩ = some (.int .i64 a0_0) := bc BK101 0
        have hcz28_1 : wc.cell? ⟨gb101, 1, none⟩ = some (.int .i64 a0_1) := bc BK101 1
        have hcz28_2 : wc.cell? ⟨gb101, 2, none⟩ = some (.string a0_2) := bc BK101 2
        have hcz28_3 : wc.cell? ⟨gb101, 3, none⟩ = some (.string a0_3) := bc BK101 3
        have hfz28_0 := blk_frozen BK101.out 0
        have hfz28_1 := blk_frozen BK101.out 1
        have hfz28_2 := blk_frozen BK101.out 2
        have hfz28_3 := blk_frozen BK101.out 3
        go_wp2
        go_ret
        exact ⟨er, bh⟩
       ·
        rw [if_neg c27] at H
        have c27b0 : (a0_0 == 3) = false := beq_eq_false_iff_ne.mpr c27
        have c27b1 : (a0_0 != 3) = true := bne_iff_ne.mpr c27
        by_cases c29 : a0_2.toList = ([] : List UInt8)
        ·
         rw [if_pos c29] at H
         have c29b0 : (a0_2.toList == ([] : List UInt8)) = true := beq_iff_eq.mpr c29
         have c29b1 : (a0_2.toList != ([] : List UInt8)) = false := bne_eq_false_iff_eq.mpr c29
         clear c29
         obtain rfl := Option.some.inj H
         have hcz30_0 : wc.cell? ⟨gb101, 0, none⟩ = some (.int .i64 a0_0) := bc BK101 0
         have hcz30_1 : wc.cell? ⟨gb101, 1, none⟩ = some (.int .i64 a0_1) := bc BK101 1
         have hcz30_2 : wc.cell? ⟨gb101, 2, none⟩ = some (.string a0_2) := bc BK101 2
         have hcz30_3 : wc.cell? ⟨gb101, 3, none⟩ = some (.string a0_3) := bc BK101 3
         have hfz30_0 := blk_frozen BK101.out 0
         have hfz30_1 := blk_frozen BK101.out 1
         have hfz30_2 := blk_frozen BK101.out 2
         have hfz30_3 := blk_frozen BK101.out 3
         go_wp2
         go_ret
         exact ⟨er, bh⟩
        ·
         rw [if_neg c29] at H
         have c29b0 : (a0_2.toList == ([] : List UInt8)) = false := beq_eq_false_iff_ne.mpr c29
         have c29b1 : (a0_2.toList != ([] : List UInt8)) = true := bne_iff_ne.mpr c29
         obtain rfl := Option.some.inj H
         have hcz31_0 : wc.cell? ⟨gb101, 0, none⟩ = some (.int .i64 a0_0) := bc BK101 0
         have hcz31_1 : wc.cell? ⟨gb101, 1, none⟩ = some (.int .i64 a0_1) := bc BK101 1
         have hcz31_2 : wc.cell? ⟨gb101, 2, none⟩ = some (.string a0_2) := bc BK101 2
         have hcz31_3 : wc.cell? ⟨gb101, 3, none⟩ = some (.string a0_3) := bc BK101 3
         have hfz31_0 := blk_frozen BK101.out 0
         have hfz31_1 := blk_frozen BK101.out 1
         have hfz31_2 := blk_frozen BK101.out 2
         have hfz31_3 := blk_frozen BK101.out 3
         go_wp2
         go_ret
         exact ⟨er, bh⟩
      ·
       rw [if_neg c26] at H
       have c26b0 : (a0_1 == 0) = false := beq_eq_false_iff_ne.mpr c26
       have c26b1 : (a0_1 != 0) = true := bne_iff_ne.mpr c26
       by_cases c32 : a0_2.toList = ([] : List UInt8)
       ·
        rw [if_pos c32] at H
        have c32b0 : (a0_2.toList == ([] : List UInt8)) = true := beq_iff_eq.mpr c32
        have c32b1 : (a0_2.toList != ([] : List UInt8)) = false := bne_eq_false_iff_eq.mpr c32
        clear c32
        obtain rfl := Option.some.inj H
        have hcz33_0 : wc.cell? ⟨gb101, 0, none⟩ = some (.int .i64 a0_0) := bc BK101 0
        have hcz33_1 : wc.cell? ⟨gb101, 1, none⟩ = some (.int .i64 a0_1) := bc BK101 1
        have hcz33_2 : wc.cell? ⟨gb101, 2, none⟩ = some (.string a0_2) := bc BK101 2
        have hcz33_3 : wc.cell? ⟨gb101, 3, none⟩ = some (.string a0_3) := bc BK101 3
        have hfz33_0 := blk_frozen BK101.out 0
        have hfz33_1 := blk_frozen BK101.out 1
        have hfz33_2 := blk_frozen BK101.out 2
        have hfz33_3 := blk_frozen BK101.out 3
        go_wp2
        go_ret
        exact ⟨er, bh⟩
       ·
        rw [if_neg c32] at H
        have c32b0 : (a0_2.toList == ([] : List UInt8)) = false := beq_eq_false_iff_ne.mpr c32
        have c32b1 : (a0_2.toList != ([] : List UInt8)) = true := bne_iff_ne.mpr c32
        obtain rfl := Option.some.inj H
        have hcz34_0 : wc.cell? ⟨gb101, 0, none⟩ = some (.int .i64 a0_0) := bc BK101 0
        have hcz34_1 : wc.cell? ⟨gb101, 1, none⟩ = some (.int .i64 a0_1) := bc BK101 1
        have hcz34_2 : wc.cell? ⟨gb101, 2, none⟩ = some (.string a0_2) := bc BK101 2
        have hcz34_3 : wc.cell? ⟨gb101, 3, none⟩ = some (.string a0_3) := bc BK101 3
        have hfz34_0 := blk_frozen BK101.out 0
        have hfz34_1 := blk_frozen BK101.out 1
        have hfz34_2 := blk_frozen BK101.out 2
        have hfz34_3 := blk_frozen BK101.out 3
        go_wp2
        go_ret
        exact ⟨er, bh⟩
     ·
      rw [if_neg c25] at H
      have c25b0 : (a0_0 == 2) = false := beq_eq_false_iff_ne.mpr c25
      have c25b1 : (a0_0 != 2) = true := bne_iff_ne.mpr c25
      by_cases c35 : a0_0 = 3
      ·
       rw [if_pos c35] at H
       have c35b0 : (a0_0 == 3) = true := beq_iff_eq.mpr c35
       have c35b1 : (a0_0 != 3) = false := bne_eq_false_iff_eq.mpr c35
       clear c35
       by_cases c36 : a0_1 = 0
       ·
        rw [if_pos c36] at H
        have c36b0 : (a0_1 == 0) = true := beq_iff_eq.mpr c36
        have c36b1 : (a0_1 != 0) = false := bne_eq_false_iff_eq.mpr c36
        clear c36
        obtain rfl := Option.some.inj H
        have hcz37_0 : wc.cell? ⟨gb101, 0, none⟩ = some (.int .i64 a0_0) := bc BK101 0
        have hcz37_1 : wc.cell? ⟨gb101, 1, none⟩ = some (.int .i64 a0_1) := bc BK101 1
        have hcz37_2 : wc.cell? ⟨gb101, 2, none⟩ = some (.string a0_2) := bc BK101 2
        have hcz37_3 : wc.cell? ⟨gb101, 3, none⟩ = some (.string a0_3) := bc BK101 3
        have hfz37_0 := blk_frozen BK101.out 0
        have hfz37_1 := blk_frozen BK101.out 1
        have hfz37_2 := blk_frozen BK101.out 2
        have hfz37_3 := blk_frozen BK101.out 3
        go_wp2
        go_ret
        exact ⟨er, bh⟩
       ·
        rw [if_neg c36] at H
        have c36b0 : (a0_1 == 0) = false := beq_eq_false_iff_ne.mpr c36
        have c36b1 : (a0_1 != 0) = true := bne_iff_ne.mpr c36
        by_cases c38 : a0_2.toList = ([] : List UInt8)
        ·
         rw [if_pos c38] at H
         have c38b0 : (a0_2.toList == ([] : List UInt8)) = true := beq_iff_eq.mpr c38
         have c38b1 : (a0_2.toList != ([] : List UInt8)) = false := bne_eq_false_iff_eq.mpr c38
         clear c38
         obtain rfl := Option.some.inj H
         have hcz39_0 : wc.cell? ⟨gb101, 0, none⟩ = some (.int .i64 a0_0) := bc BK101 0
         have hcz39_1 : wc.cell? ⟨gb101, 1, none⟩ = some (.int .i64 a0_1) := bc BK101 1
         have hcz39_2 : wc.cell? ⟨gb101, 2, none⟩ = some (.string a0_2) := bc BK101 2
         have hcz39_3 : wc.cell? ⟨gb101, 3, none⟩ = some (.string a0_3) := bc BK101 3
         have hfz39_0 := blk_frozen BK101.out 0
         have hfz39_1 := blk_frozen BK101.out 1
         have hfz39_2 := blk_frozen BK101.out 2
         have hfz39_3 := blk_frozen BK101.out 3
         go_wp2
         go_ret
         exact ⟨er, bh⟩
        ·
         rw [if_neg c38] at H
         have c38b0 : (a0_2.toList == ([] : List UInt8)) = false := beq_eq_false_iff_ne.mpr c38
         have c38b1 : (a0_2.toList != ([] : List UInt8)) = true := bne_iff_ne.mpr c38
         obtain rfl := Option.some.inj H
         have hcz40_0 : wc.cell? ⟨gb101, 0, none⟩ = some (.int .i64 a0_0) := bc BK101 0
         have hcz40_1 : wc.cell? ⟨gb101, 1, none⟩ = some (.int .i64 a0_1) := bc BK101 1
         have hcz40_2 : wc.cell? ⟨gb101, 2, none⟩ = some (.string a0_2) := bc BK101 2
         have hcz40_3 : wc.cell? ⟨gb101, 3, none⟩ = some (.string a0_3) := bc BK101 3
         have hfz40_0 := blk_frozen BK101.out 0
         have hfz40_1 := blk_frozen BK101.out 1
         have hfz40_2 := blk_frozen BK101.out 2
         have hfz40_3 := blk_frozen BK101.out 3
         go_wp2
         go_ret
         exact ⟨er, bh⟩
      ·
       rw [if_neg c35] at H
       have c35b0 : (a0_0 == 3) = false := beq_eq_false_iff_ne.mpr c35
       have c35b1 : (a0_0 != 3) = true := bne_iff_ne.mpr c35
       obtain rfl := Option.some.inj H
       have hcz41_0 : wc.cell? ⟨gb101, 0, none⟩ = some (.int .i64 a0_0) := bc BK101 0
       have hcz41_1 : wc.cell? ⟨gb101, 1, none⟩ = some (.int .i64 a0_1) := bc BK101 1
       have hcz41_2 : wc.cell? ⟨gb101, 2, none⟩ = some (.string a0_2) := bc BK101 2
       have hcz41_3 : wc.cell? ⟨gb101, 3, none⟩ = some (.string a0_3) := bc BK101 3
       have hfz41_0 := blk_frozen BK101.out 0
       have hfz41_1 := blk_frozen BK101.out 1
       have hfz41_2 := blk_frozen BK101.out 2
       have hfz41_3 := blk_frozen BK101.out 3
       go_wp2
       go_ret
       exact ⟨er, bh⟩
    ·
     rw [if_neg c24] at H
     have c24b0 : decide (0 < a0_1) = false := decide_eq_false c24
     clear c24
     by_cases c42 : a0_1 = 0
     ·
      rw [if_pos c42] at H
      have c42b0 : (a0_1 == 0) = true := beq_iff_eq.mpr c42
      have c42b1 : (a0_1 != 0) = false := bne_eq_false_iff_eq.mpr c42
      clear c42
      by_cases c43 : a0_0 = 3
      ·
       rw [if_pos c43] at H
       have c43b0 : (a0_0 == 3) = true := beq_iff_eq.mpr c43
       have c43b1 : (a0_0 != 3) = false := bne_eq_false_iff_eq.mpr c43
       clear c43
       obtain rfl := Option.some.inj H
       have hcz44_0 : wc.cell? ⟨gb101, 0, none⟩ = some (.int .i64 a0_0) := bc BK101 0
       have hcz44_1 : wc.cell? ⟨gb101, 1, none⟩ = some (.int .i64 a0_1) := bc BK101 1
       have hcz44_2 : wc.cell? ⟨gb101, 2, none⟩ = some (.string a0_2) := bc BK101 2
       have hcz44_3 : wc.cell? ⟨gb101, 3, none⟩ = some (.string a0_3) := bc BK101 3
       have hfz44_0 := blk_frozen BK101.out 0
       have hfz44_1 := blk_frozen BK101.out 1
       have hfz44_2 := blk_frozen BK101.out 2
       have hfz44_3 := blk_frozen BK101.out 3
       go_wp2
       go_ret
       exact ⟨er, bh⟩
      ·
       rw [if_neg c43] at H
       have c43b0 : (a0_0 == 3) = false := beq_eq_false_iff_ne.mpr c43
       have c43b1 : (a0_0 != 3) = true := bne_iff_ne.mpr c43
       by_cases c45 : a0_2.toList = ([] : List UInt8)
       ·
        rw [if_pos c45] at H
        have c45b0 : (a0_2.toList == ([] : List UInt8)) = true := beq_iff_eq.mpr c45
        have c45b1 : (a0_2.toList != ([] : List UInt8)) = false := bne_eq_false_iff_eq.mpr c45
        clear c45
        obtain rfl := Option.some.inj H
        have hcz46_0 : wc.cell? ⟨gb101, 0, none⟩ = some (.int .i64 a0_0) := bc BK101 0
        have hcz46_1 : wc.cell? ⟨gb101, 1, none⟩ = some (.int .i64 a0_1) := bc BK101 1
        have hcz46_2 : wc.cell? ⟨gb101, 2, none⟩ = some (.string a0_2) := bc BK101 2
        have hcz46_3 : wc.cell? ⟨gb101, 3, none⟩ = some (.string a0_3) := bc BK101 3
        have hfz46_0 := blk_frozen BK101.out 0
        have hfz46_1 := blk_frozen BK101.out 1
        have hfz46_2 := blk_frozen BK101.out 2
        have hfz46_3 := blk_frozen BK101.out 3
        go_wp2
        go_ret
        exact ⟨er, bh⟩
       ·
        rw [if_neg c45] at H
        have c45b0 : (a0_2.toList == ([] : List UInt8)) = false := beq_eq_false_iff_ne.mpr c45
        have c45b1 : (a0_2.toList != ([] : List UInt8)) = true := bne_iff_ne.mpr c45
        obtain rfl := Option.some.inj H
        have hcz47_0 : wc.cell? ⟨gb101, 0, none⟩ = some (.int .i64 a0_0) := bc BK101 0
        have hcz47_1 : wc.cell? ⟨gb101, 1, none⟩ = some (.int .i64 a0_1) := bc BK101 1
        have hcz47_2 : wc.cell? ⟨gb101, 2, none⟩ = some (.string a0_2) := bc BK101 2
        have hcz47_3 : wc.cell? ⟨gb101, 3, none⟩ = some (.string a0_3) := bc BK101 3
        have hfz47_0 := blk_frozen BK101.out 0
        have hfz47_1 := blk_frozen BK101.out 1
        have hfz47_2 := blk_frozen BK101.out 2
        have hfz47_3 := blk_frozen BK101.out 3
        go_wp2
        go_ret
        exact ⟨er, bh⟩
     ·
      rw [if_neg c42] at H
      have c42b0 : (a0_1 == 0) = false := beq_eq_false_iff_ne.mpr c42
      have c42b1 : (a0_1 != 0) = true := bne_iff_ne.mpr c42
      by_cases c48 : a0_2.toList = ([] : List UInt8)
      ·
       rw [if_pos c48] at H
       have c48b0 : (a0_2.toList == ([] : List UInt8)) = true := beq_iff_eq.mpr c48
       have c48b1 : (a0_2.toList != ([] : List UInt8)) = false := bne_eq_false_iff_eq.mpr c48
       clear c48
       obtain rfl := Option.some.inj H
       have hcz49_0 : wc.cell? ⟨gb101, 0, none⟩ = some (.int .i64 a0_0) := bc BK101 0
       have hcz49_1 : wc.cell? ⟨gb101, 1, none⟩ = some (.int .i64 a0_1) := bc BK101 1
       have hcz49_2 : wc.cell? ⟨gb101, 2, none⟩ = some (.string a0_2) := bc BK101 2
       have hcz49_3 : wc.cell? ⟨gb101, 3, none⟩ = some (.string a0_3) := bc BK101 3
       have hfz49_0 := blk_frozen BK101.out 0
       have hfz49_1 := blk_frozen BK101.out 1
       have hfz49_2 := blk_frozen BK101.out 2
       have hfz49_3 := blk_frozen BK101.out 3
       go_wp2
       go_ret
       exact ⟨er, bh⟩
      ·
       rw [if_neg c48] at H
       have c48b0 : (a0_2.toList == ([] : List UInt8)) = false := beq_eq_false_iff_ne.mpr c48
       have c48b1 : (a0_2.toList != ([] : List UInt8)) = true := bne_iff_ne.mpr c48
       obtain rfl := Option.some.inj H
       have hcz50_0 : wc.cell? ⟨gb101, 0, none⟩ = some (.int .i64 a0_0) := bc BK101 0
       have hcz50_1 : wc.cell? ⟨gb101, 1, none⟩ = some (.int .i64 a0_1) := bc BK101 1
       have hcz50_2 : wc.cell? ⟨gb101, 2, none⟩ = some (.string a0_2) := bc BK101 2
       have hcz50_3 : wc.cell? ⟨gb101, 3, none⟩ = some (.string a0_3) := bc BK101 3
       have hfz50_0 := blk_frozen BK101.out 0
       have hfz50_1 := blk_frozen BK101.out 1
       have hfz50_2 := blk_frozen BK101.out 2
       have hfz50_3 := blk_frozen BK101.out 3
       go_wp2
       go_ret
       exact ⟨er, bh⟩
end Go.Proofs.YtfbgpjhnjdhpcaaDoor.P
namespace Go.Proofs.YtfbgpjhnjdhpcaaDoor.P
set_option linter.unusedVariables false
set_option linter.unusedSimpArgs false
open Go.RowKit Go.Lib Go.Proofs.YtfbgpjhnjdhpcaaDoorW.PrintWords Go.Proofs.YtfbgpjhnjdhpcaaDoorW.PrintLast Go.Proofs.YtfbgpjhnjdhpcaaDoorW.PrintMore

def plainTab : List Int := [45, 46, 95, 126, 47, 58, 64, 33, 36, 38, 39, 40, 41, 42, 43, 44, 59, 61]
theorem plainTab_cell (w : World) (k : Nat) (h : k < 18) : (w.alloc (.cells #[.int .u8 45, .int .u8 46, .int .u8 95, .int .u8 126, .int .u8 47, .int .u8 58, .int .u8 64, .int .u8 33, .int .u8 36, .int .u8 38, .int .u8 39, .int .u8 40, .int .u8 41, .int .u8 42, .int .u8 43, .int .u8 44, .int .u8 59, .int .u8 61] 5 (18, 19))).cell? ⟨w.heap.size, k, none⟩ = some (.int .u8 (plainTab.getD k 0)) := by
  rw [World.cell?_alloc_mark]
  have hl : k < plainTab.length := h
  have e : (#[.int .u8 45, .int .u8 46, .int .u8 95, .int .u8 126, .int .u8 47, .int .u8 58, .int .u8 64, .int .u8 33, .int .u8 36, .int .u8 38, .int .u8 39, .int .u8 40, .int .u8 41, .int .u8 42, .int .u8 43, .int .u8 44, .int .u8 59, .int .u8 61] : Array Value) = (plainTab.map (Value.int .u8)).toArray := rfl
  rw [e, List.getElem?_toArray, List.getElem?_map, List.getD_eq_getElem?_getD, List.getElem?_eq_getElem hl]
  rfl

set_option maxHeartbeats 2000000 in
theorem spec_l3Plain_loop (c : Int) (w : World) (hc : c < 48 ∨ (57 < c ∧ c < 65) ∨ (90 < c ∧ c < 97) ∨ 122 < c) :
    Calls Tryd.prog 69 #[.int .u8 c] w fun e w' => e = .returned (.bool (plainTab.any fun x => x == c)) ∧ Below w.heap.size w w' := by
  have kc := fun (w : World) (C : Array Value) (n c : Nat) => Lib.run_convert_bytes_const (P := Tryd.prog) w 22 5 C n c Tryd.underlying22 Tryd.underlying5
  rcases hc with h | ⟨h, h'⟩ | ⟨h, h'⟩ | h
  all_goals
    go_enter Tryd.func69, Tryd.ntmps69
    go_wp2
    go_loop [30] (fun i => ∃ k : Nat, k ≤ 18 ∧ i = .int .i64 k ∧ Aside ((plainTab.take k).any (fun x => x == c) = false)) (fun i => 18 - (intOf i).toNat)
    case atStart => exact ⟨0, Nat.zero_le _, rfl, rfl⟩
    case round =>
      obtain ⟨k, hk, rfl, A⟩ := hrel
      by_cases hlt : k < 18
      · have hcell := plainTab_cell w k hlt
        have hltz : (k : Int) < 18 := by omega
        have hnext : plainTab.take (k + 1) = plainTab.take k ++ [plainTab.getD k 0] := by
          have h1 : k < plainTab.length := hlt
          rw [List.take_succ_eq_append_getElem h1, List.getD_eq_getElem?_getD, List.getElem?_eq_getElem h1]; rfl
        have N := Lib.hid hnext
        clear hnext
        obtain ⟨x, hx⟩ : ∃ x, plainTab.getD k 0 = x := ⟨_, rfl⟩
        rw [hx] at hcell
        have X := Lib.hid hx
        clear hx
        by_cases e : x = c
        · have eb : (x == c) = true := by simpa using e
          clear e
          go_wp2
          go_ret
          refine ⟨?_, by first | exact (Below.refl _ w).alloc (Nat.le_refl _) _ | (repeat (first | exact Below.refl _ _ | apply below_alloc))⟩
          have : plainTab.any (fun x => x == c) = true := by
            rw [← List.take_append_drop (k + 1) plainTab, List.any_append, N.out, List.any_append, X.out]
            simp [eb]
          rw [this]; rfl
        · have eb : (x == c) = false := by simpa using e
          clear e
          go_wp2
          go_round
          case rel => exact ⟨k + 1, by omega, by go_num, show Aside _ from (show ((plainTab.take (k + 1)).any fun x => x == c) = false by
            rw [N.out, List.any_append, A.out, X.out]
            simp [eb])⟩
          case measure => simp [intOf]; omega
      · have hltz : ¬ (k : Int) < 18 := by omega
        go_wp2
        go_ret
        refine ⟨?_, by first | exact (Below.refl _ w).alloc (Nat.le_refl _) _ | (repeat (first | exact Below.refl _ _ | apply below_alloc))⟩
        have : plainTab.any (fun x => x == c) = false := by
          have h2 := A.out
          rw [List.take_of_length_le (by show 18 ≤ k; omega)] at h2
          exact h2
        rw [this]; rfl

set_option maxHeartbeats 1000000 in
theorem spec_l3Plain_sure (c : Int) (w : World) (hc : (48 ≤ c ∧ c ≤ 57) ∨ (65 ≤ c ∧ c ≤ 90) ∨ (97 ≤ c ∧ c ≤ 122)) :
    Calls Tryd.prog 69 #[.int .u8 c] w fun e w' => e = .returned (.bool true) ∧ Below w.heap.size w w' := by
  rcases hc with ⟨h, h'⟩ | ⟨h, h'⟩ | ⟨h, h'⟩
  all_goals
    go_enter Tryd.func69, Tryd.ntmps69
    go_wp2
    go_ret
    exact ⟨rfl, Below.refl _ _⟩

def spec_l3Plain.f (a0 : Int) : Option Bool :=
  some (decide (48 ≤ a0 ∧ a0 ≤ 57) || decide (65 ≤ a0 ∧ a0 ≤ 90) || decide (97 ≤ a0 ∧ a0 ≤ 122) || plainTab.any fun x => x == a0)
theorem spec_l3Plain.calls (a0 : Int) (r : Bool) (w : World) (h : spec_l3Plain.f a0 = some r) :
    Calls Tryd.prog 69 #[.int .u8 a0] w fun e w' => e = .returned (.bool r) ∧ Below w.heap.size w w' := by
  obtain rfl := Option.some.inj h
  by_cases hc : (48 ≤ a0 ∧ a0 ≤ 57) ∨ (65 ≤ a0 ∧ a0 ≤ 90) ∨ (97 ≤ a0 ∧ a0 ≤ 122)
  · have : (decide (48 ≤ a0 ∧ a0 ≤ 57) || decide (65 ≤ a0 ∧ a0 ≤ 90) || decide (97 ≤ a0 ∧ a0 ≤ 122) || plainTab.any fun x => x == a0) = true := by
      rcases hc with h | h | h <;> simp [h]
    rw [this]
    exact spec_l3Plain_sure a0 w hc
  · have : (decide (48 ≤ a0 ∧ a0 ≤ 57) || decide (65 ≤ a0 ∧ a0 ≤ 90) || decide (97 ≤ a0 ∧ a0 ≤ 122) || plainTab.any fun x => x == a0) = (plainTab.any fun x => x == a0) := by
      rw [decide_eq_false (fun h => hc (.inl h)), decide_eq_false (fun h => hc (.inr (.inl h))), decide_eq_false (fun h => hc (.inr (.inr h)))]
      rfl
    rw [this]
    exact spec_l3Plain_loop a0 w (by omega)
end Go.Proofs.YtfbgpjhnjdhpcaaDoor.P
namespace Go.Proofs.YtfbgpjhnjdhpcaaDoor.P
open Go.RowKit Go.Proofs.YtfbgpjhnjdhpcaaDoorW.PrintWords Go.Proofs.YtfbgpjhnjdhpcaaDoorW.PrintLast Go.Proofs.YtfbgpjhnjdhpcaaDoorW.PrintMore
attribute [local go_sem] max2_int min2_int max_two min_two max_three min_three max_four min_four   -- for this text's walks alone
set_option linter.unusedVariables false
set_option linter.unusedSimpArgs false

/-! ### impl_isPlain: function 38 -/
def impl_isPlain.f (a0 : Int) : Option (Bool) := (impl_isLetter.f a0).bind fun t101 => (if t101 = true then (some true) else ((impl_isDigit.f a0).bind fun t102 => (if t102 = true then (some true) else ((strings_IndexByte.f (⟨#[45, 46, 95, 126, 47, 58, 64, 33, 36, 38, 39, 40, 41, 42, 43, 44, 59, 61]⟩ : ByteArray) a0).bind fun t103 => (some (decide (t103 ≥ 0)))))))
set_option maxHeartbeats 8000000 in
set_option maxRecDepth 100000 in
theorem impl_isPlain.calls (a0 : Int) (r : Bool) (w : World) (h : impl_isPlain.f a0 = some r) :
  Calls Tryd.prog 38 #[.int .u8 a0] w fun e w' => e = .returned (.bool r) ∧ Drawn0 w w' := by
 have H : ((impl_isLetter.f a0).bind fun t101 => (if t101 = true then (some true) else ((impl_isDigit.f a0).bind fun t102 => (if t102 = true then (some true) else ((strings_IndexByte.f (⟨#[45, 46, 95, 126, 47, 58, 64, 33, 36, 38, 39, 40, 41, 42, 43, 44, 59, 61]⟩ : ByteArray) a0).bind fun t103 => (some (decide (t103 ≥ 0)))))))) = some r := h
 clear h
 obtain ⟨t101, A20, H⟩ := Option.bind_eq_some_iff.mp H
 try dsimp only at H
 have A2 := Aside0.mk A20
 clear A20
 by_cases c3 : t101 = true
 ·
  subst c3
  have H1 : (some true) = some r := by rw [if_pos rfl] at H; exact H
  clear H
  have H := H1
  clear H1
  obtain rfl := Option.some.inj H
  go_enter Tryd.func38, Tryd.ntmps38
  go_wp2_with (first | ((with_reducible refine gate_callee (f := 64) rfl ?_); refine goesL_ (some 4) rfl rfl Tryd.func64 (by kernel_rfl) rfl #[.int .u8 a0] rfl mc ?_; (with_reducible refine (impl_isLetter.calls a0 true _ A2.out).mono ?_); rintro e w' ⟨rfl, ⟨nd, rfl⟩⟩; refine ⟨_, rfl, ?_⟩))
  go_ret
  exact ⟨by first | rfl | (simp; done) | (simp [*]; done), by repeat (first | exact Drawn0.refl _ | apply Drawn0.step)⟩
 ·
  replace c3 := Bool.eq_false_iff.mpr c3
  subst c3
  rw [if_neg (show ¬ (false = true) by decide)] at H
  obtain ⟨t102, A40, H⟩ := Option.bind_eq_some_iff.mp H
  try dsimp only at H
  have A4 := Aside0.mk A40
  clear A40
  by_cases c5 : t102 = true
  ·
   subst c5
   have H1 : (some true) = some r := by rw [if_pos rfl] at H; exact H
   clear H
   have H := H1
   clear H1
   obtain rfl := Option.some.inj H
   go_enter Tryd.func38, Tryd.ntmps38
   go_wp2_with (first | ((with_reducible refine gate_callee (f := 64) rfl ?_); refine goesL_ (some 4) rfl rfl Tryd.func64 (by kernel_rfl) rfl #[.int .u8 a0] rfl mc ?_; (with_reducible refine (impl_isLetter.calls a0 false _ A2.out).mono ?_); rintro e w' ⟨rfl, ⟨nd, rfl⟩⟩; refine ⟨_, rfl, ?_⟩) | (go_at_call 65; (with_reducible refine (impl_isDigit.calls a0 true _ A4.out).mono ?_); rintro e w' ⟨rfl, ⟨nd, rfl⟩⟩))
   go_ret
   exact ⟨by first | rfl | (simp; done) | (simp [*]; done), by repeat (first | exact Drawn0.refl _ | apply Drawn0.step)⟩
  ·
   replace c5 := Bool.eq_false_iff.mpr c5
   subst c5
   rw [if_neg (show ¬ (false = true) by decide)] at H
   replace H := Option.bind_eq_some_iff.mp H
   obtain ⟨t103, A60, H⟩ := H
   replace H : (some (decide (t103 ≥ 0))) = some r := H
   have A6 := Aside0.mk A60
   clear A60
   obtain rfl := Option.some.inj H
   go_enter Tryd.func38, Tryd.ntmps38
   go_wp2_with (first | ((with_reducible refine gate_callee (f := 64) rfl ?_); refine goesL_ (some 4) rfl rfl Tryd.func64 (by kernel_rfl) rfl #[.int .u8 a0] rfl mc ?_; (with_reducible refine (impl_isLetter.calls a0 false _ A2.out).mono ?_); rintro e w' ⟨rfl, ⟨nd, rfl⟩⟩; refine ⟨_, rfl, ?_⟩) | (go_at_call 65; (with_reducible refine (impl_isDigit.calls a0 false _ A4.out).mono ?_); rintro e w' ⟨rfl, ⟨nd, rfl⟩⟩) | (go_at_call 66; (with_reducible refine (strings_IndexByte.calls (⟨#[45, 46, 95, 126, 47, 58, 64, 33, 36, 38, 39, 40, 41, 42, 43, 44, 59, 61]⟩ : ByteArray) a0 t103 _ A6.out).mono ?_); rintro e w' ⟨rfl, ⟨nd, rfl⟩⟩))
   go_ret
   exact ⟨by first | rfl | (simp; done) | (simp [*]; done), by repeat (first | exact Drawn0.refl _ | apply Drawn0.step)⟩
end Go.Proofs.YtfbgpjhnjdhpcaaDoor.P
namespace Go.Proofs.YtfbgpjhnjdhpcaaDoor.Q
set_option linter.unusedVariables false
set_option linter.unusedSimpArgs false
open Go.RowKit Go.Proofs.YtfbgpjhnjdhpcaaDoor.P Go.Proofs.YtfbgpjhnjdhpcaaDoorW.PrintWords Go.Proofs.YtfbgpjhnjdhpcaaDoorW.PrintLast Go.Proofs.YtfbgpjhnjdhpcaaDoorW.PrintMore

def visB (c : Int) : Bool := decide (32 ≤ c) && decide (c ≤ 126) || decide (c = 9)
def digB (c : Int) : Bool := decide (48 ≤ c) && decide (c ≤ 57)
def letB (c : Int) : Bool := decide (97 ≤ c) && decide (c ≤ 122) || decide (65 ≤ c) && decide (c ≤ 90)
def hexB (c : Int) : Bool := digB c || decide (97 ≤ c) && decide (c ≤ 102) || decide (65 ≤ c) && decide (c ≤ 70)
def tagB (c : Int) : Bool := decide (33 ≤ c) && decide (c ≤ 126) && decide (c ≠ 34)
def tokB (c : Int) : Bool := letB c || digB c || decide (c ∈ [33, 35, 36, 37, 38, 39, 42, 43, 45, 46, 94, 95, 124, 126, 96])
def plaB (c : Int) : Bool := letB c || digB c || decide (c ∈ [45, 46, 95, 126, 47, 58, 64, 33, 36, 38, 39, 40, 41, 42, 43, 44, 59, 61])

theorem impl_isDigit_is (c : Int) : impl_isDigit.f c = some (digB c) := by
  unfold impl_isDigit.f digB
  by_cases h1 : c ≥ 48 <;> simp [h1] <;> omega
theorem impl_isLetter_is (c : Int) : impl_isLetter.f c = some (letB c) := by
  unfold impl_isLetter.f letB
  by_cases h1 : c ≥ 97 <;> by_cases h2 : c ≤ 122 <;> by_cases h3 : c ≥ 65 <;> by_cases h4 : c ≤ 90 <;> simp [h1, h2, h3, h4] <;> omega
theorem impl_isHex_is (c : Int) : impl_isHex.f c = some (hexB c) := by
  unfold impl_isHex.f hexB
  rw [impl_isDigit_is]
  cases h0 : digB c <;> by_cases h1 : c ≥ 97 <;> by_cases h2 : c ≤ 102 <;> by_cases h3 : c ≥ 65 <;> by_cases h4 : c ≤ 70 <;> simp [h1, h2, h3, h4] <;> omega

/-- A law on bytes, tried at each. -/
theorem byte_cases {p : Int → Prop} (h : ∀ n : Fin 256, p (n.val : Int)) (c : Int) (h0 : 0 ≤ c) (h1 : c ≤ 255) : p c := by
  have := h ⟨c.toNat, by omega⟩
  rwa [show ((⟨c.toNat, by omega⟩ : Fin 256).val : Int) = c from by show (c.toNat : Int) = c; omega] at this
theorem impl_isPlain_is (c : Int) (h0 : 0 ≤ c) (h1 : c ≤ 255) : impl_isPlain.f c = some (plaB c) :=
  byte_cases (p := fun c => impl_isPlain.f c = some (plaB c)) (by decide +kernel) c h0 h1
theorem spec_l3Plain_is (c : Int) (h0 : 0 ≤ c) (h1 : c ≤ 255) : spec_l3Plain.f c = some (plaB c) :=
  byte_cases (p := fun c => spec_l3Plain.f c = some (plaB c)) (by decide +kernel) c h0 h1
/-- A hexadecimal digit's value, or -1. -/
def hexV (c : Int) : Int := if digB c = true then c - 48 else if 97 ≤ c ∧ c ≤ 102 then c - 87 else if 65 ≤ c ∧ c ≤ 70 then c - 55 else -1
theorem hexV_neg (c : Int) : decide (hexV c < 0) = !hexB c := by
  unfold hexV hexB
  cases h0 : digB c
  · by_cases h1 : 97 ≤ c ∧ c ≤ 102
    · simp [h1]; omega
    · by_cases h2 : 65 ≤ c ∧ c ≤ 70
      · have h1' : (decide (97 ≤ c) && decide (c ≤ 102)) = false := by simp; omega
        simp [h1, h1', h2]; omega
      · have h1' : (decide (97 ≤ c) && decide (c ≤ 102)) = false := by simp; omega
        have h2' : (decide (65 ≤ c) && decide (c ≤ 70)) = false := by simp; omega
        simp [h1, h1', h2, h2']
  · unfold digB at h0
    simp at h0
    simp
    omega
theorem spec_l1Hex_is (c : Int) (h0 : 0 ≤ c) (h1 : c ≤ 255) (k : Nat) (hk : 2 ≤ k) : spec_l1Hex.f k c = some (hexV c) :=
  at_rounds (fun k => spec_l1Hex.mono c k) hk (byte_cases (p := fun c => spec_l1Hex.f 2 c = some (hexV c)) (by decide +kernel) c h0 h1)
/-- 'all' over a predicate. -/
theorem all_hex (s : ByteArray) (hs : s.size ≤ 9223372036854775807) : impl_all.f s 62 = some ((bytesOf s).all hexB) := by
  unfold impl_all.f
  rw [if_pos hs]
  simp only [Nat.reduceEqDiff, if_true, if_false, reduceIte]
  rw [all_congr' fun c hc => (by rw [impl_isHex_is]; cases hexB c <;> rfl : (impl_isHex.f c == some true) = hexB c)]
theorem all_dig (s : ByteArray) (hs : s.size ≤ 9223372036854775807) : impl_all.f s 65 = some ((bytesOf s).all digB) := by
  unfold impl_all.f
  rw [if_pos hs]
  simp only [Nat.reduceEqDiff, if_true, if_false, reduceIte]
  rw [all_congr' fun c hc => (by rw [impl_isDigit_is]; cases digB c <;> rfl : (impl_isDigit.f c == some true) = digB c)]
/-- What a state asks of Left and Digits. -/
def chunkState (st left : Int) (dg : ByteArray) : Bool :=
  if st = 1 then left == 0 else if st = 2 then dg.toList == ([] : List UInt8) else if st = 3 then (dg.toList == ([] : List UInt8)) && decide (left > 0) else decide (left = 0) && (dg.toList == ([] : List UInt8))
def chunkerOk (st left : Int) (dg bd : ByteArray) : Bool :=
  inB st 1 9 && (inB left 0 4000 && (decide (dg.size ≤ 13) && (decide ((bd.size : Int) + left ≤ 4000) && ((bytesOf dg).all hexB && chunkState st left dg))))
theorem spec_ChunkerOk_ev (st left : Int) (dg bd : ByteArray) (hb : bd.size ≤ 4611686018427387904) : Ev (fun k => spec_ChunkerOk.f k st left dg bd) (chunkerOk st left dg bd) := by
  have no : Ev (fun k => spec_ChunkerOk.j0 k true st left dg bd) false := Ev.step (f := fun _ => some false) (fun k => by simp only [spec_ChunkerOk.j0, if_true]) (Ev.now _)
  unfold spec_ChunkerOk.f chunkerOk
  simp only [spec_l1In_is, Option.bind_some]
  cases h1 : inB st 1 9
  · simp only [Bool.false_eq_true, if_false, Bool.false_and]; exact no
  · simp only [if_true, Bool.true_and]
    cases h2 : inB left 0 4000
    · simp only [Bool.false_eq_true, if_false, Bool.false_and]; exact no
    · simp only [if_true, Bool.true_and]
      obtain ⟨l0, l1⟩ := inB_true h2
      by_cases h3 : (dg.size : Int) > 13
      · simp only [if_pos h3]
        rw [decide_eq_false (by omega : ¬ dg.size ≤ 13), Bool.false_and]; exact no
      · simp only [if_neg h3]
        rw [decide_eq_true (by omega : dg.size ≤ 13), Bool.true_and, wrap_in (by omega) (by omega)]
        by_cases h4 : (bd.size : Int) + left > 4000
        · rw [decide_eq_true h4, decide_eq_false (by omega : ¬ (bd.size : Int) + left ≤ 4000), Bool.false_and]; exact no
        · rw [decide_eq_false h4, decide_eq_true (by omega : (bd.size : Int) + left ≤ 4000), Bool.true_and]
          refine Ev.step (f := fun k => spec_ChunkerOk.l0 k 0 st left dg bd) (fun k => by simp only [spec_ChunkerOk.j0, Bool.false_eq_true, if_false]) ?_
          refine ev_eq (ev_allr dg hexB (chunkState st left dg) false (fun k i => spec_ChunkerOk.l0 k i st left dg bd) 2 (fun k i hk hi hp => ?_) (fun k i hk hi hp => ?_) (fun k _ => ?_)) (by cases (bytesOf dg).all hexB <;> simp)
          · have hr := bt_range dg i
            have hn := hexV_neg (bt dg i)
            rw [hp] at hn
            simp only [spec_ChunkerOk.l0]
            rw [if_pos (by omega), if_pos (by omega), spec_l1Hex_is _ hr.1 hr.2 k hk, wrap_next hi (by omega)]
            simp only [Option.bind_some]
            rw [if_neg (by simpa using hn)]
          · have hr := bt_range dg i
            have hn := hexV_neg (bt dg i)
            rw [hp] at hn
            simp only [spec_ChunkerOk.l0]
            rw [if_pos (by omega), if_pos (by omega), spec_l1Hex_is _ hr.1 hr.2 k hk]
            simp only [Option.bind_some]
            rw [if_pos (by simpa using hn)]
          · simp only [spec_ChunkerOk.l0]
            rw [if_neg (by omega)]
            unfold chunkState
            by_cases s1 : st = 1
            · simp [s1]
            · by_cases s2 : st = 2
              · simp [s2]
              · by_cases s3 : st = 3
                · by_cases e : dg.toList = [] <;> simp [s3, e]
                · by_cases e : left = 0 <;> simp [s1, s2, s3, e]
theorem impl_ChunkerOk_ev (st left : Int) (dg bd : ByteArray) (hb : bd.size ≤ 4611686018427387904) : Ev (fun k => impl_ChunkerOk.f k st left dg bd) (chunkerOk st left dg bd) := by
  have no : Ev (fun k => impl_ChunkerOk.j0 k true st left dg bd) false := Ev.step (f := fun _ => some false) (fun k => by simp only [impl_ChunkerOk.j0, if_true]) (Ev.now _)
  unfold impl_ChunkerOk.f chunkerOk
  simp only [impl_within_is, Option.bind_some]
  cases h1 : inB st 1 9
  · simp only [Bool.false_eq_true, if_false, Bool.false_and]; exact no
  · simp only [if_true, Bool.true_and]
    cases h2 : inB left 0 4000
    · simp only [Bool.false_eq_true, if_false, Bool.false_and]; exact no
    · simp only [if_true, Bool.true_and]
      obtain ⟨l0, l1⟩ := inB_true h2
      by_cases h3 : (dg.size : Int) > 13
      · simp only [if_pos h3]
        rw [decide_eq_false (by omega : ¬ dg.size ≤ 13), Bool.false_and]; exact no
      · simp only [if_neg h3]
        rw [decide_eq_true (by omega : dg.size ≤ 13), Bool.true_and, all_hex dg (by omega)]
        simp only [Option.bind_some]
        cases h5 : (bytesOf dg).all hexB
        · simp only [Bool.false_eq_true, if_false, Bool.false_and, Bool.and_false]; exact no
        · simp only [if_true, Bool.true_and]
          by_cases h6 : (bd.size : Int) > 4000
          · simp only [if_pos h6]
            rw [decide_eq_false (by omega : ¬ (bd.size : Int) + left ≤ 4000), Bool.false_and]; exact no
          · simp only [if_neg h6]
            rw [wrap_in (by omega) (by omega)]
            by_cases h4 : left + (bd.size : Int) > 4000
            · rw [decide_eq_true h4, decide_eq_false (by omega : ¬ (bd.size : Int) + left ≤ 4000), Bool.false_and]; exact no
            · rw [decide_eq_false h4, decide_eq_true (by omega : (bd.size : Int) + left ≤ 4000), Bool.true_and]
              refine Ev.step (f := fun _ => some (chunkState st left dg)) (fun k => ?_) (Ev.now _)
              simp only [impl_ChunkerOk.j0, Bool.false_eq_true, if_false]
              unfold chunkState
              by_cases p : left > 0
              · have p0 : ¬ left = 0 := by omega
                by_cases s2 : st = 2
                · by_cases e : dg.toList = [] <;> simp [p, p0, s2, e]
                · by_cases s3 : st = 3
                  · by_cases e : dg.toList = [] <;> simp [p, p0, s3, e]
                  · by_cases s1 : st = 1 <;> simp [p, p0, s1, s2, s3]
              · have p0 : left = 0 := by omega
                by_cases s3 : st = 3
                · by_cases e : dg.toList = [] <;> simp [p0, s3, e]
                · by_cases s1 : st = 1
                  · by_cases e : dg.toList = [] <;> simp [p0, s1, e]
                  · by_cases s2 : st = 2
                    · by_cases e : dg.toList = [] <;> simp [p0, s2, e]
                    · have sb : (st == 1) = false := by simpa using s1
                      by_cases e : dg.toList = []
                      · simp [p0, s1, s2, s3, e]
                      · have eb : dg.toList.isEmpty = false := by simpa using e
                        simp [p0, s1, s2, s3, e, sb, eb]
theorem dgt_hex (c : Int) : dgt c = hexV c := by
  unfold dgt hexV digB
  by_cases h : 48 ≤ c ∧ c ≤ 57
  · rw [if_pos h, if_pos (by simp [h])]
  · have hb : (decide (48 ≤ c) && decide (c ≤ 57)) = false := by simp; omega
    rw [if_neg h, hb]
    simp
theorem hexV_lt (c : Int) : hexV c < 16 := by
  rw [← dgt_hex]
  unfold dgt
  split
  · omega
  · split
    · omega
    · split <;> omega
theorem hexB_is (c : Int) : hexB c = (decide (0 ≤ dgt c) && decide (dgt c < 16)) := by
  have h1 := hexV_neg c
  have h2 := hexV_lt c
  rw [dgt_hex, decide_eq_true h2, Bool.and_true]
  by_cases h : 0 ≤ hexV c
  · rw [decide_eq_false (by omega : ¬ hexV c < 0)] at h1
    rw [decide_eq_true h]
    cases hb : hexB c
    · rw [hb] at h1; cases h1
    · rfl
  · rw [decide_eq_true (by omega : hexV c < 0)] at h1
    rw [decide_eq_false h]
    cases hb : hexB c
    · rfl
    · rw [hb] at h1; cases h1
theorem digB_is (c : Int) : digB c = (decide (0 ≤ dgt c) && decide (dgt c < 10)) := by
  unfold digB dgt
  by_cases h : 48 ≤ c ∧ c ≤ 57
  · rw [if_pos h]
    have a : 0 ≤ c - 48 := by omega
    have b : c - 48 < 10 := by omega
    simp [h, a, b]
  · rw [if_neg h]
    have : (decide (48 ≤ c) && decide (c ≤ 57)) = false := by simp; omega
    rw [this]
    split
    · have : ¬ c - 87 < 10 := by omega
      simp [this]
    · split
      · have : ¬ c - 55 < 10 := by omega
        simp [this]
      · simp
theorem dgt_dig {c : Int} (h : digB c = true) : dgt c = c - 48 ∧ 48 ≤ c ∧ c ≤ 57 := by
  unfold digB at h
  simp at h
  unfold dgt
  rw [if_pos h]
  exact ⟨rfl, h⟩
theorem all_okB16 (l : List Int) : l.all hexB = okB 16 l := all_congr' fun c _ => hexB_is c
theorem all_okB10 (l : List Int) : l.all digB = okB 10 l := all_congr' fun c _ => digB_is c
/-- A text's number at a base, if it has one to so many digits. -/
def numOk (b : Int) (m : Nat) (p : Int → Bool) (s : ByteArray) : Int × Bool := if 1 ≤ s.size ∧ s.size ≤ m ∧ (bytesOf s).all p = true then (numB b (bytesOf s), true) else (0, false)
theorem runL_num (b : Int) (p : Int → Bool) (l : List Int) (st : Int) :
    runL (fun (st : Int) c => if p c = true then .inl (st * b + dgt c) else .inr ((0 : Int), false)) (fun st => (st, true)) l st = if l.all p = true then (l.foldl (fun n c => n * b + dgt c) st, true) else (0, false) := by
  induction l generalizing st with
  | nil => rfl
  | cons c cs ih =>
    rw [List.all_cons]
    unfold runL
    by_cases hp : p c = true
    · simp only [hp, if_true, Bool.true_and, ih, List.foldl_cons]
    · simp only [(by simpa using hp : p c = false), Bool.false_and, Bool.false_eq_true, if_false]
theorem num_next {b st d : Int} {i : Nat} (hb : 0 ≤ b) (h0 : 0 ≤ st) (h1 : st < b ^ i) (d0 : 0 ≤ d) (d1 : d < b) : 0 ≤ st * b ∧ 0 ≤ st * b + d ∧ st * b + d < b ^ (i + 1) := by
  have a := Int.mul_nonneg h0 hb
  rw [Int.pow_succ]
  have : (st + 1) * b ≤ b ^ i * b := Int.mul_le_mul_of_nonneg_right (by omega) hb
  rw [Int.add_mul, Int.one_mul] at this
  omega
theorem num_loop (b : Int) (hb : b = 10 ∨ b = 16) (m : Nat) (hm : (b = 10 ∧ m ≤ 15) ∨ (b = 16 ∧ m ≤ 13)) (p : Int → Bool) (hp : ∀ c, p c = true → 0 ≤ dgt c ∧ dgt c < b) (s : ByteArray) (hs : s.size ≤ m) (g : Nat → Int → Int → Option (Int × Bool)) (K : Nat)
    (h1 : ∀ k (st : Int) (i : Nat), K ≤ k → i < s.size → p (bt s i) = true → wrap64 (st * b) = st * b → wrap64 (st * b + dgt (bt s i)) = st * b + dgt (bt s i) → g (k + 1) st i = g k (st * b + dgt (bt s i)) ((i + 1 : Nat) : Int))
    (h0 : ∀ k (st : Int) (i : Nat), K ≤ k → i < s.size → p (bt s i) = false → g (k + 1) st i = some (0, false))
    (he : ∀ k (st : Int), K ≤ k → g (k + 1) st (s.size : Int) = some (st, true)) : Ev (fun k => g k 0 0) (if (bytesOf s).all p = true then (numB b (bytesOf s), true) else (0, false)) := by
  have hr := ev_run s (fun (st : Int) i => 0 ≤ st ∧ st < b ^ i) (fun (st : Int) c => if p c = true then .inl (st * b + dgt c) else .inr ((0 : Int), false)) (fun st => (st, true)) g K
    (fun k st i hk hi hI => ⟨fun st' e => (by
        by_cases hq : p (bt s i) = true
        · rw [if_pos hq] at e
          obtain rfl : st * b + dgt (bt s i) = st' := by injection e
          obtain ⟨d0, d1⟩ := hp _ hq
          obtain ⟨a0, a1, a2⟩ := num_next (b := b) (by omega) hI.1 hI.2 d0 d1
          have hw := pow_small hb hm (k := i + 1) (by omega)
          exact ⟨h1 k st i hk hi hq (wrap_in (by omega) (by omega)) (wrap_in (by omega) (by omega)), a1, a2⟩
        · rw [if_neg hq] at e; cases e),
      fun r e => (by
        by_cases hq : p (bt s i) = true
        · rw [if_pos hq] at e; cases e
        · rw [if_neg hq] at e
          obtain rfl : ((0 : Int), false) = r := by injection e
          exact h0 k st i hk hi (by simpa using hq))⟩)
    (fun k st hk _ => he k st hk) 0 ⟨by omega, by simp⟩
  rw [runL_num] at hr
  exact hr
theorem spec_HexDigits_ev (s : ByteArray) : Ev (fun k => spec_HexDigits.f k s) (numOk 16 13 hexB s) := by
  have no : Ev (fun k => spec_HexDigits.j0 k s true) ((0 : Int), false) := Ev.step (f := fun _ => some (0, false)) (fun k => by simp only [spec_HexDigits.j0, if_true]) (Ev.now _)
  unfold spec_HexDigits.f numOk
  by_cases h1 : (s.size : Int) < 1
  · simp only [if_pos h1]
    rw [if_neg (by omega)]
    exact no
  · simp only [if_neg h1]
    by_cases h2 : (s.size : Int) > 13
    · rw [decide_eq_true h2, if_neg (by omega)]
      exact no
    · rw [decide_eq_false h2]
      refine Ev.step (f := fun k => spec_HexDigits.l0 k s 0 0) (fun k => by simp only [spec_HexDigits.j0, Bool.false_eq_true, if_false]) ?_
      refine ev_eq (num_loop 16 (.inr rfl) 13 (.inr ⟨rfl, Nat.le_refl _⟩) hexB (fun c h => by rw [hexB_is] at h; simpa using h) s (by omega) (fun k st i => spec_HexDigits.l0 k s st i) 2 (fun k st i hk hi hq w1 w2 => ?_) (fun k st i hk hi hq => ?_) (fun k st _ => ?_)) ?_
      · have hr := bt_range s i
        have hn := hexV_neg (bt s i)
        rw [hq] at hn
        rw [dgt_hex] at w2 ⊢
        simp only [spec_HexDigits.l0]
        rw [if_pos (by omega), if_pos (by omega), spec_l1Hex_is _ hr.1 hr.2 k hk, wrap_next hi (by omega)]
        simp only [Option.bind_some]
        rw [if_neg (by simpa using hn), w1, w2]
      · have hr := bt_range s i
        have hn := hexV_neg (bt s i)
        rw [hq] at hn
        simp only [spec_HexDigits.l0]
        rw [if_pos (by omega), if_pos (by omega), spec_l1Hex_is _ hr.1 hr.2 k hk]
        simp only [Option.bind_some]
        rw [if_pos (by simpa using hn)]
      · simp only [spec_HexDigits.l0]
        rw [if_neg (by omega)]
      · have a : 1 ≤ s.size := by omega
        have b : s.size ≤ 13 := by omega
        simp only [a, b, true_and]
theorem impl_HexDigits_is (s : ByteArray) : impl_HexDigits.f s = some (numOk 16 13 hexB s) := by
  unfold impl_HexDigits.f numOk
  by_cases h1 : (s.size : Int) < 1
  · rw [if_pos h1, if_neg (by omega)]
  · rw [if_neg h1]
    by_cases h2 : (s.size : Int) > 13
    · rw [if_pos h2, if_neg (by omega)]
    · rw [if_neg h2, all_hex s (by omega)]
      simp only [Option.bind_some]
      have a : 1 ≤ s.size := by omega
      have b : s.size ≤ 13 := by omega
      by_cases h3 : (bytesOf s).all hexB = true
      · rw [if_pos h3, if_pos ⟨a, b, h3⟩]
        unfold strconv_ParseInt.f
        rw [if_pos ⟨rfl, by omega, by rw [← all_okB16]; exact h3, .inl ⟨rfl, b⟩⟩]
        rfl
      · rw [if_neg h3, if_neg (by intro h; exact h3 h.2.2)]
/-- A loop over bytes whose rounds each end, however many rounds they take. -/
theorem ev_runE {σ β : Type} (s : ByteArray) (I : σ → Nat → Prop) (f : σ → Int → σ ⊕ β) (fin : σ → β) (g : Nat → σ → Int → Option β)
    (hstep : ∀ st (i : Nat), i < s.size → I st i → (∀ st', f st (bt s i) = .inl st' → I st' (i + 1) ∧ ∀ r, Ev (fun k => g k st' ((i + 1 : Nat) : Int)) r → Ev (fun k => g k st (i : Int)) r) ∧ (∀ b, f st (bt s i) = .inr b → Ev (fun k => g k st (i : Int)) b))
    (hend : ∀ st, I st s.size → Ev (fun k => g k st (s.size : Int)) (fin st)) (st : σ) (h0 : I st 0) :
    Ev (fun k => g k st 0) (runL f fin (bytesOf s) st) := by
  have key : ∀ (d i : Nat) (st : σ), i + d = s.size → I st i → Ev (fun k => g k st (i : Int)) (runL f fin ((bytesOf s).drop i) st) := by
    intro d
    induction d with
    | zero =>
      intro i st hd hI
      have e : i = s.size := by omega
      subst e
      rw [List.drop_of_length_le (by rw [bytesOf_length]; exact Nat.le_refl _)]
      exact hend st hI
    | succ d ih =>
      intro i st hd hI
      obtain ⟨h1, h2⟩ := hstep st i (by omega) hI
      rw [drop_bt s i (by omega)]
      show Ev _ (match f st (bt s i) with | .inl st' => runL f fin ((bytesOf s).drop (i + 1)) st' | .inr b => b)
      cases hf : f st (bt s i) with
      | inl st' =>
        obtain ⟨hI', hr⟩ := h1 st' hf
        exact hr _ (ih (i + 1) st' (by omega) hI')
      | inr b => exact h2 b hf
  have := key s.size 0 st (by omega) h0
  rw [List.drop_zero] at this
  exact this

abbrev Chk := Int × Int × ByteArray × ByteArray
def badC (bd : ByteArray) : Chk := (9, 0, (⟨#[]⟩ : ByteArray), bd)
/-- A chunker that eats a byte. -/
def eatC (st left : Int) (dg bd : ByteArray) (b : Int) : Chk :=
  if st = 8 ∨ st = 9 then (st, left, dg, bd)
  else if st = 1 then
    (if hexB b = true ∧ dg.size < 13 then (1, left, dg ++ strOfNums [b], bd)
     else if b = 13 ∧ (numOk 16 13 hexB dg).2 = true ∧ ¬ (numOk 16 13 hexB dg).1 > 4000 - (bd.size : Int) then (2, (numOk 16 13 hexB dg).1, (⟨#[]⟩ : ByteArray), bd) else badC bd)
  else if st = 2 then (if b = 10 then (if left = 0 then (6, left, dg, bd) else (3, left, dg, bd)) else badC bd)
  else if st = 3 then (if left - 1 = 0 then (4, left - 1, dg, bd ++ strOfNums [b]) else (3, left - 1, dg, bd ++ strOfNums [b]))
  else if st = 4 then (if b = 13 then (5, left, dg, bd) else badC bd)
  else if st = 5 then (if b = 10 then (1, left, dg, bd) else badC bd)
  else if st = 6 then (if b = 13 then (7, left, dg, bd) else badC bd)
  else (if b = 10 then (8, left, dg, bd) else badC bd)
/-- What each chunker keeps that eats. -/
structure Vc (c : Chk) : Prop where
  s0 : 1 ≤ c.1
  s1 : c.1 ≤ 9
  l0 : 0 ≤ c.2.1
  l1 : c.2.1 + (c.2.2.2.size : Int) ≤ 4000
  d1 : c.2.2.1.size ≤ 13
  l3 : c.1 = 3 → 0 < c.2.1
theorem sizeE_one (b : Int) : (strOfNums [b]).size = 1 := rfl
theorem sizeE_app (a b : ByteArray) : (a ++ b).size = a.size + b.size := ByteArray.size_append
theorem numOk_nonneg (s : ByteArray) : 0 ≤ (numOk 16 13 hexB s).1 := by
  unfold numOk
  by_cases h : 1 ≤ s.size ∧ s.size ≤ 13 ∧ (bytesOf s).all hexB = true
  · rw [if_pos h]
    have := (numB_bound 16 (bytesOf s) (by decide) (by rw [← all_okB16]; exact h.2.2) (bytesOf s).length).1
    rw [List.take_length] at this
    exact this
  · rw [if_neg h]
    exact Int.le_refl _
theorem Vc.eat {st left : Int} {dg bd : ByteArray} (v : Vc (st, left, dg, bd)) (b : Int) : Vc (eatC st left dg bd b) := by
  have h0 : 1 ≤ st := v.s0
  have h1 : st ≤ 9 := v.s1
  have h2 : 0 ≤ left := v.l0
  have h3 : left + (bd.size : Int) ≤ 4000 := v.l1
  have h4 : dg.size ≤ 13 := v.d1
  have h5 : st = 3 → 0 < left := v.l3
  have hbad : Vc (badC bd) := ⟨by show (1 : Int) ≤ 9; decide, by show (9 : Int) ≤ 9; decide, by show (0 : Int) ≤ 0; decide, by show (0 : Int) + (bd.size : Int) ≤ 4000; omega, Nat.zero_le _, fun h => absurd h (by show ¬ (9 : Int) = 3; decide)⟩
  have mk : ∀ x : Int, 1 ≤ x → x ≤ 9 → (x = 3 → 0 < left) → Vc (x, left, dg, bd) := fun x a c e => ⟨a, c, h2, h3, h4, e⟩
  unfold eatC
  split
  · exact v
  · split
    · split
      · rename_i hx
        refine ⟨by show (1 : Int) ≤ 1; decide, by show (1 : Int) ≤ 9; decide, h2, h3, ?_, fun h => absurd h (by show ¬ (1 : Int) = 3; decide)⟩
        show (dg ++ strOfNums [b]).size ≤ 13
        rw [sizeE_app, sizeE_one]
        omega
      · split
        · rename_i hx
          have hn := numOk_nonneg dg
          refine ⟨by show (1 : Int) ≤ 2; decide, by show (2 : Int) ≤ 9; decide, hn, ?_, Nat.zero_le _, fun h => absurd h (by show ¬ (2 : Int) = 3; decide)⟩
          show (numOk 16 13 hexB dg).1 + (bd.size : Int) ≤ 4000
          omega
        · exact hbad
    · split
      · split
        · split
          · exact mk 6 (by decide) (by decide) (fun h => absurd h (by decide))
          · exact mk 3 (by decide) (by decide) (fun _ => by omega)
        · exact hbad
      · split
        · rename_i hst
          have := h5 hst
          split
          · refine ⟨by show (1 : Int) ≤ 4; decide, by show (4 : Int) ≤ 9; decide, by show 0 ≤ left - 1; omega, ?_, h4, fun h => absurd h (by show ¬ (4 : Int) = 3; decide)⟩
            show left - 1 + ((bd ++ strOfNums [b]).size : Int) ≤ 4000
            rw [sizeE_app, sizeE_one]; omega
          · refine ⟨by show (1 : Int) ≤ 3; decide, by show (3 : Int) ≤ 9; decide, by show 0 ≤ left - 1; omega, ?_, h4, fun _ => by show 0 < left - 1; omega⟩
            show left - 1 + ((bd ++ strOfNums [b]).size : Int) ≤ 4000
            rw [sizeE_app, sizeE_one]; omega
        · split
          · split
            · exact mk 5 (by decide) (by decide) (fun h => absurd h (by decide))
            · exact hbad
          · split
            · split
              · exact mk 1 (by decide) (by decide) (fun h => absurd h (by decide))
              · exact hbad
            · split
              · split
                · exact mk 7 (by decide) (by decide) (fun h => absurd h (by decide))
                · exact hbad
              · split
                · exact mk 8 (by decide) (by decide) (fun h => absurd h (by decide))
                · exact hbad
theorem spec_l5Eat_ev (st left : Int) (dg bd : ByteArray) (b : Int) (v : Vc (st, left, dg, bd)) (b0 : 0 ≤ b) (b1 : b ≤ 255) : Ev (fun k => spec_l5Eat.f k st left dg bd b) (eatC st left dg bd b) := by
  have h0 : 1 ≤ st := v.s0
  have h1 : st ≤ 9 := v.s1
  have h2 : 0 ≤ left := v.l0
  have h3 : left + (bd.size : Int) ≤ 4000 := v.l1
  have h4 : dg.size ≤ 13 := v.d1
  obtain ⟨K, hK⟩ := spec_HexDigits_ev dg
  refine ⟨K + 10, fun k hk => ?_⟩
  obtain ⟨k, rfl⟩ : ∃ m, k = m + 3 := ⟨k - 3, by omega⟩
  have hH : ∀ j, K ≤ j → spec_HexDigits.f j dg = some (numOk 16 13 hexB dg) := hK
  have hcase : st = 1 ∨ st = 2 ∨ st = 3 ∨ st = 4 ∨ st = 5 ∨ st = 6 ∨ st = 7 ∨ st = 8 ∨ st = 9 := by omega
  rcases hcase with rfl | rfl | rfl | rfl | rfl | rfl | rfl | rfl | rfl
  · simp only [spec_l5Eat.f, eatC]
    rw [if_neg (by decide), if_neg (by decide), if_pos trivial]
    simp only [spec_l5Eat.j0]
    rw [if_neg (by decide)]
    first | rw [if_pos rfl] | rw [if_pos trivial]
    rw [spec_l1Hex_is b b0 b1 _ (by omega)]
    simp only [Option.bind_some]
    have hn := hexV_neg b
    have tail : ∀ d : Bool, d = false → spec_l5Eat.j1 (k + 1 + 1) b d 1 left dg bd 9 0 (⟨#[]⟩ : ByteArray) bd = some (if b = 13 ∧ (numOk 16 13 hexB dg).2 = true ∧ ¬ (numOk 16 13 hexB dg).1 > 4000 - (bd.size : Int) then (2, (numOk 16 13 hexB dg).1, (⟨#[]⟩ : ByteArray), bd) else badC bd) := by
      intro d hd
      subst hd
      simp only [spec_l5Eat.j1]
      rw [if_neg (by decide), hH _ (by omega)]
      simp only [Option.bind_some, spec_l5Eat.j2]
      rw [wrap_in (i := 4000 - (bd.size : Int)) (by omega) (by omega)]
      by_cases e1 : b = 13
      · by_cases e2 : (numOk 16 13 hexB dg).2 = true
        · by_cases e3 : (numOk 16 13 hexB dg).1 > 4000 - (bd.size : Int)
          · rw [if_pos e1, if_pos e2, if_pos (decide_eq_true e3), if_neg (by intro h; exact h.2.2 e3)]; rfl
          · rw [if_pos e1, if_pos e2, if_neg (by simpa using e3), if_pos ⟨e1, e2, e3⟩]
        · rw [if_pos e1, if_neg e2, if_pos trivial, if_neg (by intro h; exact e2 h.2.1)]; rfl
      · rw [if_neg e1, if_pos trivial, if_neg (by intro h; exact e1 h.1)]; rfl
    by_cases hx : hexB b = true
    · rw [hx] at hn
      rw [if_pos (by have : ¬ hexV b < 0 := by simpa using hn
                     omega)]
      by_cases hd : dg.size < 13
      · rw [if_pos ⟨hx, hd⟩]
        simp only [spec_l5Eat.j1]
        rw [if_pos (decide_eq_true (by omega : (dg.size : Int) < 13))]
        simp only [Option.bind_some]
        rw [if_pos (by rw [sizeE_one]; omega)]
      · rw [if_neg (by intro h; exact hd h.2)]
        exact tail _ (decide_eq_false (by omega : ¬ (dg.size : Int) < 13))
    · rw [Bool.not_eq_true] at hx
      rw [hx] at hn
      rw [if_neg (by have : hexV b < 0 := by simpa using hn
                     omega), if_neg (by rw [hx]; simp)]
      exact tail _ rfl
  · simp only [spec_l5Eat.f, eatC, spec_l5Eat.j0, badC]
    by_cases e : b = 10 <;> by_cases e2 : left = 0 <;> simp [e, e2]
  · simp only [spec_l5Eat.f, eatC, spec_l5Eat.j0, badC, Option.bind_some]
    rw [wrap_in (i := left - 1) (by omega) (by omega), if_pos (show bd.size + (strOfNums [b]).size ≤ 9223372036854775807 by rw [sizeE_one]; omega)]
    by_cases e : left - 1 = 0 <;> simp [e]
  · simp only [spec_l5Eat.f, eatC, spec_l5Eat.j0, badC]
    by_cases e : b = 13 <;> simp [e]
  · simp only [spec_l5Eat.f, eatC, spec_l5Eat.j0, badC]
    by_cases e : b = 10 <;> simp [e]
  · simp only [spec_l5Eat.f, eatC, spec_l5Eat.j0, badC]
    by_cases e : b = 13 <;> simp [e]
  · simp only [spec_l5Eat.f, eatC, spec_l5Eat.j0, badC]
    by_cases e : b = 10 <;> simp [e]
  · simp [spec_l5Eat.f, eatC, spec_l5Eat.j0]
  · simp [spec_l5Eat.f, eatC, spec_l5Eat.j0]
theorem impl_eat_ev (st left : Int) (dg bd : ByteArray) (b : Int) (v : Vc (st, left, dg, bd)) (b0 : 0 ≤ b) (b1 : b ≤ 255) : Ev (fun k => impl_Chunker_eat.f k st left dg bd b) (eatC st left dg bd b) := by
  have h0 : 1 ≤ st := v.s0
  have h1 : st ≤ 9 := v.s1
  have h2 : 0 ≤ left := v.l0
  have h3 : left + (bd.size : Int) ≤ 4000 := v.l1
  have h4 : dg.size ≤ 13 := v.d1
  refine ⟨10, fun k hk => ?_⟩
  obtain ⟨k, rfl⟩ : ∃ m, k = m + 3 := ⟨k - 3, by omega⟩
  have hcase : st = 1 ∨ st = 2 ∨ st = 3 ∨ st = 4 ∨ st = 5 ∨ st = 6 ∨ st = 7 ∨ st = 8 ∨ st = 9 := by omega
  rcases hcase with rfl | rfl | rfl | rfl | rfl | rfl | rfl | rfl | rfl
  · simp only [impl_Chunker_eat.f, eatC]
    rw [if_neg (by decide), if_neg (by decide), if_pos trivial]
    simp only [impl_Chunker_eat.j0]
    rw [if_neg (by decide)]
    first | rw [if_pos rfl] | rw [if_pos trivial]
    have tail : ∀ d : Bool, d = false → impl_Chunker_size.j0 (k + 1 + 1) b d 1 left dg bd = some (if b = 13 ∧ (numOk 16 13 hexB dg).2 = true ∧ ¬ (numOk 16 13 hexB dg).1 > 4000 - (bd.size : Int) then (2, (numOk 16 13 hexB dg).1, (⟨#[]⟩ : ByteArray), bd) else badC bd) := by
      intro d hd
      subst hd
      simp only [impl_Chunker_size.j0]
      rw [if_neg (by decide), impl_HexDigits_is]
      simp only [Option.bind_some, impl_Chunker_bad.f]
      rw [wrap_in (i := 4000 - (bd.size : Int)) (by omega) (by omega)]
      by_cases e1 : b = 13
      · by_cases e2 : (numOk 16 13 hexB dg).2 = true
        · by_cases e3 : (numOk 16 13 hexB dg).1 > 4000 - (bd.size : Int)
          · rw [if_pos e1, if_pos e2, if_pos e3, if_neg (by intro h; exact h.2.2 e3)]; rfl
          · rw [if_pos e1, if_pos e2, if_neg e3, if_pos ⟨e1, e2, e3⟩]
        · rw [if_pos e1, if_neg e2, if_neg (by intro h; exact e2 h.2.1)]; rfl
      · rw [if_neg e1, if_neg (by intro h; exact e1 h.1)]; rfl
    unfold impl_Chunker_size.f
    rw [impl_isHex_is]
    simp only [Option.bind_some]
    by_cases hx : hexB b = true
    · rw [if_pos hx]
      by_cases hd : dg.size < 13
      · rw [if_pos ⟨hx, hd⟩]
        simp only [impl_Chunker_size.j0]
        rw [if_pos (decide_eq_true (by omega : (dg.size : Int) < 13))]
        simp only [Option.bind_some]
        rw [if_pos (by rw [sizeE_one]; omega)]
        rfl
      · rw [if_neg (show ¬ (hexB b = true ∧ dg.size < 13) by intro h; exact hd h.2), tail _ (decide_eq_false (by omega : ¬ (dg.size : Int) < 13))]
        rfl
    · rw [if_neg hx, if_neg (show ¬ (hexB b = true ∧ dg.size < 13) by intro h; exact hx h.1), tail _ rfl]
      rfl
  · simp only [impl_Chunker_eat.f, eatC, impl_Chunker_eat.j0, badC, impl_Chunker_bad.f]
    by_cases e : b = 10 <;> by_cases e2 : left = 0 <;> simp [e, e2]
  · simp only [impl_Chunker_eat.f, eatC, impl_Chunker_eat.j0, badC, impl_Chunker_bad.f, Option.bind_some]
    rw [wrap_in (i := left - 1) (by omega) (by omega), if_pos (show bd.size + (strOfNums [b]).size ≤ 9223372036854775807 by rw [sizeE_one]; omega)]
    by_cases e : left - 1 = 0 <;> simp [e]
  · simp only [impl_Chunker_eat.f, eatC, impl_Chunker_eat.j0, badC, impl_Chunker_bad.f]
    by_cases e : b = 13 <;> simp [e]
  · simp only [impl_Chunker_eat.f, eatC, impl_Chunker_eat.j0, badC, impl_Chunker_bad.f]
    by_cases e : b = 10 <;> simp [e]
  · simp only [impl_Chunker_eat.f, eatC, impl_Chunker_eat.j0, badC, impl_Chunker_bad.f]
    by_cases e : b = 13 <;> simp [e]
  · simp only [impl_Chunker_eat.f, eatC, impl_Chunker_eat.j0, badC, impl_Chunker_bad.f]
    by_cases e : b = 10 <;> simp [e]
  · simp [impl_Chunker_eat.f, eatC, impl_Chunker_eat.j0]
  · simp [impl_Chunker_eat.f, eatC, impl_Chunker_eat.j0]
theorem Vc.of_ok {st left : Int} {dg bd : ByteArray} (h : chunkerOk st left dg bd = true) : Vc (st, left, dg, bd) := by
  unfold chunkerOk at h
  simp only [Bool.and_eq_true, decide_eq_true_eq] at h
  obtain ⟨a, b, c, d, e, f⟩ := h
  obtain ⟨a0, a1⟩ := inB_true a
  obtain ⟨b0, b1⟩ := inB_true b
  refine ⟨a0, a1, b0, by show left + (bd.size : Int) ≤ 4000; omega, c, fun h3 => ?_⟩
  have h3 : st = 3 := h3
  subst h3
  show 0 < left
  unfold chunkState at f
  rw [if_neg (by decide), if_neg (by decide), if_pos rfl, Bool.and_eq_true, decide_eq_true_eq] at f
  exact f.2
/-- A chunker that eats a text: it, and how many bytes it ate. -/
def eatL (c : Chk) (s : ByteArray) : Int × Int × ByteArray × ByteArray × Int :=
  runL (fun (p : Int × Chk) b => if p.2.1 < 8 then .inl (p.1 + 1, eatC p.2.1 p.2.2.1 p.2.2.2.1 p.2.2.2.2 b) else .inr (p.2.1, p.2.2.1, p.2.2.2.1, p.2.2.2.2, p.1)) (fun p => (p.2.1, p.2.2.1, p.2.2.2.1, p.2.2.2.2, p.1)) (bytesOf s) (0, c)
theorem eat_loop (s : ByteArray) (hs : s.size ≤ 4611686018427387904) (c : Chk) (v : Vc c) (g : Nat → Int × Chk → Int → Option (Int × Int × ByteArray × ByteArray × Int))
    (h1 : ∀ (i : Nat) (c : Chk), i < s.size → c.1 < 8 → Vc c → ∀ r, Ev (fun k => g k (((i + 1 : Nat) : Int), eatC c.1 c.2.1 c.2.2.1 c.2.2.2 (bt s i)) ((i + 1 : Nat) : Int)) r → Ev (fun k => g k ((i : Int), c) (i : Int)) r)
    (h0 : ∀ (i : Nat) (c : Chk), i < s.size → ¬ c.1 < 8 → Vc c → Ev (fun k => g k ((i : Int), c) (i : Int)) (c.1, c.2.1, c.2.2.1, c.2.2.2, (i : Int)))
    (he : ∀ (c : Chk), Vc c → Ev (fun k => g k ((s.size : Int), c) (s.size : Int)) (c.1, c.2.1, c.2.2.1, c.2.2.2, (s.size : Int))) : Ev (fun k => g k (0, c) 0) (eatL c s) := by
  refine ev_runE s (fun (p : Int × Chk) i => p.1 = (i : Int) ∧ Vc p.2) _ _ g (fun p i hi hI => ⟨fun p' e => ?_, fun r e => ?_⟩) (fun p hI => ?_) (0, c) ⟨rfl, v⟩
  · obtain ⟨n, c⟩ := p
    obtain ⟨rfl, vc⟩ : n = (i : Int) ∧ Vc c := hI
    by_cases h8 : c.1 < 8
    · rw [if_pos h8] at e
      obtain rfl := Sum.inl.inj e
      refine ⟨⟨by show (i : Int) + 1 = ((i + 1 : Nat) : Int); omega, vc.eat _⟩, fun r hr => h1 i c hi h8 vc r ?_⟩
      rw [show ((i + 1 : Nat) : Int) = (i : Int) + 1 from by omega]
      rw [show ((i + 1 : Nat) : Int) = (i : Int) + 1 from by omega] at hr
      exact hr
    · rw [if_neg h8] at e; cases e
  · obtain ⟨n, c⟩ := p
    obtain ⟨rfl, vc⟩ : n = (i : Int) ∧ Vc c := hI
    by_cases h8 : c.1 < 8
    · rw [if_pos h8] at e; cases e
    · rw [if_neg h8] at e
      obtain rfl := Sum.inr.inj e
      exact h0 i c hi h8 vc
  · obtain ⟨n, c⟩ := p
    obtain ⟨rfl, vc⟩ : n = (s.size : Int) ∧ Vc c := hI
    exact he c vc
theorem spec_eatL_ev (s : ByteArray) (hs : s.size ≤ 4611686018427387904) (st left : Int) (dg bd : ByteArray) (v : Vc (st, left, dg, bd)) : Ev (fun k => spec_EatAll.l0 k s 0 st left dg bd) (eatL (st, left, dg, bd) s) := by
  refine eat_loop s hs (st, left, dg, bd) v (fun k p i => spec_EatAll.l0 k s i p.2.1 p.2.2.1 p.2.2.2.1 p.2.2.2.2) (fun i c hi h8 vc r hr => ?_) (fun i c hi h8 vc => ?_) (fun c vc => ?_)
  · have hb := bt_range s i
    have hl : (i : Int) < (s.size : Int) := by omega
    refine Ev.step (f := fun k => (spec_l5Eat.f k c.1 c.2.1 c.2.2.1 c.2.2.2 (bt s i)).bind fun bt104 => (spec_EatAll.l0 k s (((i + 1 : Nat) : Int)) bt104.1 bt104.2.1 bt104.2.2.1 bt104.2.2.2)) (fun k => ?_) (Ev.bind (f := fun k (bt104 : Chk) => spec_EatAll.l0 k s (((i + 1 : Nat) : Int)) bt104.1 bt104.2.1 bt104.2.2.1 bt104.2.2.2) (spec_l5Eat_ev c.1 c.2.1 c.2.2.1 c.2.2.2 (bt s i) vc hb.1 hb.2) hr)
    simp only [spec_EatAll.l0]
    rw [if_pos hl, if_pos h8, if_pos (by omega), wrap_next hi (by omega)]
  · have hl : (i : Int) < (s.size : Int) := by omega
    refine Ev.step (f := fun _ => some _) (fun k => ?_) (Ev.now _)
    simp only [spec_EatAll.l0]
    rw [if_pos hl, if_neg h8]
  · refine Ev.step (f := fun _ => some _) (fun k => ?_) (Ev.now _)
    simp only [spec_EatAll.l0]
    rw [if_neg (by omega)]
theorem impl_eatL_ev (s : ByteArray) (hs : s.size ≤ 4611686018427387904) (st left : Int) (dg bd : ByteArray) (v : Vc (st, left, dg, bd)) : Ev (fun k => impl_Chunker_eatAll.f k st left dg bd s) (eatL (st, left, dg, bd) s) := by
  refine eat_loop s hs (st, left, dg, bd) v (fun k p i => impl_Chunker_eatAll.l0 k s i p.2.1 p.2.2.1 p.2.2.2.1 p.2.2.2.2) (fun i c hi h8 vc r hr => ?_) (fun i c hi h8 vc => ?_) (fun c vc => ?_)
  · have hb := bt_range s i
    have hl : (i : Int) < (s.size : Int) := by omega
    refine Ev.step (f := fun k => (impl_Chunker_eat.f k c.1 c.2.1 c.2.2.1 c.2.2.2 (bt s i)).bind fun bt104 => (impl_Chunker_eatAll.l0 k s (((i + 1 : Nat) : Int)) bt104.1 bt104.2.1 bt104.2.2.1 bt104.2.2.2)) (fun k => ?_) (Ev.bind (f := fun k (bt104 : Chk) => impl_Chunker_eatAll.l0 k s (((i + 1 : Nat) : Int)) bt104.1 bt104.2.1 bt104.2.2.1 bt104.2.2.2) (impl_eat_ev c.1 c.2.1 c.2.2.1 c.2.2.2 (bt s i) vc hb.1 hb.2) hr)
    simp only [impl_Chunker_eatAll.l0]
    rw [if_pos hl, if_neg (by omega), if_neg (by omega), if_pos (by omega), wrap_next hi (by omega)]
  · have hl : (i : Int) < (s.size : Int) := by omega
    have h9 := vc.s1
    refine Ev.step (f := fun _ => some _) (fun k => ?_) (Ev.now _)
    simp only [impl_Chunker_eatAll.l0]
    rw [if_pos hl]
    by_cases e : c.1 = 8
    · rw [if_pos e]
    · rw [if_neg e, if_pos (by omega)]
  · refine Ev.step (f := fun _ => some _) (fun k => ?_) (Ev.now _)
    simp only [impl_Chunker_eatAll.l0]
    rw [if_neg (by omega)]
theorem hex_sign (m : Nat) (h : m < 16) : (0 ≤ bt digs36 (m : Int) ∧ bt digs36 (m : Int) ≤ 255) ∧ hexB (bt digs36 (m : Int)) = true ∧ dgt (bt digs36 (m : Int)) = (m : Int) := by
  have key : ∀ i : Fin 16, (0 ≤ bt digs36 ((i.1 : Nat) : Int) ∧ bt digs36 ((i.1 : Nat) : Int) ≤ 255) ∧ hexB (bt digs36 ((i.1 : Nat) : Int)) = true ∧ dgt (bt digs36 ((i.1 : Nat) : Int)) = ((i.1 : Nat) : Int) := by decide
  exact key ⟨m, h⟩
theorem hexL_bytes (n : Nat) : (∀ c ∈ hexL n, 0 ≤ c ∧ c ≤ 255) ∧ (hexL n).all hexB = true ∧ numB 16 (hexL n) = (n : Int) ∧ 1 ≤ (hexL n).length := by
  induction n using Nat.strongRecOn with
  | _ n ih =>
    rw [hexL]
    by_cases h : n < 16
    · rw [dif_pos h]
      obtain ⟨a, b, c⟩ := hex_sign n h
      exact ⟨fun x hx => by rw [List.mem_singleton.1 hx]; exact a, by simp [b], by unfold numB; simp [c], by simp⟩
    · rw [dif_neg h]
      obtain ⟨a, b, c⟩ := hex_sign (n % 16) (Nat.mod_lt _ (by decide))
      obtain ⟨i1, i2, i3, i4⟩ := ih (n / 16) (by omega)
      refine ⟨fun x hx => ?_, by rw [List.all_append, i2, List.all_cons, List.all_nil, b]; rfl, ?_, by simp⟩
      · rcases List.mem_append.1 hx with hx | hx
        · exact i1 x hx
        · rw [List.mem_singleton.1 hx]; exact a
      · rw [numB_snoc, i3, c]
        omega
theorem hex_back (n : Nat) (hs : (hexT n).size ≤ 13) : numOk 16 13 hexB (hexT n) = ((n : Int), true) := by
  obtain ⟨a, b, c, d⟩ := hexL_bytes n
  have e : bytesOf (hexT n) = hexL n := bytes_nums _ a
  have e2 : (hexT n).size = (hexL n).length := by rw [← e, bytesOf_length]
  unfold numOk
  rw [if_pos ⟨by omega, hs, by rw [e]; exact b⟩, e, c]
/-- The decimal digits of a number. -/
def decN (n : Nat) : List Int := if h : n < 10 then [48 + (n : Int)] else decN (n / 10) ++ [48 + ((n % 10 : Nat) : Int)]
termination_by n
decreasing_by omega
theorem dec_sign (m : Nat) (h : m < 10) : (0 ≤ (48 + (m : Int)) ∧ 48 + (m : Int) ≤ 255) ∧ digB (48 + (m : Int)) = true ∧ dgt (48 + (m : Int)) = (m : Int) := by
  have e : digB (48 + (m : Int)) = true := by unfold digB; simp; omega
  exact ⟨by omega, e, by rw [(dgt_dig e).1]; omega⟩
theorem decN_bytes (n : Nat) : (∀ c ∈ decN n, 0 ≤ c ∧ c ≤ 255) ∧ (decN n).all digB = true ∧ numB 10 (decN n) = (n : Int) ∧ 1 ≤ (decN n).length := by
  induction n using Nat.strongRecOn with
  | _ n ih =>
    rw [decN]
    by_cases h : n < 10
    · rw [dif_pos h]
      obtain ⟨a, b, c⟩ := dec_sign n h
      exact ⟨fun x hx => by rw [List.mem_singleton.1 hx]; exact a, by simp [b], by unfold numB; simp [c], by simp⟩
    · rw [dif_neg h]
      obtain ⟨a, b, c⟩ := dec_sign (n % 10) (Nat.mod_lt _ (by decide))
      obtain ⟨i1, i2, i3, i4⟩ := ih (n / 10) (by omega)
      refine ⟨fun x hx => ?_, by rw [List.all_append, i2, List.all_cons, List.all_nil, b]; rfl, ?_, by simp⟩
      · rcases List.mem_append.1 hx with hx | hx
        · exact i1 x hx
        · rw [List.mem_singleton.1 hx]; exact a
      · rw [numB_snoc, i3, c]
        omega
theorem decN_len (d : Nat) : ∀ n : Nat, n < 10 ^ (d + 1) → (decN n).length ≤ d + 1 := by
  induction d with
  | zero => intro n h; rw [decN, dif_pos (by simpa using h)]; simp
  | succ d ih =>
    intro n h
    rw [decN]
    by_cases h2 : n < 10
    · rw [dif_pos h2]; simp
    · rw [dif_neg h2, List.length_append, List.length_singleton]
      have := ih (n / 10) (by rw [Nat.pow_succ] at h; omega)
      omega
theorem numB_noughts (l : List Int) : numB 10 (48 :: 48 :: l) = numB 10 l := by
  unfold numB
  simp only [List.foldl_cons]
  rfl
theorem noughts_back (s : ByteArray) (n : Nat) (hs : s = strOfNums (decN n)) (hn : n < 100000) : numOk 10 15 digB ((⟨#[48, 48]⟩ : ByteArray) ++ s) = ((n : Int), true) := by
  obtain ⟨a, b, c, d⟩ := decN_bytes n
  have hl := decN_len 4 n (by simpa using hn)
  have e : bytesOf ((⟨#[48, 48]⟩ : ByteArray) ++ s) = 48 :: 48 :: decN n := by
    rw [bytes_append, hs, bytes_nums _ a]
    rfl
  have e2 : ((⟨#[48, 48]⟩ : ByteArray) ++ s).size = (decN n).length + 2 := by rw [← bytesOf_length, e]; rfl
  unfold numOk
  rw [if_pos ⟨by omega, by omega, by rw [e]; simp only [List.all_cons, b]; rfl⟩, e, numB_noughts, c]
theorem dec_app (l : List Int) (c : Int) (s : ByteArray) : strOfNums l ++ (strOfNums [c] ++ s) = strOfNums (l ++ [c]) ++ s := by
  apply ByteArray.ext
  apply Array.toList_inj.1
  simp only [ByteArray.data_append, Array.toList_append, strOfNums_data, List.map_append, List.append_assoc]
/-- The chunker behind bytes that it eats one by one, if it eats them all. -/
def goes : List Int → Chk → Option Chk
  | [], c => some c
  | b :: l, c => if c.1 < 8 then goes l (eatC c.1 c.2.1 c.2.2.1 c.2.2.2 b) else none
theorem goes_app (l r : List Int) (c : Chk) : goes (l ++ r) c = (goes l c).bind (goes r) := by
  induction l generalizing c with
  | nil => rfl
  | cons b l ih =>
    rw [List.cons_append]
    unfold goes
    split
    · exact ih _
    · rfl
abbrev eatF : Int × Chk → Int → (Int × Chk) ⊕ (Int × Int × ByteArray × ByteArray × Int) := fun (p : Int × Chk) b => if p.2.1 < 8 then .inl (p.1 + 1, eatC p.2.1 p.2.2.1 p.2.2.2.1 p.2.2.2.2 b) else .inr (p.2.1, p.2.2.1, p.2.2.2.1, p.2.2.2.2, p.1)
abbrev eatE : Int × Chk → Int × Int × ByteArray × ByteArray × Int := fun p => (p.2.1, p.2.2.1, p.2.2.2.1, p.2.2.2.2, p.1)
theorem runL_goes (l r : List Int) (n : Int) (c d : Chk) (h : goes l c = some d) : runL eatF eatE (l ++ r) (n, c) = runL eatF eatE r (n + (l.length : Int), d) := by
  induction l generalizing n c with
  | nil =>
    obtain rfl := Option.some.inj h
    rw [List.nil_append, List.length_nil]
    congr 2
    simp
  | cons b l ih =>
    unfold goes at h
    by_cases h8 : c.1 < 8
    · rw [if_pos h8] at h
      rw [List.cons_append]
      have e : eatF (n, c) b = .inl (n + 1, eatC c.1 c.2.1 c.2.2.1 c.2.2.2 b) := if_pos h8
      rw [runL, e]
      refine (ih (n + 1) _ h).trans ?_
      congr 2
      rw [List.length_cons]
      omega
    · rw [if_neg h8] at h
      cases h
theorem runL_done (r : List Int) (n : Int) (c : Chk) (h : ¬ c.1 < 8) : runL eatF eatE r (n, c) = (c.1, c.2.1, c.2.2.1, c.2.2.2, n) := by
  cases r with
  | nil => rfl
  | cons b r =>
    have e : eatF (n, c) b = .inr (c.1, c.2.1, c.2.2.1, c.2.2.2, n) := if_neg h
    rw [runL, e]
/-- A chunker that eats bytes and comes to its end: what stands behind is not eaten. -/
theorem eatL_goes (s : ByteArray) (l r : List Int) (c d : Chk) (hs : bytesOf s = l ++ r) (h : goes l c = some d) (hd : r = [] ∨ ¬ d.1 < 8) : eatL c s = (d.1, d.2.1, d.2.2.1, d.2.2.2, (l.length : Int)) := by
  have e := runL_goes l r 0 c d h
  unfold eatL
  rw [hs]
  refine e.trans ?_
  rw [Int.zero_add]
  rcases hd with rfl | h8
  · rfl
  · exact runL_done r _ d h8
theorem numsApp (a b : List Int) : strOfNums a ++ strOfNums b = strOfNums (a ++ b) := by
  apply ByteArray.ext
  apply Array.toList_inj.1
  rw [ByteArray.data_append, Array.toList_append, strOfNums_data, strOfNums_data, strOfNums_data, List.map_append]
theorem goes_hex (l : List Int) : ∀ (dg bd : ByteArray) (left : Int), (∀ b ∈ l, hexB b = true) → dg.size + l.length ≤ 13 → goes l (1, left, dg, bd) = some (1, left, dg ++ strOfNums l, bd) := by
  induction l with
  | nil =>
    intro dg bd left _ _
    have e : dg ++ strOfNums [] = dg := by
      apply ByteArray.ext
      rw [ByteArray.data_append]
      exact Array.append_empty
    rw [e]
    rfl
  | cons b l ih =>
    intro dg bd left hb hl
    rw [List.length_cons] at hl
    unfold goes
    rw [if_pos (show (1 : Int) < 8 by decide)]
    have e : eatC 1 left dg bd b = (1, left, dg ++ strOfNums [b], bd) := by
      unfold eatC
      rw [if_neg (by decide), if_pos rfl, if_pos ⟨hb b List.mem_cons_self, by omega⟩]
    show goes l (eatC 1 left dg bd b) = _
    rw [e, ih _ _ _ (fun x hx => hb x (List.mem_cons_of_mem _ hx)) (by rw [ByteArray.size_append, sizeE_one]; omega), ByteArray.append_assoc, numsApp]
    rfl
theorem goes_data (l : List Int) : ∀ (dg bd : ByteArray), l ≠ [] → goes l (3, (l.length : Int), dg, bd) = some (4, 0, dg, bd ++ strOfNums l) := by
  induction l with
  | nil => intro _ _ h; exact absurd rfl h
  | cons b l ih =>
    intro dg bd _
    unfold goes
    rw [if_pos (show (3 : Int) < 8 by decide)]
    show goes l (eatC 3 (((b :: l).length : Nat) : Int) dg bd b) = _
    have hl : (((b :: l).length : Nat) : Int) - 1 = (l.length : Int) := by rw [List.length_cons]; omega
    by_cases h : l = []
    · subst h
      have e : eatC 3 ((([b] : List Int).length : Nat) : Int) dg bd b = (4, 0, dg, bd ++ strOfNums [b]) := by
        unfold eatC
        rw [if_neg (by decide), if_neg (by decide), if_neg (by decide), if_pos rfl, if_pos (by simp)]
        rfl
      rw [e]
      rfl
    · have hpos : 0 < l.length := List.length_pos_iff.2 h
      have e : eatC 3 (((b :: l).length : Nat) : Int) dg bd b = (3, (l.length : Int), dg, bd ++ strOfNums [b]) := by
        unfold eatC
        rw [if_neg (by decide), if_neg (by decide), if_neg (by decide), if_pos rfl, hl, if_neg (by omega)]
      rw [e, ih _ _ h, ByteArray.append_assoc, numsApp]
      rfl
/-- A part's chunk, in numbers. -/
def chunkI (p : ByteArray) : List Int := if p.size = 0 then [] else hexL p.size ++ ([13, 10] ++ (bytesOf p ++ [13, 10]))
theorem chunkI_is (p : ByteArray) : (chunkL p).map (fun b => ((b.toNat : Nat) : Int)) = chunkI p := by
  unfold chunkL chunkI
  split
  · rfl
  · have e : (strOfNums (hexL p.size)).data.toList.map (fun b => ((b.toNat : Nat) : Int)) = hexL p.size := bytes_nums (hexL p.size) (hexL_bytes p.size).1
    rw [List.map_append, List.map_append, List.map_append, e, List.append_assoc, List.append_assoc]
    rfl
theorem chunksI_is (l : List ByteArray) : (chunksL l).map (fun b => ((b.toNat : Nat) : Int)) = l.flatMap chunkI := by
  unfold chunksL
  induction l with
  | nil => rfl
  | cons p l ih => rw [List.flatMap_cons, List.map_append, chunkI_is, ih, List.flatMap_cons]
theorem chunked_bytes (l : List ByteArray) (h1 : l.length ≤ 100) (h2 : sizes l ≤ 4000) : bytesOf (chunkedR l) = l.flatMap chunkI ++ [48, 13, 10, 13, 10] := by
  unfold chunkedR
  rw [if_neg (by omega), if_neg (by omega)]
  unfold bytesOf
  show ((chunksL l ++ [48, 13, 10, 13, 10]).map fun b : UInt8 => ((b.toNat : Nat) : Int)) = _
  rw [List.map_append, chunksI_is]
  rfl
/-- The parts behind a text. -/
def catB (bd : ByteArray) : List ByteArray → ByteArray
  | [] => bd
  | p :: l => catB (bd ++ p) l
theorem catB_size (l : List ByteArray) : ∀ bd, (catB bd l).size = bd.size + sizes l := by
  induction l with
  | nil => intro bd; rfl
  | cons p l ih => intro bd; unfold catB; rw [ih, ByteArray.size_append, sizes_cons]; omega
theorem append_none (a p : ByteArray) (h : p.size = 0) : a ++ p = a := by
  apply ByteArray.ext
  rw [ByteArray.data_append]
  have e : p.data = #[] := Array.eq_empty_of_size_eq_zero h
  rw [e]
  exact Array.append_empty
theorem none_append (p : ByteArray) : (⟨#[]⟩ : ByteArray) ++ p = p := by
  apply ByteArray.ext
  rw [ByteArray.data_append]
  exact Array.empty_append
theorem goes_chunk (p bd : ByteArray) (h : bd.size + p.size ≤ 4000) : goes (chunkI p) (1, 0, (⟨#[]⟩ : ByteArray), bd) = some (1, 0, (⟨#[]⟩ : ByteArray), bd ++ p) := by
  unfold chunkI
  by_cases h0 : p.size = 0
  · rw [if_pos h0, append_none bd p h0]
    rfl
  · rw [if_neg h0]
    obtain ⟨_, hx, _, _⟩ := hexL_bytes p.size
    have hlen := hexL_le 3 p.size (by omega)
    have hz : (⟨#[]⟩ : ByteArray).size = 0 := rfl
    rw [goes_app, goes_hex _ _ _ _ (fun b hb => List.all_eq_true.1 hx b hb) (by omega)]
    simp only [Option.bind_some]
    have hnum := hex_back p.size (by rw [hexT_is, nums_size]; omega)
    rw [hexT_is] at hnum
    rw [none_append]
    have e1 : eatC 1 0 (strOfNums (hexL p.size)) bd 13 = (2, (p.size : Int), (⟨#[]⟩ : ByteArray), bd) := by
      unfold eatC
      rw [if_neg (by decide), if_pos rfl, if_neg (by rintro ⟨h, _⟩; revert h; decide), if_pos ⟨rfl, by rw [hnum], by rw [hnum]; show ¬ (p.size : Int) > 4000 - (bd.size : Int); omega⟩, hnum]
    have e2 : eatC 2 (p.size : Int) (⟨#[]⟩ : ByteArray) bd 10 = (3, (p.size : Int), (⟨#[]⟩ : ByteArray), bd) := by
      unfold eatC
      rw [if_neg (by decide), if_neg (by decide), if_pos rfl, if_pos rfl, if_neg (by omega)]
    have g1 : goes [13, 10] (1, 0, strOfNums (hexL p.size), bd) = some (3, (p.size : Int), (⟨#[]⟩ : ByteArray), bd) := by
      unfold goes
      rw [if_pos (show (1 : Int) < 8 by decide)]
      show goes [10] (eatC 1 0 (strOfNums (hexL p.size)) bd 13) = _
      rw [e1]
      unfold goes
      rw [if_pos (show (2 : Int) < 8 by decide)]
      show goes [] (eatC 2 (p.size : Int) (⟨#[]⟩ : ByteArray) bd 10) = _
      rw [e2]
      rfl
    rw [goes_app, g1]
    simp only [Option.bind_some]
    have hbl : bytesOf p ≠ [] := fun e => h0 (by rw [← bytesOf_length, e]; rfl)
    have hdat := goes_data (bytesOf p) ⟨#[]⟩ bd hbl
    rw [bytesOf_length, nums_bytes] at hdat
    rw [goes_app, hdat]
    rfl
theorem goes_chunks (l : List ByteArray) : ∀ bd : ByteArray, bd.size + sizes l ≤ 4000 → goes (l.flatMap chunkI) (1, 0, (⟨#[]⟩ : ByteArray), bd) = some (1, 0, (⟨#[]⟩ : ByteArray), catB bd l) := by
  induction l with
  | nil => intro bd _; rfl
  | cons p l ih =>
    intro bd h
    rw [sizes_cons] at h
    rw [List.flatMap_cons, goes_app, goes_chunk p bd (by omega)]
    simp only [Option.bind_some]
    exact ih (bd ++ p) (by rw [ByteArray.size_append]; omega)
theorem goes_last (bd : ByteArray) (h : bd.size ≤ 4000) : goes [48, 13, 10, 13, 10] (1, 0, (⟨#[]⟩ : ByteArray), bd) = some (8, 0, (⟨#[]⟩ : ByteArray), bd) := by
  have hnum : numOk 16 13 hexB (strOfNums [48]) = (0, true) := by kernel_rfl
  have e0 : eatC 1 0 (⟨#[]⟩ : ByteArray) bd 48 = (1, 0, strOfNums [48], bd) := by
    unfold eatC
    rw [if_neg (by decide), if_pos rfl, if_pos ⟨by decide, by decide⟩, none_append]
  have e1 : eatC 1 0 (strOfNums [48]) bd 13 = (2, 0, (⟨#[]⟩ : ByteArray), bd) := by
    unfold eatC
    rw [if_neg (by decide), if_pos rfl, if_neg (by rintro ⟨h, _⟩; revert h; decide), if_pos ⟨rfl, by rw [hnum], by rw [hnum]; show ¬ (0 : Int) > 4000 - (bd.size : Int); omega⟩, hnum]
  have e2 : eatC 2 0 (⟨#[]⟩ : ByteArray) bd 10 = (6, 0, (⟨#[]⟩ : ByteArray), bd) := rfl
  have e3 : eatC 6 0 (⟨#[]⟩ : ByteArray) bd 13 = (7, 0, (⟨#[]⟩ : ByteArray), bd) := rfl
  have e4 : eatC 7 0 (⟨#[]⟩ : ByteArray) bd 10 = (8, 0, (⟨#[]⟩ : ByteArray), bd) := rfl
  have st : ∀ (b : Int) (l : List Int) (c : Chk), c.1 < 8 → goes (b :: l) c = goes l (eatC c.1 c.2.1 c.2.2.1 c.2.2.2 b) := fun b l c h => by rw [goes, if_pos h]
  rw [st _ _ _ (by show (1 : Int) < 8; decide)]
  show goes _ (eatC 1 0 (⟨#[]⟩ : ByteArray) bd 48) = _
  rw [e0, st _ _ _ (by show (1 : Int) < 8; decide)]
  show goes _ (eatC 1 0 (strOfNums [48]) bd 13) = _
  rw [e1, st _ _ _ (by show (2 : Int) < 8; decide)]
  show goes _ (eatC 2 0 (⟨#[]⟩ : ByteArray) bd 10) = _
  rw [e2, st _ _ _ (by show (6 : Int) < 8; decide)]
  show goes _ (eatC 6 0 (⟨#[]⟩ : ByteArray) bd 13) = _
  rw [e3, st _ _ _ (by show (7 : Int) < 8; decide)]
  show goes _ (eatC 7 0 (⟨#[]⟩ : ByteArray) bd 10) = _
  rw [e4]
  rfl
/-- What chunks are eaten to. -/
theorem goes_all (l : List ByteArray) (h1 : l.length ≤ 100) (h2 : sizes l ≤ 4000) : goes (bytesOf (chunkedR l)) (1, 0, (⟨#[]⟩ : ByteArray), (⟨#[]⟩ : ByteArray)) = some (8, 0, (⟨#[]⟩ : ByteArray), catB ⟨#[]⟩ l) := by
  have hz : (⟨#[]⟩ : ByteArray).size = 0 := rfl
  rw [chunked_bytes l h1 h2, goes_app, goes_chunks l ⟨#[]⟩ (by omega)]
  simp only [Option.bind_some]
  exact goes_last _ (by rw [catB_size]; omega)
abbrev chk0 : Chk := (1, 0, (⟨#[]⟩ : ByteArray), (⟨#[]⟩ : ByteArray))
theorem eat_behind (l : List ByteArray) (h1 : l.length ≤ 100) (h2 : sizes l ≤ 4000) (t : ByteArray) : eatL chk0 (chunkedR l ++ t) = (8, 0, (⟨#[]⟩ : ByteArray), catB ⟨#[]⟩ l, ((chunkedR l).size : Int)) := by
  have := eatL_goes (chunkedR l ++ t) (bytesOf (chunkedR l)) (bytesOf t) chk0 _ (bytes_append _ _) (goes_all l h1 h2) (.inr (by show ¬ (8 : Int) < 8; decide))
  rw [bytesOf_length] at this
  exact this
theorem eat_whole (l : List ByteArray) (h1 : l.length ≤ 100) (h2 : sizes l ≤ 4000) : eatL chk0 (chunkedR l) = (8, 0, (⟨#[]⟩ : ByteArray), catB ⟨#[]⟩ l, ((chunkedR l).size : Int)) := by
  have := eatL_goes (chunkedR l) (bytesOf (chunkedR l)) [] chk0 _ (List.append_nil _).symm (goes_all l h1 h2) (.inl rfl)
  rw [bytesOf_length] at this
  exact this
theorem eat_part (l : List ByteArray) (h1 : l.length ≤ 100) (h2 : sizes l ≤ 4000) (m : Nat) (hm : m < (chunkedR l).size) : (eatL chk0 ((chunkedR l).extract 0 m)).1 ≠ 8 := by
  have hb : bytesOf ((chunkedR l).extract 0 m) = (bytesOf (chunkedR l)).take m := by rw [bytes_extract, List.drop_zero, Nat.sub_zero]
  have hg := goes_all l h1 h2
  rw [← List.take_append_drop m (bytesOf (chunkedR l)), goes_app] at hg
  obtain ⟨d, hd, hr⟩ := Option.bind_eq_some_iff.1 hg
  have hne : (bytesOf (chunkedR l)).drop m ≠ [] := fun e => by
    have := congrArg List.length e
    rw [List.length_drop, bytesOf_length, List.length_nil] at this
    omega
  have h8 : d.1 < 8 := by
    cases hx : (bytesOf (chunkedR l)).drop m with
    | nil => exact absurd hx hne
    | cons b r =>
      rw [hx] at hr
      unfold goes at hr
      by_cases h : d.1 < 8
      · exact h
      · rw [if_neg h] at hr; cases hr
  have := eatL_goes ((chunkedR l).extract 0 m) _ [] chk0 d (by rw [hb, List.append_nil]) hd (.inl rfl)
  rw [this]
  show d.1 ≠ 8
  omega
end Go.Proofs.YtfbgpjhnjdhpcaaDoor.Q
namespace Go.Proofs.YtfbgpjhnjdhpcaaDoor.Pure
set_option linter.unusedVariables false
set_option linter.unusedSimpArgs false
open Go.RowKit Go.Proofs.YtfbgpjhnjdhpcaaDoor.P Go.Proofs.YtfbgpjhnjdhpcaaDoor.Q Go.Proofs.YtfbgpjhnjdhpcaaDoorW.PrintWords
def unchR (c : Int × Int × ByteArray × ByteArray × Int) : ByteArray × Int × Bool := if c.1 = 8 then (c.2.2.2.1, c.2.2.2.2, true) else (⟨#[]⟩, 0, false)
theorem chk0_ok : Vc chk0 := ⟨by show (1 : Int) ≤ 1; decide, by show (1 : Int) ≤ 9; decide, by show (0 : Int) ≤ 0; decide, by show (0 : Int) + ((0 : Nat) : Int) ≤ 4000; decide, Nat.zero_le _, fun h => absurd h (by show ¬ (1 : Int) = 3; decide)⟩
theorem impl_Unchunked_ev (s : ByteArray) (hs : s.size ≤ 1048576) : Ev (fun k => impl_Unchunked.f k s) (unchR (eatL chk0 s)) := by
 unfold impl_Unchunked.f
 refine Ev.bind (impl_eatL_ev s (by omega) 1 0 _ _ chk0_ok) ?_
 unfold unchR
 split
 ·
  exact Ev.now _
 ·
  exact Ev.now _
theorem spec_Unchunked_ev (s : ByteArray) (hs : s.size ≤ 1048576) : Ev (fun k => spec_Unchunked.f k s) (unchR (eatL chk0 s)) := by
 have hc : chunkerOk 1 0 (⟨#[]⟩ : ByteArray) (⟨#[]⟩ : ByteArray) = true := by decide +kernel
 have h1 := spec_ChunkerOk_ev 1 0 (⟨#[]⟩ : ByteArray) (⟨#[]⟩ : ByteArray) (Nat.zero_le _)
 rw [hc] at h1
 have h2 : Ev (fun k => spec_EatAll.f k 1 0 (⟨#[]⟩ : ByteArray) (⟨#[]⟩ : ByteArray) s) (eatL chk0 s) := by
  unfold spec_EatAll.f
  refine Ev.bind h1 ?_
  simp only [if_true]
  exact spec_eatL_ev s (by omega) 1 0 _ _ chk0_ok
 unfold spec_Unchunked.f
 refine Ev.bind h2 ?_
 unfold unchR
 split
 ·
  exact Ev.now _
 ·
  exact Ev.now _
theorem chunked_end (l : List Int) (hb : l.length ≤ 140737488351232) (hx : ∀ x ∈ l, 0 ≤ x ∧ x ≤ 255) (p : List ByteArray) (h1 : p.length ≤ 100) (h2 : sizes p ≤ 4000) (h3 : 0 < (chunkedR p).size) :
  Ev (fun k => laws_FnChunked.l0 k l p (chunkedR p) (catB ⟨#[]⟩ p) (p.length : Int)) true := by
 have hz := chunkedR_size p
 have hz2 : (⟨#[48, 120]⟩ : ByteArray).size = 2 := rfl
 have hzc : (catB ⟨#[]⟩ p).size = sizes p := by rw [catB_size]; exact Nat.zero_add _
 obtain ⟨t, ht, t0, t1⟩ := pick_ok l hb hx 1 ((chunkedR p).size : Int) (by decide) (by omega)
 have hu1 := impl_Unchunked_ev (chunkedR p ++ (⟨#[48, 120]⟩ : ByteArray)) (by rw [ByteArray.size_append]; omega)
 rw [eat_behind p h1 h2] at hu1
 have hone : sizes [catB ⟨#[]⟩ p] ≤ 4000 := by rw [sizes_cons, hzc]; show sizes p + 0 ≤ 4000; omega
 have hz1 := chunkedR_size [catB ⟨#[]⟩ p]
 have hu3 := impl_Unchunked_ev (chunkedR [catB ⟨#[]⟩ p]) (by omega)
 rw [eat_whole [catB ⟨#[]⟩ p] (by simp) hone] at hu3
 have hcat : catB ⟨#[]⟩ [catB ⟨#[]⟩ p] = catB ⟨#[]⟩ p := none_append _
 rw [hcat] at hu3
 have hw : wrap64 (wrap64 (((chunkedR p).size : Int) - 1) - t) = ((chunkedR p).size : Int) - 1 - t := by
  rw [wrap_in (i := ((chunkedR p).size : Int) - 1) (by omega) (by omega), wrap_in (by omega) (by omega)]
 have hu2 := impl_Unchunked_ev ((chunkedR p).extract 0 (((chunkedR p).size : Int) - 1 - t).toNat) (by rw [ByteArray.size_extract]; omega)
 have hpart := eat_part p h1 h2 (((chunkedR p).size : Int) - 1 - t).toNat (by omega)
 have hr2 : (unchR (eatL chk0 ((chunkedR p).extract 0 (((chunkedR p).size : Int) - 1 - t).toNat))).2.2 = false := by
  unfold unchR
  rw [if_neg hpart]
 refine Ev.step (fun k => by simp only [laws_FnChunked.l0]; rw [if_neg (by omega), if_pos (by omega)]) ?_
 refine Ev.bind hu1 (Ev.bind ht ?_)
 simp only [hw]
 have c1 : (0 : Int) ≤ ((chunkedR p).size : Int) - 1 - t := by omega
 have c2 : ((chunkedR p).size : Int) - 1 - t ≤ ((chunkedR p).size : Int) := by omega
 simp only [if_pos c1, if_pos c2]
 refine Ev.bind hu2 ?_
 simp only [impl_Chunked_is [catB ⟨#[]⟩ p] (by omega), Option.bind_some]
 refine Ev.bind hu3 ?_
 simp only [hr2]
 unfold unchR
 simp only [if_true, Bool.false_eq_true, if_false, beq_self_eq_true]
 exact Ev.now _
theorem chunked_loop (l : List Int) (p : List ByteArray) (h1 : p.length ≤ 100) (h2 : sizes p ≤ 4000) (fin : Ev (fun k => laws_FnChunked.l0 k l p (chunkedR p) (catB ⟨#[]⟩ p) (p.length : Int)) true) (n : Nat) : ∀ (i : Nat) (acc : ByteArray), i + n = p.length → acc.size ≤ 4000 → acc.size + sizes (p.drop i) ≤ 4000 → catB acc (p.drop i) = catB ⟨#[]⟩ p →
  Ev (fun k => laws_FnChunked.l0 k l p (chunkedR p) acc (i : Int)) true := by
 induction n with
 | zero =>
  intro i acc hd _ _ hc
  obtain rfl : i = p.length := by omega
  rw [List.drop_length] at hc
  have : acc = catB ⟨#[]⟩ p := hc
  rw [this]
  exact fin
 | succ n ih =>
  intro i acc hd ha hs hc
  have hi : i < p.length := by omega
  rw [List.drop_eq_getElem_cons hi, sizes_cons] at hs
  rw [List.drop_eq_getElem_cons hi] at hc
  refine Ev.step (fun k => ?_) (ih (i + 1) (acc ++ p[i]) (by omega) (by rw [ByteArray.size_append]; omega) (by rw [ByteArray.size_append]; omega) hc)
  simp only [laws_FnChunked.l0]
  rw [if_pos (by omega), if_pos (by omega), rd_tx p i hi, if_pos (by omega), wrap_in (i := (i : Int) + 1) (by omega) (by omega), show ((i : Int) + 1) = ((i + 1 : Nat) : Int) by omega]
theorem FnChunked : laws_FnChunked.Pure := by
 intro l hl hs hx
 have hb : l.length ≤ 140737488351232 := by omega
 have hx2 : ∀ x ∈ l, 0 ≤ x ∧ x ≤ 255 := fun x h => by
  have := hx x h
  simp [Lit.wf] at this
  have e1 : IntKind.u8.min = 0 := rfl
  have e2 : IntKind.u8.max = 255 := rfl
  omega
 obtain ⟨p, d1, p1, p2⟩ := drawChunked_ok l hb
 obtain ⟨t, d2, t1⟩ := drawUnchunked_ok l hb
 have hI := impl_Chunked_is p (by omega)
 have hj : Ev (fun k => laws_FnChunked.j0 k l p (chunkedR p) false) true := by
  by_cases he : (chunkedR p).toList = ([] : List UInt8)
  ·
   refine Ev.step (f := fun _ => some true) (fun k => ?_) (Ev.now _)
   simp only [laws_FnChunked.j0]
   rw [if_neg (by simp), if_pos he]
  ·
   have hne : (chunkedR p).size ≠ 0 := fun h => he ((toList_nil _).2 h)
   have h1 : p.length ≤ 100 := by
    refine Nat.le_of_not_lt fun h => hne ?_
    unfold chunkedR
    rw [if_pos h]
    rfl
   have h2 : sizes p ≤ 4000 := by
    refine Nat.le_of_not_lt fun h => hne ?_
    unfold chunkedR
    rw [if_neg (by omega), if_pos h]
    rfl
   refine Ev.step (fun k => ?_) (chunked_loop l p h1 h2 (chunked_end l hb hx2 p h1 h2 (by omega)) p.length 0 ⟨#[]⟩ (by omega) (Nat.zero_le _) (by rw [List.drop_zero]; show 0 + sizes p ≤ 4000; omega) rfl)
   simp only [laws_FnChunked.j0]
   rw [if_neg (by simp), if_neg he]
   rfl
 have key : Ev (fun k => laws_FnChunked.f k l) true := by
  unfold laws_FnChunked.f laws_big.f
  simp only [Option.bind_some]
  by_cases hb2 : decide ((l.length : Int) > 4096) = true
  ·
   simp only [if_pos hb2]
   exact Ev.now _
  ·
   simp only [if_neg hb2]
   refine Ev.bind d1 ?_
   simp only [hI, Option.bind_some]
   refine Ev.bind d2 (Ev.bind (impl_Unchunked_ev t (by omega)) (Ev.bind (spec_Unchunked_ev t (by omega)) ?_))
   simp only [if_true, bne_self_eq_false, Bool.false_eq_true, if_false]
   refine Ev.bind (spec_Chunked_ev p (by omega) (by omega)) ?_
   simp only [bne_self_eq_false]
   exact hj
 obtain ⟨K, hK⟩ := key
 exact ⟨K, hK K (Nat.le_refl _)⟩
end Go.Proofs.YtfbgpjhnjdhpcaaDoor.Pure
namespace Go.Proofs.YtfbgpjhnjdhpcaaDoor.fnChunked
open Go.ChangeShapes Go.WideShapes Go.ChangeAt Go.RowKit
open Go.ChangeMaps (open_string shut_string)
set_option linter.unusedVariables false
theorem own : ownKnob Tryd.prog.godebug = none := by kernel_rfl
theorem laidOut : laidOutB Tryd.prog = true := by kernel_rfl
def IsRow (k : IntKind) (w : World) (a : Option Addr) (len cap : Nat) (zs : List Int) : Prop :=
  (a = none ∧ len = 0 ∧ cap = 0 ∧ zs = []) ∨
  ∃ x, a = some x ∧ len ≤ cap ∧ cap ≤ maxLen ∧ zs.length = cap ∧ (∀ i, i < zs.length → w.cell? (x.add i) = some (.int k (zs.getD i 0))) ∧ ∀ n ∈ zs, (Lit.int k n).wf = true
set_option maxRecDepth 100000 in
theorem lifted (os : Os) (started : os.Started) (H : Type) (enc : TypeId × Value → H) :
    ReturnsInHanded {} Tryd.checked os 4 .any (fun w args => (Rows.fnChunkedSpec.pre enc Tryd.prog Tryd.f4 [] false w args ∧ laidMetH Tryd.prog Rows.fnChunkedRow.laid w) ∧ sizedMet enc Tryd.prog Tryd.f4 (OpenSpec.ofChange Rows.fnChunkedSpec) false w args) (Rows.fnChunkedSpec.post enc Tryd.prog Tryd.f4 false true false false) := by
  refine RowAid.handed_both (C := Tryd.checked) (X := fun w _ => laidMetH Tryd.prog Rows.fnChunkedRow.laid w) (fun _ _ _ hh h => h.of_heap hh) own started (by kernel_rfl) Tryd.func4
    (ChangeSpec.witness_shaped (enc := enc) (C := Tryd.checked) (os := os) (X := fun w _ => laidMetH Tryd.prog Rows.fnChunkedRow.laid w) false (World.laidAll Tryd.prog os Rows.fnChunkedRow.laid) #[.slice none 0 0] 8 (World.laidAll_os _ _ _)
      (World.shaped_of_ZipB (by kernel_rfl) (by kernel_rfl)) (by kernel_rfl) (by kernel_rfl) (by kernel_rfl)
      (by rw [MakeChecks.laidMetH_plain _ _ _ (by kernel_rfl)]; exact laidMet_laidAll _ (by kernel_rfl) (by kernel_rfl))) ?_
  intro W base args ds gs before hval0 hW hcnd hsz0 hL hSh _
  have hsz : (DataW.weightsEach Tryd.prog (Tryd.f4.params.toList ++ Rows.fnChunkedSpec.plain.varTypes Tryd.prog) (ds ++ gs)).all (· ≤ reachBytes) = true := hsz0
  have hval : ∀ (j : Nat) t v, Tryd.f4.params[j]? = some t → args[j]? = some v → Value.okWide Tryd.prog W .any base t v := hval0
  have hW' := hW
  obtain ⟨p, q, hA0, hV, rfl, hfz, hnd⟩ := hW
  have hA : DataW.TrodAll enc Tryd.prog W 0 (fun _ => true) true Tryd.f4.params.toList args.toList ds p := hA0
  rw [Tryd.params4] at hA hval hsz
  obtain ⟨v0, vs0, d0, ds0, p0, q0, hargs, rfl, rfl, h0, r0⟩ := trodAll_cons hA
  obtain ⟨rfl, rfl, rfl⟩ := trodAll_nil r0
  obtain rfl : args = #[v0] := by cases args; simp_all
  obtain ⟨rfl, rfl⟩ := trodVars_none hV
  obtain ⟨a0, len0, cap0, rfl⟩ := okWide_slice Tryd.underlying22 (hval 0 22 v0 rfl rfl)
  have k0 := h0
  have lt0 : ∀ x ∈ p0, x.block < W.heap.size := by obtain ⟨m, hm⟩ := k0; exact DataW.trod_lt m _ _ _ hm
  obtain ⟨z0, w0⟩ : ∃ zs, IsRow .u8 W a0 len0 cap0 zs := by
    obtain ⟨fuel, hf⟩ := h0
    rcases open_ints Tryd.underlying22 Tryd.underlying5 (by kernel_rfl) hf with ⟨hcs, _⟩ | ⟨x, l, c, zs, hcs, _, hl, hm, hz, _, hcell, hwz⟩
    · simp [Value.cells] at hcs
      obtain ⟨rfl, rfl, rfl⟩ := hcs
      exact ⟨[], .inl ⟨rfl, rfl, rfl, rfl⟩⟩
    · simp [Value.cells] at hcs
      obtain ⟨rfl, rfl, rfl⟩ := hcs
      exact ⟨zs, .inr ⟨_, rfl, hl, hm, by simpa using hz, hcell, hwz⟩⟩
  have y0 : len0 * 1 ≤ 140737488351232 := Go.Proofs.YtfbgpjhnjdhpcaaDoorW.PrintWords.sized_ints hsz (j := 0) (t := 22) rfl rfl Tryd.underlying22 Tryd.underlying5 (by kernel_rfl) (by kernel_rfl) h0
  clear hA0 hval0 hsz0 hsz
  have hXW := RowAid.xw_of (m := 6) hSh Rows.fnChunkedRow.laid hL (by kernel_rfl) (fun _ => by kernel_rfl) (fun _ => by kernel_rfl)
  refine (P.laws_FnChunked.walk Pure.FnChunked a0 len0 cap0 z0 W hXW w0 y0).mono fun e W' ⟨he, bel⟩ => ?_
  subst he
  exact ⟨_, rfl, _, _, _, [], _, [], hW', trodAll_mk1 (shut_bool Tryd.underlying4 _), (trodAll_cons_mk (Below.trod laidOut (by kernel_rfl) (of_decide_eq_true (by kernel_rfl)) k0 bel lt0) trodAll_mk0), rfl, bel.frame _, fun h => by cases h⟩
theorem over : Rows.fnChunkedRow.holds Tryd.pinned (OpenSpec.ofChange Rows.fnChunkedSpec) :=
  OpenClaim.holds_of_wide 4 Tryd.f4 rfl rfl rfl rfl rfl rfl rfl ⟨rfl, rfl, rfl, rfl, rfl⟩ rfl rfl rfl rfl rfl (by kernel_rfl) Tryd.func4 (by kernel_rfl)
    (of_decide_eq_true (by kernel_rfl)) (by unfold Func.isWrapper; first | (rw [if_pos (by decide +kernel)]; kernel_rfl) | (rw [if_neg (by decide +kernel)]; exact ⟨rfl, rfl⟩))
    (fun os started H enc _ => lifted os started H enc)
theorem proved : Rows.FnChunkedSaid := over
#print axioms proved
end Go.Proofs.YtfbgpjhnjdhpcaaDoor.fnChunked
namespace Go.Proofs.YtfbgpjhnjdhpcaaDoor
/-- The tied card, under a short name, for the claim. -/
theorem fnChunked_card : Rows.FnChunkedCardSaid :=
  Claim7.holds_tied_plain_at .later [] [.data, .data, .data, .sentinel, .sentinel] true (true, "78e80f0384d6e2022df3e81acfcb6307d5866df5814ad4cc6640037b35f23dbb") true
    fnChunked.proved (fun _ h => by cases h) (by kernel_rfl) (fun _ h => by cases h) fnChunked_row_tie rfl ⟨rfl, rfl⟩ (by kernel_rfl) rfl
    (fun f fn hf hfn => by
      obtain rfl : f = 4 := Option.some.inj ((show Tryd.prog.funcNamed "loop.example/g00207/laws.FnChunked" = some 4 by kernel_rfl).symm.trans hf) |>.symm
      obtain rfl : fn = Tryd.f4 := (Option.some.inj (Tryd.func4.symm.trans hfn)).symm
      exact ⟨by kernel_rfl, fun j t ht => by
        rw [Tryd.params4] at ht
        have hm : t ∈ [22] := by simpa using Array.mem_of_getElem? ht
        have hall : ([22].all fun u => !Tryd.prog.wantsStandIn u) = true := by kernel_rfl
        exact (show Tryd.prog.wantsStandIn t = false by simpa using List.all_eq_true.1 hall t hm)⟩)
    (by kernel_rfl)
#print axioms fnChunked_card
end Go.Proofs.YtfbgpjhnjdhpcaaDoor
