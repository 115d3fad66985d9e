/-
  strings.NewReplacer and sync.Once at the four texts of impl.quoted: the table is built once. Condition: the replacer is new.
-/
import Derived.Test.YtpgpjgdcfhodgaaGreatDoorGReplacerB
import Derived.Test.YtpgpjgdcfhodgaaGreatDoorP0
namespace Go.Proofs.YtpgpjgdcfhodgaaGreatDoor.P
set_option linter.unusedVariables false
set_option linter.unusedSimpArgs false
open Go.RowKit Go.Lib Go.Proofs.YtpgpjgdcfhodgaaGreatDoorW.PrintWords Go.Proofs.YtpgpjgdcfhodgaaGreatDoorW.PrintLast Go.Proofs.YtpgpjgdcfhodgaaGreatDoorW.PrintMore

/-- The replacer's texts lie in block B. -/
def RpOld (B : Nat) (W : World) : Prop := W.cell? ⟨B, 0, none⟩ = some (.string ⟨#[34]⟩) ∧ W.cell? ⟨B, 1, none⟩ = some (.string ⟨#[92, 34]⟩) ∧ W.cell? ⟨B, 2, none⟩ = some (.string ⟨#[92]⟩) ∧ W.cell? ⟨B, 3, none⟩ = some (.string ⟨#[92, 92]⟩)
set_option maxRecDepth 100000 in
set_option maxHeartbeats 8000000 in
theorem rp_buildOnce (g B C : Nat) (x0 x1 x2 x3 : Value) (w : World) (hg : w.heap[g]? = some (.cells #[x0, x1, x2, x3, .slice (some ⟨B, 0, none⟩) 4 C] 68 (0, 0))) (ho : RpOld B w) :
    Calls Tryz.prog 53 #[.pointer (some ⟨g, 0, none⟩)] w fun e w' => e = .returned (.tuple #[]) ∧ ∃ T R, RpTab w.heap.size T R w' ∧
      w'.heap[g]? = some (.cells #[x0, x1, x2, .iface 93 (.pointer (some ⟨R, 0, none⟩)), .slice none 0 0] 68 (0, 0)) ∧ Stp w w' g := by
  have hgl : g < w.heap.size := (Array.getElem?_eq_some_iff.1 hg).1
  have hb := rp_build g B C x0 x1 x2 x3 w hg ho.1 ho.2.1 ho.2.2.1 ho.2.2.2
  have HB := Aside0.mk hb
  have HG := Aside0.mk hg
  clear hb hg ho
  go_enter Tryz.func53, Tryz.ntmps53
  go_wp2_with (go_at_call 62; refine HB.out.mono ?_; rintro e w1 ⟨T, R, rfl, hq⟩; have HQ := Aside0.mk hq; have G1 := blk_below HG.out hq.1; have c3 := blk_cell G1 3; have z3 := blk_frozen G1 3; have G2 := blk_put G1 3 (.iface 93 (.pointer (some ⟨R, 0, none⟩))) rfl; have c4 := blk_cell G2 4; have z4 := blk_frozen G2 4; have HG2 := Aside0.mk G2; clear G2 G1 hq)
  go_wp2
  go_end0
  refine ⟨rfl, T, R, HQ.out.tab.keep fun k hk _ => ?_, blk_put HG2.out 4 _ rfl, ⟨HQ.out.1.os, HQ.out.1.tape, HQ.out.1.output, by simpa [World.setCell] using HQ.out.1.size, fun k hk hkg => ?_⟩⟩
  · rw [Below.heap_setCell _ _ _ k (show k ≠ g by omega), Below.heap_setCell _ _ _ k (show k ≠ g by omega)]
  · rw [Below.heap_setCell _ _ _ k (show k ≠ g from hkg), Below.heap_setCell _ _ _ k (show k ≠ g from hkg)]
    exact HQ.out.1.block k hk
set_option maxRecDepth 100000 in
set_option maxHeartbeats 8000000 in
theorem rp_slow (g B C : Nat) (x2 x3 : Value) (w : World) (hg : w.heap[g]? = some (.cells #[.int .u32 0, .int .i32 0, x2, x3, .slice (some ⟨B, 0, none⟩) 4 C] 68 (0, 0))) (ho : RpOld B w) (hBg : B ≠ g) :
    Calls Tryz.prog 61 #[.pointer (some ⟨g, 0, none⟩), .func (.func 53) #[.pointer (some ⟨g, 0, none⟩)] #[]] w fun e w' => e = .returned (.tuple #[]) ∧ ∃ T R, RpTab w.heap.size T R w' ∧
      w'.heap[g]? = some (.cells #[.int .u32 1, .int .i32 0, x2, .iface 93 (.pointer (some ⟨R, 0, none⟩)), .slice none 0 0] 68 (0, 0)) ∧ Stp w w' g := by
  have hgl : g < w.heap.size := (Array.getElem?_eq_some_iff.1 hg).1
  have f1 := blk_frozen hg 1
  have d1 := blk_cell hg 1
  have G1 := blk_put hg 1 (.int .i32 1) rfl
  have hl := run_call_load (P := Tryz.prog) Tryz.func66 (by kernel_rfl) (by kernel_rfl) (by kernel_rfl) .u32 (by kernel_rfl) (w := w.setCell ⟨g, 1, none⟩ (.int .i32 1)) (a := ⟨g, 0, none⟩) (x := 0) (blk_cell G1 0)
  have ho1 : RpOld B (w.setCell ⟨g, 1, none⟩ (.int .i32 1)) := by
    have q : ∀ j x, w.cell? ⟨B, j, none⟩ = some x → (w.setCell ⟨g, 1, none⟩ (.int .i32 1)).cell? ⟨B, j, none⟩ = some x := fun j x h => (World.cell?_setCell_other w ⟨g, 1, none⟩ ⟨B, j, none⟩ _ (by intro e; injection e with e1; exact hBg e1.symm)).trans h
    exact ⟨q 0 _ ho.1, q 1 _ ho.2.1, q 2 _ ho.2.2.1, q 3 _ ho.2.2.2⟩
  have HB := Aside0.mk (rp_buildOnce g B C (.int .u32 0) (.int .i32 1) x2 x3 _ G1 ho1)
  have hnot : ∀ (x : Bool) (w : World), (Op.unary .not (.bool x)).run Tryz.prog w = .ok (.bool (!x)) w := fun _ _ => rfl
  have HL := Aside0.mk (rp_lock ⟨g, 1, none⟩ w d1 f1)
  clear hg ho ho1 G1
  go_enter_defers Tryz.func61, Tryz.ntmps61
  go_wp2_with (first | (go_at_call 67; refine HL.out.mono ?_; rintro e w' ⟨rfl, rfl⟩) | (go_at_call 53; refine HB.out.mono ?_; rintro e w1 ⟨rfl, T, R, hq⟩; have HQ := Aside0.mk hq; clear hq) | (go_at_call 60; go_in))
  obtain ⟨hT, hG, hS⟩ := HQ.out
  have G2 := blk_put (blk_drew hG) 0 (.int .u32 1) rfl
  have G3 := blk_put G2 1 (.int .i32 0) rfl
  have hfin : ∃ T R, RpTab w.heap.size T R ((w1.drew.setCell ⟨g, 0, none⟩ (.int .u32 1)).setCell ⟨g, 1, none⟩ (.int .i32 0)) ∧
      ((w1.drew.setCell ⟨g, 0, none⟩ (.int .u32 1)).setCell ⟨g, 1, none⟩ (.int .i32 0)).heap[g]? = some (.cells #[.int .u32 1, .int .i32 0, x2, .iface 93 (.pointer (some ⟨R, 0, none⟩)), .slice none 0 0] 68 (0, 0)) ∧
      Stp w ((w1.drew.setCell ⟨g, 0, none⟩ (.int .u32 1)).setCell ⟨g, 1, none⟩ (.int .i32 0)) g := by
    have hsz : (w.setCell ⟨g, 1, none⟩ (.int .i32 1)).heap.size = w.heap.size := by simp [World.setCell]
    rw [hsz] at hT
    refine ⟨T, R, hT.keep fun k hk _ => ?_, G3, ⟨hS.os, hS.tape, hS.output, ?_, fun k hk hkg => ?_⟩⟩
    · rw [Below.heap_setCell _ _ _ k (show k ≠ g by omega), Below.heap_setCell _ _ _ k (show k ≠ g by omega)]
      rfl
    · have h := hS.size
      rw [hsz] at h
      simpa [World.setCell] using h
    · rw [Below.heap_setCell _ _ _ k (show k ≠ g from hkg), Below.heap_setCell _ _ _ k (show k ≠ g from hkg)]
      refine (hS.block k (by rw [hsz]; exact hk) hkg).trans ?_
      exact Below.heap_setCell w ⟨g, 1, none⟩ _ k hkg
  refine leaves_cons (f := 69) (args := #[.pointer (some ⟨g, 0, none⟩), .bool true]) (by simp) (by simp [go_sem]) ?_
  refine (rp_store ⟨g, 0, none⟩ (.int .u32 0) .returning _ (blk_cell hG 0) (blk_frozen hG 0)).mono ?_
  rintro e u' w'' ⟨rfl, rfl, rfl⟩
  refine leaves_cons (f := 68) (args := #[.pointer (some ⟨g, 1, none⟩)]) (by simp [settle]) (by simp [go_sem]) ?_
  refine (rp_unlock ⟨g, 1, none⟩ _ _ (blk_cell G2 1) (blk_frozen G2 1)).mono ?_
  rintro e u' w'' ⟨rfl, rfl, rfl⟩
  generalize (w1.drew.setCell ⟨g, 0, none⟩ (.int .u32 1)).setCell ⟨g, 1, none⟩ (.int .i32 0) = W2 at hfin ⊢
  exact ⟨_, results_none rfl _ _ _, rfl, hfin⟩

/-- '(*sync.Once).Do', not yet done. -/
theorem rp_do (g B C : Nat) (x2 x3 : Value) (w : World) (hg : w.heap[g]? = some (.cells #[.int .u32 0, .int .i32 0, x2, x3, .slice (some ⟨B, 0, none⟩) 4 C] 68 (0, 0))) (ho : RpOld B w) (hBg : B ≠ g) :
    Calls Tryz.prog 52 #[.pointer (some ⟨g, 0, none⟩), .func (.func 53) #[.pointer (some ⟨g, 0, none⟩)] #[]] w fun e w' => e = .returned (.tuple #[]) ∧ ∃ T R, RpTab w.heap.size T R w' ∧
      w'.heap[g]? = some (.cells #[.int .u32 1, .int .i32 0, x2, .iface 93 (.pointer (some ⟨R, 0, none⟩)), .slice none 0 0] 68 (0, 0)) ∧ Stp w w' g := by
  have hl := run_call_load (P := Tryz.prog) Tryz.func66 (by kernel_rfl) (by kernel_rfl) (by kernel_rfl) .u32 (by kernel_rfl) (w := w) (a := ⟨g, 0, none⟩) (x := 0) (blk_cell hg 0)
  have hnot : ∀ (x : Bool) (w : World), (Op.unary .not (.bool x)).run Tryz.prog w = .ok (.bool (!x)) w := fun _ _ => rfl
  have HS := Aside0.mk (rp_slow g B C x2 x3 w hg ho hBg)
  clear hg ho
  go_enter Tryz.func52, Tryz.ntmps52
  go_wp2_with (first | (go_at_call 61; refine HS.out.mono ?_; rintro e w1 ⟨rfl, hq⟩; have HQ := Aside0.mk hq; clear hq) | (go_at_call 60; go_in))
  go_end0
  exact ⟨rfl, HQ.out⟩
end Go.Proofs.YtpgpjgdcfhodgaaGreatDoor.P
