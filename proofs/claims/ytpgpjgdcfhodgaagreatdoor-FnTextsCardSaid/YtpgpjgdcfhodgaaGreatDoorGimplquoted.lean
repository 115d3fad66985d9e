/-
  impl.quoted: a text in quotation marks, by a strings.Replacer. Condition: the text is not longer than a hundred million bytes.
-/
import Derived.Test.YtpgpjgdcfhodgaaGreatDoorGReplacerD
import Derived.Test.YtpgpjgdcfhodgaaGreatDoorP0
namespace Go.Proofs.YtpgpjgdcfhodgaaGreatDoor.P
set_option linter.unusedVariables false
set_option linter.unusedSimpArgs false
open Go.RowKit Go.Lib Go.Proofs.YtpgpjgdcfhodgaaGreatDoorW.PrintWords Go.Proofs.YtpgpjgdcfhodgaaGreatDoorW.PrintLast Go.Proofs.YtpgpjgdcfhodgaaGreatDoorW.PrintMore

set_option maxRecDepth 100000 in
set_option maxHeartbeats 8000000 in
theorem rp_make (B : Nat) (w : World) (ho : RpOld B w) :
    Calls Tryz.prog 39 #[.slice (some ⟨B, 0, none⟩) 4 4] w fun e w' => ∃ g B2 C, e = .returned (.pointer (some ⟨g, 0, none⟩)) ∧ B2 ≠ g ∧ w.heap.size ≤ g ∧ RpOld B2 w' ∧
      w'.heap[g]? = some (.cells #[.int .u32 0, .int .i32 0, .int .u32 0, .nilIface, .slice (some ⟨B2, 0, none⟩) 4 C] 68 (0, 0)) ∧ Below w.heap.size w w' := by
  obtain ⟨i, hi, he⟩ := Option.map_eq_some_iff.1 (show (Tryz.prog.info? 9).map (fun i => (i.zero, i.size, i.bytes)) = some (some (.string ⟨#[]⟩), 1, 16) by kernel_rfl)
  simp only [Prod.mk.injEq] at he
  obtain ⟨e1, e2, e3⟩ := he
  have HP := Aside0.mk (run_append_nil (P := Tryz.prog) (w := w) 52 52 9 i (.string ⟨#[]⟩) Tryz.underlying52 hi e1 ⟨B, 0, none⟩ 4 4 [.string ⟨#[34]⟩, .string ⟨#[92, 34]⟩, .string ⟨#[92]⟩, .string ⟨#[92, 92]⟩] (by rw [e2]; rfl) (fun j v hj => by
    rw [addr_row]
    match j, hj with
    | 0, hj => obtain rfl := Option.some.inj hj; exact ho.1
    | 1, hj => obtain rfl := Option.some.inj hj; exact ho.2.1
    | 2, hj => obtain rfl := Option.some.inj hj; exact ho.2.2.1
    | 3, hj => obtain rfl := Option.some.inj hj; exact ho.2.2.2
    | (j + 4), hj => cases hj) (by decide) (by decide) (by rw [e3]; decide))
  clear hi e1 e2 e3 ho
  go_enter Tryz.func39, Tryz.ntmps39
  go_wp2_with ((with_reducible refine gate_dst (N := 9) rfl ?_); (refine rp_append_event _ _ 52 HP.out rfl rfl rfl rfl ?_))
  go_ret
  refine ⟨w.heap.size + 1, w.heap.size, grownCap w 4 0 9, rfl, by omega, by omega, ?_, ?_, ?_⟩
  · have hrow := blk_drew (blk_alloc (heap_alloc_last w (.cells (#[Value.string ⟨#[34]⟩, Value.string ⟨#[92, 34]⟩, Value.string ⟨#[92]⟩, Value.string ⟨#[92, 92]⟩] ++ Builtin.zeroCells #[Value.string ⟨#[]⟩] (grownCap w 4 0 9 - 4)) 9)) (.cells #[.int .u32 0, .int .i32 0, .int .u32 0, .nilIface, .slice (some ⟨w.heap.size, 0, none⟩) 4 (grownCap w 4 0 9)] 68))
    have at_ : ∀ j v, (#[Value.string ⟨#[34]⟩, Value.string ⟨#[92, 34]⟩, Value.string ⟨#[92]⟩, Value.string ⟨#[92, 92]⟩] : Array Value)[j]? = some v → (#[Value.string ⟨#[34]⟩, Value.string ⟨#[92, 34]⟩, Value.string ⟨#[92]⟩, Value.string ⟨#[92, 92]⟩] ++ Builtin.zeroCells #[Value.string ⟨#[]⟩] (grownCap w 4 0 9 - 4))[j]? = some v := fun j v h => by
      rw [Array.getElem?_append_left (Array.getElem?_eq_some_iff.1 h).1]
      exact h
    exact ⟨(blk_cell hrow 0).trans (at_ 0 _ rfl), (blk_cell hrow 1).trans (at_ 1 _ rfl), (blk_cell hrow 2).trans (at_ 2 _ rfl), (blk_cell hrow 3).trans (at_ 3 _ rfl)⟩
  · have h := heap_alloc_last (w.alloc (.cells (#[Value.string ⟨#[34]⟩, Value.string ⟨#[92, 34]⟩, Value.string ⟨#[92]⟩, Value.string ⟨#[92, 92]⟩] ++ Builtin.zeroCells #[Value.string ⟨#[]⟩] (grownCap w 4 0 9 - 4)) 9)) (.cells #[.int .u32 0, .int .i32 0, .int .u32 0, .nilIface, .slice (some ⟨w.heap.size, 0, none⟩) 4 (grownCap w 4 0 9)] 68)
    rw [World.size_alloc] at h
    exact blk_drew h
  · exact (below_alloc (below_alloc (Below.refl _ _) _) _).drew
set_option maxRecDepth 100000 in
set_option maxHeartbeats 8000000 in
theorem rp_Replace (g B C : Nat) (x2 x3 : Value) (s : ByteArray) (w : World) (hs : s.size ≤ 100000000) (hg : w.heap[g]? = some (.cells #[.int .u32 0, .int .i32 0, x2, x3, .slice (some ⟨B, 0, none⟩) 4 C] 68 (0, 0))) (ho : RpOld B w) (hBg : B ≠ g) :
    Calls Tryz.prog 40 #[.pointer (some ⟨g, 0, none⟩), .string s] w fun e w' => e = .returned (.string ⟨(escL s.data.toList).toArray⟩) ∧ Stp w w' g := by
  have HD := Aside0.mk (rp_do g B C x2 x3 w hg ho hBg)
  have hmf : ∀ (fn : Fn) (first cap : Array Value) (w : World), (Instr.makeFunc fn first cap).run Tryz.prog w = .ok (.func fn first cap) w := fun _ _ _ _ => rfl
  have hmn : ∀ (n : Nat) (a : Addr) (W : World), (method (n + 2) 93 (.pointer (some a)) "Replace").run Tryz.prog W = .ok (130, .pointer (some a)) W := fun n a W => by kernel_rfl
  go_enter Tryz.func40, Tryz.ntmps40
  go_wp2_with (first | (go_at_call 52; refine HD.out.mono ?_; rintro e w1 ⟨rfl, T, R, hT, hG, hS⟩; have c3 := blk_cell hG 3; have HT := Aside0.mk hT; have HS := Aside0.mk hS; clear hT hG hS) | (go_at_call 130; refine (rp_replace w.heap.size T R s w1 hs HT.out).mono ?_; rintro e w2 ⟨rfl, hb⟩; have HB := Aside0.mk hb; clear hb))
  go_ret
  refine ⟨rfl, ⟨HB.out.os.trans HS.out.os, HB.out.tape.trans HS.out.tape, HB.out.output.trans HS.out.output, Nat.le_trans HS.out.size HB.out.size, fun k hk hkg => (HB.out.block k (Nat.lt_of_lt_of_le hk HS.out.size)).trans (HS.out.block k hk hkg)⟩⟩

def impl_quoted.f (a0 : ByteArray) : Option ByteArray := if a0.size ≤ 100000000 then some (((⟨#[34]⟩ : ByteArray) ++ (⟨(escL a0.data.toList).toArray⟩ : ByteArray)) ++ (⟨#[34]⟩ : ByteArray)) else none
set_option maxRecDepth 100000 in
set_option maxHeartbeats 8000000 in
theorem impl_quoted.calls (a0 : ByteArray) (r : ByteArray) (w : World) (h : impl_quoted.f a0 = some r) :
    Calls Tryz.prog 23 #[.string a0] w fun e w' => e = .returned (.string r) ∧ Below w.heap.size w w' := by
  unfold impl_quoted.f at h
  by_cases hs : a0.size ≤ 100000000
  · rw [if_pos hs] at h
    obtain rfl := Option.some.inj h
    clear h
    have hl := escL_length a0.data.toList
    have hc : a0.data.toList.countP escB ≤ a0.size := Nat.le_trans List.countP_le_length (Nat.le_of_eq (Array.length_toList (xs := a0.data)))
    have hl2 : a0.data.toList.length = a0.size := Array.length_toList (xs := a0.data)
    have hz : (⟨(escL a0.data.toList).toArray⟩ : ByteArray).size ≤ 200000000 := by
      show (escL a0.data.toList).toArray.size ≤ 200000000
      rw [List.size_toArray]
      omega
    have HO := Aside0.mk (rp_make w.heap.size (w.alloc (.cells #[.string ⟨#[34]⟩, .string ⟨#[92, 34]⟩, .string ⟨#[92]⟩, .string ⟨#[92, 92]⟩] 9)) ⟨blk_cell (heap_alloc_last _ _) 0, blk_cell (heap_alloc_last _ _) 1, blk_cell (heap_alloc_last _ _) 2, blk_cell (heap_alloc_last _ _) 3⟩)
    have HR := Aside0.mk (fun g B C x2 x3 W a b c => rp_Replace g B C x2 x3 a0 W hs a b c)
    clear hl hc hl2
    generalize (⟨(escL a0.data.toList).toArray⟩ : ByteArray) = q at hz HR ⊢
    have s1 : ¬ 9223372036854775807 < 1 + q.size := by omega
    have s2 : ¬ 9223372036854775807 < ((⟨#[34]⟩ : ByteArray) ++ q).size + 1 := by
      rw [ByteArray.size_append, show (⟨#[34]⟩ : ByteArray).size = 1 from rfl]; omega
    have s1n : (9223372036854775807 < 1 + q.size) = False := eq_false s1
    have s2n : (9223372036854775807 < 1 + q.size + 1) = False := eq_false (by omega)
    go_enter Tryz.func23, Tryz.ntmps23
    go_wp2_with (first
      | (go_at_call 39; refine HO.out.mono ?_; rintro e w1 ⟨g, B2, C, rfl, hBg, hgl, ho, hG, hb⟩; have HG := Aside0.mk (And.intro hBg (And.intro hgl (And.intro ho (And.intro hG hb)))); clear hBg hgl ho hG hb)
      | (go_at_call 40; refine (HR.out g B2 C _ _ w1 HG.out.2.2.2.1 HG.out.2.2.1 HG.out.1).mono ?_; rintro e w2 ⟨rfl, hst⟩; have HS := Aside0.mk hst; clear hst))
    go_ret
    have hgl := HG.out.2.1
    rw [World.size_alloc] at hgl
    exact ⟨rfl, HS.out.below (g := g) ((below_alloc (Below.refl _ _) _).trans (HG.out.2.2.2.2.mono (by rw [World.size_alloc]; omega))) (by omega)⟩
  · rw [if_neg hs] at h
    cases h
end Go.Proofs.YtpgpjgdcfhodgaaGreatDoor.P
