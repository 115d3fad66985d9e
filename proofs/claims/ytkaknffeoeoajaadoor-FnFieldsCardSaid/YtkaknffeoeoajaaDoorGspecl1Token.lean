/-
  spec.l1Token: is a byte a letter, a digit or one of a table's? No condition.
-/
import Derived.Test.YtkaknffeoeoajaaDoorProg
import Derived.Lib.SlBytesConst
import Derived.Lib.Hide
import Derived.Test.YtkaknffeoeoajaaDoorP0
namespace Go.Proofs.YtkaknffeoeoajaaDoor.P
set_option linter.unusedVariables false
set_option linter.unusedSimpArgs false
open Go.RowKit Go.Lib Go.Proofs.YtkaknffeoeoajaaDoorW.PrintWords Go.Proofs.YtkaknffeoeoajaaDoorW.PrintLast Go.Proofs.YtkaknffeoeoajaaDoorW.PrintMore

def tokTab : List Int := [33, 35, 36, 37, 38, 39, 42, 43, 45, 46, 94, 95, 124, 126, 96]
theorem tokTab_cell (w : World) (k : Nat) (h : k < 15) : (w.alloc (.cells #[.int .u8 33, .int .u8 35, .int .u8 36, .int .u8 37, .int .u8 38, .int .u8 39, .int .u8 42, .int .u8 43, .int .u8 45, .int .u8 46, .int .u8 94, .int .u8 95, .int .u8 124, .int .u8 126, .int .u8 96] 5 (15, 16))).cell? ⟨w.heap.size, k, none⟩ = some (.int .u8 (tokTab.getD k 0)) := by
  rw [World.cell?_alloc_mark]
  have hl : k < tokTab.length := h
  have e : (#[.int .u8 33, .int .u8 35, .int .u8 36, .int .u8 37, .int .u8 38, .int .u8 39, .int .u8 42, .int .u8 43, .int .u8 45, .int .u8 46, .int .u8 94, .int .u8 95, .int .u8 124, .int .u8 126, .int .u8 96] : Array Value) = (tokTab.map (Value.int .u8)).toArray := rfl
  rw [e, List.getElem?_toArray, List.getElem?_map, List.getD_eq_getElem?_getD, List.getElem?_eq_getElem hl]
  rfl

set_option maxHeartbeats 2000000 in
theorem spec_l1Token_loop (c : Int) (w : World) (hc : c < 48 ∨ (57 < c ∧ c < 65) ∨ (90 < c ∧ c < 97) ∨ 122 < c) :
    Calls Tryd.prog 85 #[.int .u8 c] w fun e w' => e = .returned (.bool (tokTab.any fun x => x == c)) ∧ Below w.heap.size w w' := by
  have kc := fun (w : World) (C : Array Value) (n c : Nat) => Lib.run_convert_bytes_const (P := Tryd.prog) w 22 5 C n c Tryd.underlying22 Tryd.underlying5
  rcases hc with h | ⟨h, h'⟩ | ⟨h, h'⟩ | h
  all_goals
    go_enter Tryd.func85, Tryd.ntmps85
    go_wp2
    go_loop [31] (fun i => ∃ k : Nat, k ≤ 15 ∧ i = .int .i64 k ∧ Aside ((tokTab.take k).any (fun x => x == c) = false)) (fun i => 15 - (intOf i).toNat)
    case atStart => exact ⟨0, Nat.zero_le _, rfl, rfl⟩
    case round =>
      obtain ⟨k, hk, rfl, A⟩ := hrel
      by_cases hlt : k < 15
      · have hcell := tokTab_cell w k hlt
        have hltz : (k : Int) < 15 := by omega
        have hnext : tokTab.take (k + 1) = tokTab.take k ++ [tokTab.getD k 0] := by
          have h1 : k < tokTab.length := hlt
          rw [List.take_succ_eq_append_getElem h1, List.getD_eq_getElem?_getD, List.getElem?_eq_getElem h1]; rfl
        have N := Lib.hid hnext
        clear hnext
        obtain ⟨x, hx⟩ : ∃ x, tokTab.getD k 0 = x := ⟨_, rfl⟩
        rw [hx] at hcell
        have X := Lib.hid hx
        clear hx
        by_cases e : x = c
        · have eb : (x == c) = true := by simpa using e
          clear e
          go_wp2
          go_ret
          refine ⟨?_, by first | exact (Below.refl _ w).alloc (Nat.le_refl _) _ | (repeat (first | exact Below.refl _ _ | apply below_alloc))⟩
          have : tokTab.any (fun x => x == c) = true := by
            rw [← List.take_append_drop (k + 1) tokTab, List.any_append, N.out, List.any_append, X.out]
            simp [eb]
          rw [this]; rfl
        · have eb : (x == c) = false := by simpa using e
          clear e
          go_wp2
          go_round
          case rel => exact ⟨k + 1, by omega, by go_num, show Aside _ from (show ((tokTab.take (k + 1)).any fun x => x == c) = false by
            rw [N.out, List.any_append, A.out, X.out]
            simp [eb])⟩
          case measure => simp [intOf]; omega
      · have hltz : ¬ (k : Int) < 15 := by omega
        go_wp2
        go_ret
        refine ⟨?_, by first | exact (Below.refl _ w).alloc (Nat.le_refl _) _ | (repeat (first | exact Below.refl _ _ | apply below_alloc))⟩
        have : tokTab.any (fun x => x == c) = false := by
          have h2 := A.out
          rw [List.take_of_length_le (by show 15 ≤ k; omega)] at h2
          exact h2
        rw [this]; rfl

set_option maxHeartbeats 1000000 in
theorem spec_l1Token_sure (c : Int) (w : World) (hc : (48 ≤ c ∧ c ≤ 57) ∨ (65 ≤ c ∧ c ≤ 90) ∨ (97 ≤ c ∧ c ≤ 122)) :
    Calls Tryd.prog 85 #[.int .u8 c] w fun e w' => e = .returned (.bool true) ∧ Below w.heap.size w w' := by
  rcases hc with ⟨h, h'⟩ | ⟨h, h'⟩ | ⟨h, h'⟩
  all_goals
    go_enter Tryd.func85, Tryd.ntmps85
    go_wp2
    go_ret
    exact ⟨rfl, Below.refl _ _⟩

def spec_l1Token.f (a0 : Int) : Option Bool :=
  some (decide (48 ≤ a0 ∧ a0 ≤ 57) || decide (65 ≤ a0 ∧ a0 ≤ 90) || decide (97 ≤ a0 ∧ a0 ≤ 122) || tokTab.any fun x => x == a0)
theorem spec_l1Token.calls (a0 : Int) (r : Bool) (w : World) (h : spec_l1Token.f a0 = some r) :
    Calls Tryd.prog 85 #[.int .u8 a0] w fun e w' => e = .returned (.bool r) ∧ Below w.heap.size w w' := by
  obtain rfl := Option.some.inj h
  by_cases hc : (48 ≤ a0 ∧ a0 ≤ 57) ∨ (65 ≤ a0 ∧ a0 ≤ 90) ∨ (97 ≤ a0 ∧ a0 ≤ 122)
  · have : (decide (48 ≤ a0 ∧ a0 ≤ 57) || decide (65 ≤ a0 ∧ a0 ≤ 90) || decide (97 ≤ a0 ∧ a0 ≤ 122) || tokTab.any fun x => x == a0) = true := by
      rcases hc with h | h | h <;> simp [h]
    rw [this]
    exact spec_l1Token_sure a0 w hc
  · have : (decide (48 ≤ a0 ∧ a0 ≤ 57) || decide (65 ≤ a0 ∧ a0 ≤ 90) || decide (97 ≤ a0 ∧ a0 ≤ 122) || tokTab.any fun x => x == a0) = (tokTab.any fun x => x == a0) := by
      rw [decide_eq_false (fun h => hc (.inl h)), decide_eq_false (fun h => hc (.inr (.inl h))), decide_eq_false (fun h => hc (.inr (.inr h)))]
      rfl
    rw [this]
    exact spec_l1Token_loop a0 w (by omega)
end Go.Proofs.YtkaknffeoeoajaaDoor.P
