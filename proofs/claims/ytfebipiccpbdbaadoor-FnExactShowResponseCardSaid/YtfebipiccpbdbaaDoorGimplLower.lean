/-
  impl.Lower makes small letters of great ones, byte by byte. No condition but a text's greatest length.
-/
import Derived.Test.YtfebipiccpbdbaaDoorProg
import Derived.Lib.ConvBytes
import Derived.Lib.Hide
import Derived.Laws.BytesArg
import Derived.Test.YtfebipiccpbdbaaDoorP0
namespace Go.Proofs.YtfebipiccpbdbaaDoor.P
set_option linter.unusedVariables false
set_option linter.unusedSimpArgs false
open Go.RowKit Go.Lib Go.Proofs.YtfebipiccpbdbaaDoorW.PrintWords Go.Proofs.YtfebipiccpbdbaaDoorW.PrintLast Go.Proofs.YtfebipiccpbdbaaDoorW.PrintMore

/-- A great letter made small. -/
def low8 (c : Int) : Int := if 65 ≤ c then (if c ≤ 90 then c + 32 else c) else c
/-- The bytes behind k rounds. -/
def lowAt (s : ByteArray) (k j : Nat) : Int := if j < k then low8 (bt s j) else bt s j
theorem lowAt_next (s : ByteArray) (k j : Nat) (h : j ≠ k) : lowAt s (k + 1) j = lowAt s k j := by
  unfold lowAt
  by_cases h1 : j < k
  · rw [if_pos h1, if_pos (by omega)]
  · rw [if_neg h1, if_neg (by omega)]
theorem lowAt_here (s : ByteArray) (k : Nat) : lowAt s (k + 1) k = low8 (bt s k) := by unfold lowAt; rw [if_pos (by omega)]
theorem lowAt_now (s : ByteArray) (k : Nat) : lowAt s k k = bt s k := by unfold lowAt; rw [if_neg (by omega)]
def LowCells (w wr : World) (s : ByteArray) (k : Nat) : Prop :=
  (∀ j, j < s.size → wr.cell? ⟨w.heap.size, j, none⟩ = some (.int .u8 (lowAt s k j))) ∧ (∀ j, j < s.size → wr.frozen? ⟨w.heap.size, j, none⟩ = false) ∧ Below w.heap.size w wr
theorem LowCells.start (w : World) (s : ByteArray) : LowCells w (bytesWorld w 5 s) s 0 := by
  refine ⟨fun j hj => ?_, fun j hj => ?_, ?_⟩
  · rw [bytesWorld_cell w 5 s j hj]
    have : bt s j = ((s.data.toList.getD j 0).toNat : Int) := by
      rw [← rd_bytesOf]
      have h' : j < s.data.toList.length := by rw [data_length]; exact hj
      simp [rd, bytesOf, List.getD_eq_getElem?_getD, List.getElem?_eq_getElem h']
    rw [← this]
    rfl
  · have hz : s.size ≤ (bytesCells w 5 s).size := by simp only [bytesCells, Array.size_append, Array.size_map]; exact Nat.le_add_right _ _
    simp [World.frozen?, bytesWorld_at_new]
    omega
  · exact bytes_below (Below.refl _ w) (Nat.le_refl _) 5 s
theorem LowCells.skip {w wr : World} {s : ByteArray} {k : Nat} (h : LowCells w wr s k) (hk : k < s.size) (e : low8 (bt s k) = bt s k) : LowCells w wr s (k + 1) :=
  ⟨fun j hj => by
    by_cases h1 : j = k
    · subst h1
      rw [h.1 j hj, lowAt_here, lowAt_now, e]
    · rw [lowAt_next s k j h1, h.1 j hj], h.2.1, h.2.2⟩
theorem LowCells.put {w wr : World} {s : ByteArray} {k : Nat} (h : LowCells w wr s k) (hk : k < s.size) (c : Int) (e : low8 (bt s k) = c) : LowCells w (wr.setCell ⟨w.heap.size, k, none⟩ (.int .u8 c)) s (k + 1) :=
  ⟨fun j hj => by
    by_cases h1 : j = k
    · subst h1
      rw [World.cell?_setCell_same _ _ _ (h.1 j hj), lowAt_here, e]
    · rw [World.cell?_setCell_other _ _ _ _ (by intro e2; injection e2 with _ e3; exact h1 e3.symm), lowAt_next s k j h1, h.1 j hj],
   fun j hj => by rw [World.frozen?_setCell]; exact h.2.1 j hj, h.2.2.setCell (Nat.le_refl _) _⟩
theorem LowCells.done {w wr : World} {s : ByteArray} {k : Nat} (h : LowCells w wr s k) (hk : s.size ≤ k) (j : Nat) (hj : j < s.size) : wr.cell? ⟨w.heap.size, 0 + j, none⟩ = some (.int .u8 (((bytesOf s).map low8).getD j 0)) := by
  rw [Nat.zero_add, h.1 j hj]
  have h1 : j < (bytesOf s).length := by rw [bytesOf_length]; exact hj
  unfold lowAt
  rw [if_pos (by omega), ← rd_bytesOf]
  simp [rd, List.getD_eq_getElem?_getD, List.getElem?_eq_getElem h1]

set_option maxHeartbeats 1000000 in
theorem impl_Lower_any (s : ByteArray) (w : World) (hs : s.size ≤ 9223372036854775807) :
    Calls Tryd.prog 99 #[.string s] w fun e w' => e = .returned (.string (strOfNums ((bytesOf s).map low8))) ∧ Below w.heap.size w w' := by
  have kc := fun W : World => Lib.run_convert_string_bytes (P := Tryd.prog) W 9 38 5 s Tryd.underlying9 Tryd.underlying38 Tryd.underlying5
  have hmap : ((bytesOf s).map low8).length = s.size := by rw [List.length_map, bytesOf_length]
  have H0 := Lib.hid hmap
  clear hmap
  have S0 := Lib.hid (LowCells.start w s)
  go_enter Tryd.func99, Tryd.ntmps99
  go_wp2
  go_loopw [10] (fun i wr => ∃ k : Nat, k ≤ s.size ∧ i = .int .i64 k ∧ Aside (LowCells w wr s k)) (fun i _ => s.size - (intOf i).toNat)
  case atStart => exact ⟨0, Nat.zero_le _, rfl, S0.out⟩
  case round =>
    obtain ⟨k, hk, rfl, A⟩ := hrel
    by_cases hlt : k < s.size
    · have hcell := A.out.1 k hlt
      rw [lowAt_now] at hcell
      have hfro := A.out.2.1 k hlt
      have hr := bt_range s k
      obtain ⟨c, hc⟩ : ∃ c, bt s k = c := ⟨_, rfl⟩
      rw [hc] at hcell hr
      have HC := Lib.hid hc
      clear hc
      obtain ⟨hr0, hr1⟩ := hr
      have hltz : (k : Int) < (s.size : Int) := by omega
      by_cases h1 : (65 : Int) ≤ c
      · by_cases h2 : c ≤ 90
        · go_wp2
          go_roundw
          case rel => exact ⟨k + 1, by omega, by go_num, show Aside _ from A.out.put hlt _ (by rw [HC.out]; unfold low8; rw [if_pos h1, if_pos h2]; omega)⟩
          case measure => simp [intOf]; omega
        · go_wp2
          go_roundw
          case rel => exact ⟨k + 1, by omega, by go_num, show Aside _ from A.out.skip hlt (by rw [HC.out]; unfold low8; rw [if_pos h1, if_neg h2])⟩
          case measure => simp [intOf]; omega
      · go_wp2
        go_roundw
        case rel => exact ⟨k + 1, by omega, by go_num, show Aside _ from A.out.skip hlt (by rw [HC.out]; unfold low8; rw [if_neg h1])⟩
        case measure => simp [intOf]; omega
    · have hltz : ¬ (k : Int) < (s.size : Int) := by omega
      have kb := fun cap => run_convert_bytes_arg (P := Tryd.prog) wr 38 5 Tryd.underlying38 Tryd.underlying5 w.heap.size 0 s.size cap ((bytesOf s).map low8) H0.out (A.out.done (by omega)) 9 Tryd.underlying9
      go_wp2
      go_ret
      exact ⟨rfl, A.out.2.2⟩

def impl_Lower.f (a0 : ByteArray) : Option ByteArray := if a0.size ≤ 9223372036854775807 then some (strOfNums ((bytesOf a0).map low8)) else none
theorem impl_Lower.calls (a0 : ByteArray) (r : ByteArray) (w : World) (h : impl_Lower.f a0 = some r) :
    Calls Tryd.prog 99 #[.string a0] w fun e w' => e = .returned (.string r) ∧ Below w.heap.size w w' := by
  unfold impl_Lower.f at h
  split at h
  · obtain rfl := Option.some.inj h
    exact impl_Lower_any a0 w (by assumption)
  · cases h
end Go.Proofs.YtfebipiccpbdbaaDoor.P
