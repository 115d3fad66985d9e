/-
  internal/strconv.formatBits at base 16, of a number that is not below 0 and below 2^60: its hexadecimal digits. Condition: the table of trailing zeros holds what it is laid with.
-/
import Derived.Lib.Hide
import Derived.Laws.BytesArg
import Derived.Lib.LaidTab
import Derived.Lib.Builder
import Derived.Test.YtalbfkhkfhnmjaaDoorP0
import Derived.Test.YtalbfkhkfhnmjaaDoorXW
namespace Go.Proofs.YtalbfkhkfhnmjaaDoor.P
set_option linter.unusedVariables false
set_option linter.unusedSimpArgs false
open Go.RowKit Go.Lib Go.Proofs.YtalbfkhkfhnmjaaDoorW.PrintWords Go.Proofs.YtalbfkhkfhnmjaaDoorW.PrintLast Go.Proofs.YtalbfkhkfhnmjaaDoorW.PrintMore

set_option maxHeartbeats 2000000 in
theorem tz16 (w : World) (ht : Lib.TabIs Tryd.prog w "math/bits.deBruijn64tab" .u8 deBruijn64Tab) :
    Calls Tryd.prog 99 #[.int .u64 16] w fun e w' => e = .returned (.int .i64 4) ∧ w' = w := by
  have hc : w.cell? ⟨5, 15, none⟩ = some (.int .u8 4) := (ht.cell (g := 5) (by kernel_rfl) 15 (by decide)).trans rfl
  have h1 : IntKind.u64.wrap (-16) = 18446744073709551600 := by decide
  have h2 : Go.bits .and .u64 16 18446744073709551600 = 16 := by decide +kernel
  have h3 : IntKind.u64.wrap (16 * 285870213051353865) = 4573923408821661840 := by decide
  go_enter Tryd.func99, Tryd.ntmps99
  go_wp2
  go_ret
  exact ⟨rfl, rfl⟩
def digs36 : ByteArray := ⟨#[48, 49, 50, 51, 52, 53, 54, 55, 56, 57, 97, 98, 99, 100, 101, 102, 103, 104, 105, 106, 107, 108, 109, 110, 111, 112, 113, 114, 115, 116, 117, 118, 119, 120, 121, 122]⟩
/-- The cells of the row of digits behind k rounds. -/
def hxAt (n : Nat) (k j : Nat) : Int := if 65 - k ≤ j then bt digs36 ((n / 16 ^ (64 - j) % 16 : Nat) : Int) else 0
def HexCells (w wr : World) (n k : Nat) : Prop :=
  (∀ j, j < 65 → wr.cell? ⟨w.heap.size, j, none⟩ = some (.int .u8 (hxAt n k j))) ∧ (∀ j, j < 65 → wr.frozen? ⟨w.heap.size, j, none⟩ = false) ∧ Below w.heap.size w wr
theorem HexCells.start (w : World) (n : Nat) (t : TypeId) : HexCells w (w.alloc (.cells (Array.replicate 65 (.int .u8 0)) t)) n 0 := by
  refine ⟨fun j hj => ?_, fun j hj => ?_, below_alloc (Below.refl _ _) _⟩
  · rw [World.cell?_alloc_mark]
    unfold hxAt
    rw [if_neg (by omega)]
    simp [hj]
  · have hb : (w.alloc (.cells (Array.replicate 65 (.int .u8 0)) t)).heap[w.heap.size]? = some (.cells (Array.replicate 65 (.int .u8 0)) t (0, 0)) := blk_new w _
    exact Lib.frozen_of_heap hb j
theorem HexCells.put {w wr : World} {n k : Nat} (h : HexCells w wr n k) (hk : k < 65) (c : Int) (e : c = bt digs36 ((n / 16 ^ k % 16 : Nat) : Int)) : HexCells w (wr.setCell ⟨w.heap.size, 64 - k, none⟩ (.int .u8 c)) n (k + 1) :=
  ⟨fun j hj => by
    by_cases h1 : j = 64 - k
    · subst h1
      rw [World.cell?_setCell_same _ _ _ (h.1 _ hj)]
      unfold hxAt
      rw [if_pos (by omega), e, show 64 - (64 - k) = k by omega]
    · rw [World.cell?_setCell_other _ _ _ _ (by intro e2; injection e2 with _ e3; exact h1 e3.symm), h.1 j hj]
      unfold hxAt
      by_cases h2 : 65 - k ≤ j
      · rw [if_pos h2, if_pos (by omega)]
      · rw [if_neg h2, if_neg (by omega)],
   fun j hj => by rw [World.frozen?_setCell]; exact h.2.1 j hj, h.2.2.setCell (Nat.le_refl _) _⟩
/-- The hexadecimal digits of a number, the first ahead. -/
def hexL (n : Nat) : List Int := if h : n < 16 then [bt digs36 (n : Int)] else hexL (n / 16) ++ [bt digs36 ((n % 16 : Nat) : Int)]
termination_by n
decreasing_by omega
theorem hexL_row (n : Nat) : ∀ k, 16 ^ k ≤ n ∨ k = 0 → n < 16 ^ (k + 1) → hexL n = (List.range (k + 1)).map fun t => bt digs36 ((n / 16 ^ (k - t) % 16 : Nat) : Int) := by
  induction n using Nat.strongRecOn with
  | _ n ih =>
    intro k h1 h2
    by_cases h : n < 16
    · have hk : k = 0 := by
        rcases h1 with h1 | h1
        · rcases Nat.eq_zero_or_pos k with h0 | h0
          · exact h0
          · have : 16 ^ 1 ≤ 16 ^ k := Nat.pow_le_pow_right (by decide) h0
            omega
        · exact h1
      subst hk
      rw [hexL, dif_pos h]
      simp
      rw [show (n : Int) % 16 = (n : Int) by omega]
    · obtain ⟨m, rfl⟩ : ∃ m, k = m + 1 := ⟨k - 1, by
        rcases Nat.eq_zero_or_pos k with h0 | h0
        · subst h0; simp at h2; omega
        · omega⟩
      rw [hexL, dif_neg h, ih (n / 16) (by omega) m (by
        rcases h1 with h1 | h1
        · rw [Nat.pow_succ] at h1; exact .inl (by omega)
        · omega) (by rw [Nat.pow_succ] at h2; omega), List.range_succ (n := m + 1), List.map_append]
      congr 1
      · refine List.map_congr_left fun t ht => ?_
        have ht' : t < m + 1 := List.mem_range.1 ht
        rw [show m + 1 - t = (m - t) + 1 by omega, Nat.pow_succ, Nat.mul_comm, ← Nat.div_div_eq_div_mul]
      · simp
theorem HexCells.row {w wr : World} {n k : Nat} (h : HexCells w wr n (k + 1)) (hk : k < 65) (h1 : 16 ^ k ≤ n ∨ k = 0) (h2 : n < 16 ^ (k + 1)) (j : Nat) (hj : j < k + 1) :
    wr.cell? ⟨w.heap.size, 64 - k + j, none⟩ = some (.int .u8 ((hexL n).getD j 0)) := by
  rw [h.1 _ (by omega), hexL_row n k h1 h2]
  unfold hxAt
  rw [if_pos (by omega), List.getD_eq_getElem?_getD, List.getElem?_map, List.getElem?_range (by omega)]
  simp
  rw [show 64 - (64 - k + j) = k - j by omega]
theorem bt_elem (s : ByteArray) (m : Nat) (h : m < s.size) : ((s[m]'h).toNat : Int) = bt s (m : Int) := by
  unfold bt
  have h1 : m < s.data.toList.length := by rw [Array.length_toList]; exact h
  simp [List.getD_eq_getElem?_getD, h]
  first | rfl | (rw [Array.getElem?_eq_getElem h]; rfl) | skip
theorem u64_and15 (x : Int) (h0 : 0 ≤ x) (h1 : x < 18446744073709551616) : Go.bits .and .u64 x 15 = x % 16 :=
  bits_mask .u64 64 (by decide) (fun n a b => by rw [IntKind.wrap_u64]; omega) 4 (by decide) x h0 (by omega)
theorem i64_and : Go.bits .and .i64 16 15 = 0 := by decide +kernel

theorem slice65 (W : World) (B i : Nat) (h : i ≤ 64) : (Instr.sliceAt 116 (.pointer (some ⟨B, 0, none⟩)) (some (.int .i64 (i : Int))) none none).run Tryd.prog W = .ok (.slice (some ⟨B, i, none⟩) (65 - i) (65 - i)) W := by
  have hal : Tryd.prog.arrayLen 116 = 65 := by kernel_rfl
  have hel : Tryd.prog.elem 116 = 5 := by kernel_rfl
  rw [run_sliceAt_array_l (P := Tryd.prog) W 116 ⟨B, 0, none⟩ (by kernel_rfl) .i64 (i : Int) (by omega) (by rw [hal]; omega), hal, hel]
  have hs : (sizeOf 5).run Tryd.prog W = .ok 1 W := by kernel_rfl
  rw [hs]
  simp only [Result.andThen, Int.toNat_natCast, slicedAt, Nat.mul_one]
  rw [if_neg (by omega)]
  simp [Addr.add]
  exact fun e => e.symm
set_option maxHeartbeats 8000000 in
set_option maxRecDepth 100000 in
theorem formatBits16 (n : Nat) (hn : n < 1152921504606846976) (w : World) (ht : Lib.TabIs Tryd.prog w "math/bits.deBruijn64tab" .u8 deBruijn64Tab) :
    Calls Tryd.prog 89 #[.slice none 0 0, .int .u64 n, .int .i64 16, .bool false, .bool false] w fun e w' => e = .returned (.tuple #[.slice none 0 0, .string (strOfNums (hexL n))]) ∧ Below w.heap.size w w' := by
  have htz : ∀ W, Below w.heap.size w W → Calls Tryd.prog 99 #[.int .u64 16] W fun e w' => e = .returned (.int .i64 4) ∧ w' = W := fun W hW => tz16 W (Go.Joins.tab_stays (g := 5) (by kernel_rfl) ht hW (Nat.le_refl _))
  have hand := i64_and
  have HT := Lib.hid htz
  clear htz ht
  have S0 := Lib.hid (HexCells.start w n 116)
  go_enter Tryd.func89, Tryd.ntmps89
  go_wp2_with (first | (go_at_call 99; refine (HT.out _ (below_alloc (Below.refl _ _) _)).mono ?_; rintro e w1 ⟨rfl, rfl⟩) | go_in)
  go_loopw [1, 13] (fun vu vi wr => ∃ (i k u : Nat), k ≤ 15 ∧ i + k = 64 ∧ vu = .int .u64 u ∧ vi = .int .i64 ((i : Int) + 1) ∧ Hid (u = n / 16 ^ k) ∧ Hid (16 ^ k ≤ n ∨ k = 0) ∧ Aside (HexCells w wr n k)) (fun vu _ _ => (intOf vu).toNat)
  case atStart => exact ⟨64, 0, n, by omega, by omega, rfl, rfl, Lib.hid (by simp), Lib.hid (.inr rfl), S0.out⟩
  case round =>
    obtain ⟨i, k, u, hk, hik, rfl, rfl, HU, HK, A⟩ := hrel
    have hu0 : (0 : Int) ≤ (u : Int) := by omega
    have hub : u < 1152921504606846976 := by rw [HU.out]; exact Nat.lt_of_le_of_lt (Nat.div_le_self _ _) hn
    have hi65 : (i : Int) < 65 := by omega
    have hcell := A.out.1 i (by omega)
    have hfro := A.out.2.1 i (by omega)
    by_cases hlt : 16 ≤ u
    · have hltz : (u : Int) ≥ 16 := by omega
      have hand2 := u64_and15 (u : Int) hu0 (by omega)
      have hr0 : 0 ≤ (u : Int) % 16 := by omega
      have hr1 : (u : Int) % 16 < 36 := by omega
      have hk14 : k < 15 := by
        rcases Nat.lt_or_ge k 15 with h | h
        · exact h
        · exfalso
          have e := HU.out
          have h1 : 16 ^ 15 ≤ 16 ^ k := Nat.pow_le_pow_right (by decide) h
          have h2 : n / 16 ^ k ≤ n / 16 ^ 15 := Nat.div_le_div_left h1 (by decide)
          have h3 : n / 16 ^ 15 < 16 := by omega
          omega
      have hput := A.out.put (k := k) (by omega) (((digs36[u % 16]'(Nat.lt_of_lt_of_le (Nat.mod_lt u (by decide)) (by decide : 16 ≤ digs36.size))).toNat : Nat) : Int) (by rw [bt_elem, ← HU.out])
      rw [show 64 - k = i by omega] at hput
      have HP := Lib.hid hput
      clear hput
      go_wp2
      go_roundw
      case rel => exact ⟨i - 1, k + 1, u / 16, by omega, by omega, by go_num, by go_num, Lib.hid (by rw [HU.out, Nat.pow_succ, Nat.div_div_eq_div_mul]), Lib.hid (.inl (by
        have e := HU.out
        rw [Nat.pow_succ]
        have h1 : 16 ≤ n / 16 ^ k := by rw [← e]; exact hlt
        have h2 := (Nat.le_div_iff_mul_le (Nat.pow_pos (by decide))).1 h1
        rw [Nat.mul_comm]
        exact h2)), HP.out⟩
      case measure => simp [intOf]; omega
    · have hltz : ¬ (u : Int) ≥ 16 := by omega
      have hu36 : (u : Int) < 36 := by omega
      have hk2 : n < 16 ^ (k + 1) := by
        have e := HU.out
        rw [Nat.pow_succ]
        have h1 : n / 16 ^ k < 16 := by rw [← e]; omega
        have h2 := (Nat.div_lt_iff_lt_mul (Nat.pow_pos (by decide))).1 h1
        rw [Nat.mul_comm]
        exact h2
      have hput := A.out.put (k := k) (by omega) (((digs36[u]'(Nat.lt_of_lt_of_le (by omega : u < 16) (by decide : 16 ≤ digs36.size))).toNat : Nat) : Int) (by rw [bt_elem, ← HU.out, show u % 16 = u by omega])
      rw [show 64 - k = i by omega] at hput
      have hrow := fun j hj => hput.row (by omega) HK.out hk2 j hj
      rw [show 64 - k = i by omega] at hrow
      have hlen : (hexL n).length = 65 - i := by rw [hexL_row n k HK.out hk2, List.length_map, List.length_range]; omega
      have kb := fun cap => run_convert_bytes_arg (P := Tryd.prog) _ 27 5 Tryd.underlying27 Tryd.underlying5 w.heap.size i (65 - i) cap (hexL n) hlen (fun j hj => hrow j (by omega)) 9 Tryd.underlying9
      have HB := Lib.hid hput.2.2
      unfold digs36 at kb
      have hsl := fun W => slice65 W w.heap.size i (by omega)
      clear hrow hput hlen hk2 HT S0
      go_wp2
      go_ret2
      exact ⟨rfl, HB.out⟩
end Go.Proofs.YtalbfkhkfhnmjaaDoor.P
