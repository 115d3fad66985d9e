/-
  strconv.ParseInt at the bases 10 and 16 and at 64 bits, of a text of few digits: its number, and no error. Condition: at base 10 one to fifteen digits, at base 16 one to thirteen; elsewhere nothing is told.
-/
import Derived.Test.YtfbgpjhnjdhpcaaDoorProg
import Derived.Lib.ConvBytes
import Derived.Lib.AtoiErrMem
import Derived.Lib.Hide
import Derived.Lib.Walk
import Derived.Lib.Strings
import Derived.Laws.Strings3
import Derived.Laws.BytesArg
import Derived.Test.YtfbgpjhnjdhpcaaDoorP0
namespace Go.Proofs.YtfbgpjhnjdhpcaaDoor.P
set_option linter.unusedVariables false
set_option linter.unusedSimpArgs false
open Go.RowKit Go.Lib Go.Proofs.YtfbgpjhnjdhpcaaDoorW.PrintWords Go.Proofs.YtfbgpjhnjdhpcaaDoorW.PrintLast Go.Proofs.YtfbgpjhnjdhpcaaDoorW.PrintMore

/-- A digit's number, or -1. -/
def dgt (c : Int) : Int := if 48 ≤ c ∧ c ≤ 57 then c - 48 else if 97 ≤ c ∧ c ≤ 102 then c - 87 else if 65 ≤ c ∧ c ≤ 70 then c - 55 else -1
def numB (b : Int) (l : List Int) : Int := l.foldl (fun n c => n * b + dgt c) 0
def okB (b : Int) (l : List Int) : Bool := l.all fun c => decide (0 ≤ dgt c) && decide (dgt c < b)
theorem okB_at {b : Int} {l : List Int} (h : okB b l = true) (c : Int) (hc : c ∈ l) : 0 ≤ dgt c ∧ dgt c < b := by
  have := List.all_eq_true.1 h c hc
  simpa using this
theorem numB_snoc (b : Int) (l : List Int) (c : Int) : numB b (l ++ [c]) = numB b l * b + dgt c := by
  unfold numB
  rw [List.foldl_append]
  rfl
theorem numB_take {b : Int} {l : List Int} {k : Nat} (h : k < l.length) : numB b (l.take (k + 1)) = numB b (l.take k) * b + dgt (l.getD k 0) := by
  rw [List.take_add_one, List.getD_eq_getElem?_getD, List.getElem?_eq_getElem h]
  exact numB_snoc _ _ _
theorem lowerBits (c v : Int) (h : (97 ≤ c ∧ c ≤ 102 ∧ v = c) ∨ (65 ≤ c ∧ c ≤ 70 ∧ v = c + 32)) : Go.bits .or .u8 c 32 = v := by
  have hc : c = 97 ∨ c = 98 ∨ c = 99 ∨ c = 100 ∨ c = 101 ∨ c = 102 ∨ c = 65 ∨ c = 66 ∨ c = 67 ∨ c = 68 ∨ c = 69 ∨ c = 70 := by omega
  rcases hc with rfl | rfl | rfl | rfl | rfl | rfl | rfl | rfl | rfl | rfl | rfl | rfl
  all_goals
    first
    | (have : v = 97 := by omega
       subst this; decide +kernel)
    | (have : v = 98 := by omega
       subst this; decide +kernel)
    | (have : v = 99 := by omega
       subst this; decide +kernel)
    | (have : v = 100 := by omega
       subst this; decide +kernel)
    | (have : v = 101 := by omega
       subst this; decide +kernel)
    | (have : v = 102 := by omega
       subst this; decide +kernel)
theorem numB_bound (b : Int) (l : List Int) (hb : 0 ≤ b) (h : okB b l = true) (k : Nat) : 0 ≤ numB b (l.take k) ∧ numB b (l.take k) < b ^ (min k l.length) := by
  induction k with
  | zero => simp [numB]
  | succ k ih =>
    by_cases hk : k < l.length
    · rw [numB_take hk]
      have hm : l.getD k 0 ∈ l := by
        rw [List.getD_eq_getElem?_getD, List.getElem?_eq_getElem hk]
        exact List.getElem_mem hk
      obtain ⟨d0, d1⟩ := okB_at h _ hm
      obtain ⟨i0, i1⟩ := ih
      rw [Nat.min_eq_left (by omega)] at i1
      rw [Nat.min_eq_left (by omega), Int.pow_succ]
      have h1 : numB b (l.take k) * b + b ≤ b ^ k * b := by
        have : (numB b (l.take k) + 1) * b ≤ b ^ k * b := Int.mul_le_mul_of_nonneg_right (by omega) hb
        rw [Int.add_mul, Int.one_mul] at this
        exact this
      have h2 : 0 ≤ numB b (l.take k) * b := Int.mul_nonneg i0 hb
      omega
    · rw [List.take_of_length_le (by omega), Nat.min_eq_right (by omega)]
      rw [List.take_of_length_le (by omega), Nat.min_eq_right (by omega)] at ih
      exact ih
theorem pow_small {b : Int} (hb : b = 10 ∨ b = 16) {k m : Nat} (hm : (b = 10 ∧ m ≤ 15) ∨ (b = 16 ∧ m ≤ 13)) (hk : k ≤ m) : b ^ k ≤ 4503599627370496 := by
  rcases hm with ⟨rfl, h⟩ | ⟨rfl, h⟩
  · have : k = 0 ∨ k = 1 ∨ k = 2 ∨ k = 3 ∨ k = 4 ∨ k = 5 ∨ k = 6 ∨ k = 7 ∨ k = 8 ∨ k = 9 ∨ k = 10 ∨ k = 11 ∨ k = 12 ∨ k = 13 ∨ k = 14 ∨ k = 15 := by omega
    rcases this with rfl | rfl | rfl | rfl | rfl | rfl | rfl | rfl | rfl | rfl | rfl | rfl | rfl | rfl | rfl | rfl <;> decide +kernel
  · have : k = 0 ∨ k = 1 ∨ k = 2 ∨ k = 3 ∨ k = 4 ∨ k = 5 ∨ k = 6 ∨ k = 7 ∨ k = 8 ∨ k = 9 ∨ k = 10 ∨ k = 11 ∨ k = 12 ∨ k = 13 := by omega
    rcases this with rfl | rfl | rfl | rfl | rfl | rfl | rfl | rfl | rfl | rfl | rfl | rfl | rfl | rfl <;> decide +kernel

set_option maxHeartbeats 8000000 in
set_option maxRecDepth 100000 in
theorem ParseUint16 (t : ByteArray) (hne : t.size ≠ 0) (h13 : t.size ≤ 13) (hok : okB 16 (bytesOf t) = true) (w : World) :
    Calls Tryd.prog 92 #[.string t, .int .i64 16, .int .i64 64] w fun e w' => e = .returned (.tuple #[.int .u64 (numB 16 (bytesOf t)), .nilIface]) ∧ w' = Lib.bytesWorld w 5 t := by
  have hemp : t.toList.isEmpty = false := by
    rw [← decide_eq_emptyBytes]
    exact decide_eq_false (fun h => hne (by rw [h]; rfl))
  have hcv := Lib.run_convert_string_bytes (P := Tryd.prog) w 9 22 5 t Tryd.underlying9 Tryd.underlying22 Tryd.underlying5
  have hB : ∀ j, j < t.size → (Lib.bytesWorld w 5 t).cell? ⟨w.heap.size, j, none⟩ = some (.int .u8 (bt t j)) := fun j hj => by
    rw [Lib.bytesWorld_cell w 5 t j hj]
    have : bt t j = ((t.data.toList.getD j 0).toNat : Int) := by
      rw [← rd_bytesOf]
      have h' : j < t.data.toList.length := by rw [data_length]; exact hj
      simp [rd, bytesOf, List.getD_eq_getElem?_getD, List.getElem?_eq_getElem h']
    rw [← this]
  obtain ⟨W1, hW1⟩ : ∃ W1, W1 = Lib.bytesWorld w 5 t := ⟨_, rfl⟩
  rw [← hW1] at hcv hB ⊢
  clear hW1
  have hlen : (bytesOf t).length = t.size := bytesOf_length t
  have hget : ∀ k, (bytesOf t).getD k 0 = bt t k := fun k => by rw [← rd_bytesOf]; simp [rd]
  have HA : Hid (∀ k, k < t.size → (0 ≤ dgt (bt t k) ∧ dgt (bt t k) < 16) ∧ (0 ≤ numB 16 ((bytesOf t).take k) ∧ numB 16 ((bytesOf t).take k) < 4503599627370496) ∧ numB 16 ((bytesOf t).take (k + 1)) = numB 16 ((bytesOf t).take k) * 16 + dgt (bt t k)) := Lib.hid fun k hk => by
    have hm : (bytesOf t).getD k 0 ∈ bytesOf t := by
      rw [List.getD_eq_getElem?_getD, List.getElem?_eq_getElem (by omega)]
      exact List.getElem_mem (by omega)
    have h1 := okB_at hok _ hm
    rw [hget] at h1
    have h2 := numB_bound 16 (bytesOf t) (by decide) hok k
    have h3 := pow_small (b := 16) (.inr rfl) (m := 13) (.inr ⟨rfl, Nat.le_refl _⟩) (k := min k (bytesOf t).length) (by omega)
    have h4 := numB_take (b := 16) (l := bytesOf t) (k := k) (by omega)
    rw [hget] at h4
    exact ⟨h1, ⟨h2.1, by omega⟩, h4⟩
  have HE : Hid (numB 16 ((bytesOf t).take t.size) = numB 16 (bytesOf t)) := Lib.hid (by rw [← hlen, List.take_length])
  have HZ : Hid (numB 16 ((bytesOf t).take 0) = 0) := Lib.hid rfl
  clear hok hget hlen
  have hmv : IntKind.u64.wrap (IntKind.u64.wrap 18446744073709551616 - 1) = 18446744073709551615 := by
    rw [IntKind.wrap_u64, IntKind.wrap_u64]
    decide
  go_enter Tryd.func92, Tryd.ntmps92
  go_wp2
  go_loop [12, 13, 101] (fun vu vn vi => ∃ (k : Nat) (a : Int), vu = .bool false ∧ vn = .int .u64 a ∧ vi = .int .i64 k ∧ k ≤ t.size ∧ Hid (a = numB 16 ((bytesOf t).take k)))
    (fun _ _ vi => t.size - (Go.RowKit.intOf vi).toNat)
  case atStart => exact ⟨0, 0, rfl, rfl, rfl, by omega, HZ⟩
  case round =>
    obtain ⟨k, a, rfl, rfl, rfl, hk, hh⟩ := hrel
    by_cases hkn : k < t.size
    · have hc := hB k hkn
      have hr := bt_range t k
      obtain ⟨⟨d0, d1⟩, ⟨b0, b1⟩, hnx⟩ := HA.out k hkn
      rw [← hh.out] at b0 b1 hnx
      obtain ⟨c, hcc⟩ : ∃ c, bt t k = c := ⟨_, rfl⟩
      rw [hcc] at hc hr d0 d1 hnx
      obtain ⟨r0, r1⟩ := hr
      clear hcc hB hh
      by_cases hdig : 48 ≤ c ∧ c ≤ 57
      · obtain ⟨g0, g1⟩ := hdig
        have hd : dgt c = c - 48 := by unfold dgt; rw [if_pos ⟨g0, g1⟩]
        rw [hd] at hnx
        clear d0 d1 hd
        have iov : a * 16 + (c - 48) < 18446744073709551616 := by omega
        have HN : Hid (a * 16 + (c - 48) = numB 16 ((bytesOf t).take (k + 1))) := Lib.hid hnx.symm
        clear hnx
        go_wp2
        refine ⟨⟨k + 1, a * 16 + (c - 48), rfl, (by first | rfl | (congr 1; omega)), (by first | rfl | (congr 1; omega)), by omega, HN⟩, by simp [Go.RowKit.intOf]; omega⟩
      · have hv : ∃ v, Go.bits .or .u8 c 32 = v ∧ 97 ≤ v ∧ v ≤ 102 ∧ dgt c = v - 87 := by
          unfold dgt at d0 ⊢
          rw [if_neg hdig] at d0 ⊢
          by_cases h1 : 97 ≤ c ∧ c ≤ 102
          · rw [if_pos h1]
            exact ⟨c, lowerBits c c (.inl ⟨h1.1, h1.2, rfl⟩), h1.1, h1.2, rfl⟩
          · rw [if_neg h1] at d0 ⊢
            by_cases h2 : 65 ≤ c ∧ c ≤ 70
            · rw [if_pos h2]
              exact ⟨c + 32, lowerBits c _ (.inr ⟨h2.1, h2.2, rfl⟩), by omega, by omega, by omega⟩
            · rw [if_neg h2] at d0
              omega
        obtain ⟨v, hv0, v0, v1, hd⟩ := hv
        have hnd : ¬ (48 ≤ c ∧ c ≤ 57) := hdig
        have hc57 : (c < 48) ∨ (57 < c) := by omega
        have hcl : (65 ≤ c ∧ c ≤ 70) ∨ (97 ≤ c ∧ c ≤ 102) := by
          unfold dgt at d0
          rw [if_neg hdig] at d0
          by_cases h1 : 97 ≤ c ∧ c ≤ 102
          · exact .inr h1
          · rw [if_neg h1] at d0
            by_cases h2 : 65 ≤ c ∧ c ≤ 70
            · exact .inl h2
            · rw [if_neg h2] at d0; omega
        have c95 : ¬ c = 95 := by omega
        have c48 : 57 < c := by omega
        have c47 : 48 ≤ c := by omega
        have c58 : ¬ c ≤ 57 := by omega
        have v122 : v ≤ 122 := by omega
        rw [hd] at hnx
        clear d0 d1 hd hdig hnd hc57 hcl
        have iov : a * 16 + (v - 87) < 18446744073709551616 := by omega
        have HN : Hid (a * 16 + (v - 97 + 10) = numB 16 ((bytesOf t).take (k + 1))) := Lib.hid (by rw [hnx]; omega)
        clear hnx
        go_wp2
        refine ⟨⟨k + 1, a * 16 + (v - 97 + 10), rfl, (by first | rfl | (congr 1; omega)), (by first | rfl | (congr 1; omega)), by omega, HN⟩, by simp [Go.RowKit.intOf]; omega⟩
    · have hkk : k = t.size := by omega
      subst hkk
      have hE := HE.out
      have hE2 := hh.out.trans hE
      clear hE hh HA HE HZ hB hcv
      subst hE2
      go_wp2
      go_ret2
      exact ⟨rfl, rfl⟩
set_option maxHeartbeats 8000000 in
set_option maxRecDepth 100000 in
theorem ParseUint10 (t : ByteArray) (hne : t.size ≠ 0) (h13 : t.size ≤ 15) (hok : okB 10 (bytesOf t) = true) (w : World) :
    Calls Tryd.prog 92 #[.string t, .int .i64 10, .int .i64 64] w fun e w' => e = .returned (.tuple #[.int .u64 (numB 10 (bytesOf t)), .nilIface]) ∧ w' = Lib.bytesWorld w 5 t := by
  have hemp : t.toList.isEmpty = false := by
    rw [← decide_eq_emptyBytes]
    exact decide_eq_false (fun h => hne (by rw [h]; rfl))
  have hcv := Lib.run_convert_string_bytes (P := Tryd.prog) w 9 22 5 t Tryd.underlying9 Tryd.underlying22 Tryd.underlying5
  have hB : ∀ j, j < t.size → (Lib.bytesWorld w 5 t).cell? ⟨w.heap.size, j, none⟩ = some (.int .u8 (bt t j)) := fun j hj => by
    rw [Lib.bytesWorld_cell w 5 t j hj]
    have : bt t j = ((t.data.toList.getD j 0).toNat : Int) := by
      rw [← rd_bytesOf]
      have h' : j < t.data.toList.length := by rw [data_length]; exact hj
      simp [rd, bytesOf, List.getD_eq_getElem?_getD, List.getElem?_eq_getElem h']
    rw [← this]
  obtain ⟨W1, hW1⟩ : ∃ W1, W1 = Lib.bytesWorld w 5 t := ⟨_, rfl⟩
  rw [← hW1] at hcv hB ⊢
  clear hW1
  have hlen : (bytesOf t).length = t.size := bytesOf_length t
  have hget : ∀ k, (bytesOf t).getD k 0 = bt t k := fun k => by rw [← rd_bytesOf]; simp [rd]
  have HA : Hid (∀ k, k < t.size → (0 ≤ dgt (bt t k) ∧ dgt (bt t k) < 10) ∧ (0 ≤ numB 10 ((bytesOf t).take k) ∧ numB 10 ((bytesOf t).take k) < 4503599627370496) ∧ numB 10 ((bytesOf t).take (k + 1)) = numB 10 ((bytesOf t).take k) * 10 + dgt (bt t k)) := Lib.hid fun k hk => by
    have hm : (bytesOf t).getD k 0 ∈ bytesOf t := by
      rw [List.getD_eq_getElem?_getD, List.getElem?_eq_getElem (by omega)]
      exact List.getElem_mem (by omega)
    have h1 := okB_at hok _ hm
    rw [hget] at h1
    have h2 := numB_bound 10 (bytesOf t) (by decide) hok k
    have h3 := pow_small (b := 10) (.inl rfl) (m := 15) (.inl ⟨rfl, Nat.le_refl _⟩) (k := min k (bytesOf t).length) (by omega)
    have h4 := numB_take (b := 10) (l := bytesOf t) (k := k) (by omega)
    rw [hget] at h4
    exact ⟨h1, ⟨h2.1, by omega⟩, h4⟩
  have HE : Hid (numB 10 ((bytesOf t).take t.size) = numB 10 (bytesOf t)) := Lib.hid (by rw [← hlen, List.take_length])
  have HZ : Hid (numB 10 ((bytesOf t).take 0) = 0) := Lib.hid rfl
  clear hok hget hlen
  have hmv : IntKind.u64.wrap (IntKind.u64.wrap 18446744073709551616 - 1) = 18446744073709551615 := by
    rw [IntKind.wrap_u64, IntKind.wrap_u64]
    decide
  go_enter Tryd.func92, Tryd.ntmps92
  go_wp2
  go_loop [12, 13, 101] (fun vu vn vi => ∃ (k : Nat) (a : Int), vu = .bool false ∧ vn = .int .u64 a ∧ vi = .int .i64 k ∧ k ≤ t.size ∧ Hid (a = numB 10 ((bytesOf t).take k)))
    (fun _ _ vi => t.size - (Go.RowKit.intOf vi).toNat)
  case atStart => exact ⟨0, 0, rfl, rfl, rfl, by omega, HZ⟩
  case round =>
    obtain ⟨k, a, rfl, rfl, rfl, hk, hh⟩ := hrel
    by_cases hkn : k < t.size
    · have hc := hB k hkn
      have hr := bt_range t k
      obtain ⟨⟨d0, d1⟩, ⟨b0, b1⟩, hnx⟩ := HA.out k hkn
      rw [← hh.out] at b0 b1 hnx
      obtain ⟨c, hcc⟩ : ∃ c, bt t k = c := ⟨_, rfl⟩
      rw [hcc] at hc hr d0 d1 hnx
      obtain ⟨r0, r1⟩ := hr
      clear hcc hB hh
      have hg : 48 ≤ c ∧ c ≤ 57 := by
        unfold dgt at d0 d1
        by_cases h0 : 48 ≤ c ∧ c ≤ 57
        · exact h0
        · rw [if_neg h0] at d0 d1
          by_cases h1 : 97 ≤ c ∧ c ≤ 102
          · rw [if_pos h1] at d1; omega
          · rw [if_neg h1] at d0 d1
            by_cases h2 : 65 ≤ c ∧ c ≤ 70
            · rw [if_pos h2] at d1; omega
            · rw [if_neg h2] at d0; omega
      obtain ⟨g0, g1⟩ := hg
      have hd : dgt c = c - 48 := by unfold dgt; rw [if_pos ⟨g0, g1⟩]
      rw [hd] at hnx
      clear d0 d1 hd
      have iov : a * 10 + (c - 48) < 18446744073709551616 := by omega
      have HN : Hid (a * 10 + (c - 48) = numB 10 ((bytesOf t).take (k + 1))) := Lib.hid hnx.symm
      clear hnx
      go_wp2
      refine ⟨⟨k + 1, a * 10 + (c - 48), rfl, (by first | rfl | (congr 1; omega)), (by first | rfl | (congr 1; omega)), by omega, HN⟩, by simp [Go.RowKit.intOf]; omega⟩
    · have hkk : k = t.size := by omega
      subst hkk
      have hE := HE.out
      have hE2 := hh.out.trans hE
      clear hE hh HA HE HZ hB hcv
      subst hE2
      go_wp2
      go_ret2
      exact ⟨rfl, rfl⟩

set_option maxHeartbeats 8000000 in
set_option maxRecDepth 100000 in
theorem ParseIntIn16 (t : ByteArray) (hne : t.size ≠ 0) (h13 : t.size ≤ 13) (hok : okB 16 (bytesOf t) = true) (w : World) :
    Calls Tryd.prog 81 #[.string t, .int .i64 16, .int .i64 64] w fun e w' => e = .returned (.tuple #[.int .i64 (numB 16 (bytesOf t)), .nilIface]) ∧ w' = Lib.bytesWorld w 5 t := by
  have hU := ParseUint16 t hne h13 hok w
  have hemp : t.toList.isEmpty = false := by
    rw [← decide_eq_emptyBytes]
    exact decide_eq_false (fun h => hne (by rw [h]; rfl))
  have hlen : (bytesOf t).length = t.size := bytesOf_length t
  have hb := numB_bound 16 (bytesOf t) (by decide) hok t.size
  have hp := pow_small (b := 16) (.inr rfl) (m := 13) (.inr ⟨rfl, Nat.le_refl _⟩) (k := t.size) h13
  rw [← hlen, List.take_length, hlen, Nat.min_self] at hb
  have hpos : 0 < t.size := by omega
  have hm : (bytesOf t).getD 0 0 ∈ bytesOf t := by
    rw [List.getD_eq_getElem?_getD, List.getElem?_eq_getElem (by omega)]
    exact List.getElem_mem (by omega)
  have h1 := okB_at hok _ hm
  obtain ⟨c0, hs0, hc0⟩ : ∃ c0 : UInt8, t[0]'hpos = c0 ∧ (bytesOf t).getD 0 0 = (c0.toNat : Int) := by
    refine ⟨_, rfl, ?_⟩
    have h' : 0 < t.data.toList.length := by rw [data_length]; exact hpos
    simp only [bytesOf, List.getD_eq_getElem?_getD, List.getElem?_map, List.getElem?_eq_getElem h', Option.map_some, Option.getD_some]
    rfl
  rw [hc0] at h1
  have i43 : ¬ (c0.toNat : Int) = 43 := by
    intro h
    rw [h] at h1
    exact absurd h1.1 (by decide)
  have i45 : ¬ (c0.toNat : Int) = 45 := by
    intro h
    rw [h] at h1
    exact absurd h1.1 (by decide)
  obtain ⟨a, ha⟩ : ∃ a : Int, numB 16 (bytesOf t) = a := ⟨_, rfl⟩
  rw [ha] at hU hb ⊢
  obtain ⟨a0, a1⟩ := hb
  have iin : a < 9223372036854775808 := by omega
  have a2 : a ≤ 18446744073709551615 := by omega
  clear ha h1 hm hp a1 hc0 hok hlen
  go_enter Tryd.func81, Tryd.ntmps81
  go_wp2_with (go_at_call 92; refine hU.mono ?_; rintro e w1 ⟨rfl, rfl⟩)
  go_wp2
  go_ret2
  exact ⟨rfl, rfl⟩
set_option maxHeartbeats 8000000 in
set_option maxRecDepth 100000 in
theorem ParseInt16 (t : ByteArray) (hne : t.size ≠ 0) (h13 : t.size ≤ 13) (hok : okB 16 (bytesOf t) = true) (w : World) :
    Calls Tryd.prog 67 #[.string t, .int .i64 16, .int .i64 64] w fun e w' => e = .returned (.tuple #[.int .i64 (numB 16 (bytesOf t)), .nilIface]) ∧ w' = Lib.bytesWorld w 5 t := by
  have hI := ParseIntIn16 t hne h13 hok w
  clear hok
  go_enter Tryd.func67, Tryd.ntmps67
  go_wp2_with (go_at_call 81; refine hI.mono ?_; rintro e w1 ⟨rfl, rfl⟩)
  go_wp2
  go_ret2
  exact ⟨rfl, rfl⟩

set_option maxHeartbeats 8000000 in
set_option maxRecDepth 100000 in
theorem ParseIntIn10 (t : ByteArray) (hne : t.size ≠ 0) (h13 : t.size ≤ 15) (hok : okB 10 (bytesOf t) = true) (w : World) :
    Calls Tryd.prog 81 #[.string t, .int .i64 10, .int .i64 64] w fun e w' => e = .returned (.tuple #[.int .i64 (numB 10 (bytesOf t)), .nilIface]) ∧ w' = Lib.bytesWorld w 5 t := by
  have hU := ParseUint10 t hne h13 hok w
  have hemp : t.toList.isEmpty = false := by
    rw [← decide_eq_emptyBytes]
    exact decide_eq_false (fun h => hne (by rw [h]; rfl))
  have hlen : (bytesOf t).length = t.size := bytesOf_length t
  have hb := numB_bound 10 (bytesOf t) (by decide) hok t.size
  have hp := pow_small (b := 10) (.inl rfl) (m := 15) (.inl ⟨rfl, Nat.le_refl _⟩) (k := t.size) h13
  rw [← hlen, List.take_length, hlen, Nat.min_self] at hb
  have hpos : 0 < t.size := by omega
  have hm : (bytesOf t).getD 0 0 ∈ bytesOf t := by
    rw [List.getD_eq_getElem?_getD, List.getElem?_eq_getElem (by omega)]
    exact List.getElem_mem (by omega)
  have h1 := okB_at hok _ hm
  obtain ⟨c0, hs0, hc0⟩ : ∃ c0 : UInt8, t[0]'hpos = c0 ∧ (bytesOf t).getD 0 0 = (c0.toNat : Int) := by
    refine ⟨_, rfl, ?_⟩
    have h' : 0 < t.data.toList.length := by rw [data_length]; exact hpos
    simp only [bytesOf, List.getD_eq_getElem?_getD, List.getElem?_map, List.getElem?_eq_getElem h', Option.map_some, Option.getD_some]
    rfl
  rw [hc0] at h1
  have i43 : ¬ (c0.toNat : Int) = 43 := by
    intro h
    rw [h] at h1
    exact absurd h1.1 (by decide)
  have i45 : ¬ (c0.toNat : Int) = 45 := by
    intro h
    rw [h] at h1
    exact absurd h1.1 (by decide)
  obtain ⟨a, ha⟩ : ∃ a : Int, numB 10 (bytesOf t) = a := ⟨_, rfl⟩
  rw [ha] at hU hb ⊢
  obtain ⟨a0, a1⟩ := hb
  have iin : a < 9223372036854775808 := by omega
  have a2 : a ≤ 18446744073709551615 := by omega
  clear ha h1 hm hp a1 hc0 hok hlen
  go_enter Tryd.func81, Tryd.ntmps81
  go_wp2_with (go_at_call 92; refine hU.mono ?_; rintro e w1 ⟨rfl, rfl⟩)
  go_wp2
  go_ret2
  exact ⟨rfl, rfl⟩
set_option maxHeartbeats 8000000 in
set_option maxRecDepth 100000 in
theorem ParseInt10 (t : ByteArray) (hne : t.size ≠ 0) (h13 : t.size ≤ 15) (hok : okB 10 (bytesOf t) = true) (w : World) :
    Calls Tryd.prog 67 #[.string t, .int .i64 10, .int .i64 64] w fun e w' => e = .returned (.tuple #[.int .i64 (numB 10 (bytesOf t)), .nilIface]) ∧ w' = Lib.bytesWorld w 5 t := by
  have hI := ParseIntIn10 t hne h13 hok w
  clear hok
  go_enter Tryd.func67, Tryd.ntmps67
  go_wp2_with (go_at_call 81; refine hI.mono ?_; rintro e w1 ⟨rfl, rfl⟩)
  go_wp2
  go_ret2
  exact ⟨rfl, rfl⟩

/-- What is told of strconv.ParseInt: the number of few digits at base 10 or 16. -/
def strconv_ParseInt.f (a0 : ByteArray) (a1 a2 : Int) : Option (Int × Option Int) :=
  if a2 = 64 ∧ a0.size ≠ 0 ∧ okB a1 (bytesOf a0) = true ∧ ((a1 = 16 ∧ a0.size ≤ 13) ∨ (a1 = 10 ∧ a0.size ≤ 15)) then some (numB a1 (bytesOf a0), none) else none
theorem strconv_ParseInt.calls (a0 : ByteArray) (a1 a2 : Int) (r1 : Int) (r2 : Option Int) (w : World) (h : strconv_ParseInt.f a0 a1 a2 = some (r1, r2)) :
    Calls Tryd.prog 67 #[.string a0, .int .i64 a1, .int .i64 a2] w fun e w' => e = .returned (.tuple #[.int .i64 r1, errW r2]) ∧ Below w.heap.size w w' := by
  unfold strconv_ParseInt.f at h
  split at h
  · rename_i hc
    obtain ⟨rfl, hne, hok, hb⟩ := hc
    have e := Option.some.inj h
    rw [Prod.mk.injEq] at e
    obtain ⟨rfl, rfl⟩ := e
    rcases hb with ⟨rfl, hs⟩ | ⟨rfl, hs⟩
    · refine (ParseInt16 a0 hne hs hok w).mono ?_
      rintro e w' ⟨rfl, rfl⟩
      exact ⟨rfl, Lib.bytesWorld_below _ _ _⟩
    · refine (ParseInt10 a0 hne hs hok w).mono ?_
      rintro e w' ⟨rfl, rfl⟩
      exact ⟨rfl, Lib.bytesWorld_below _ _ _⟩
  · cases h
end Go.Proofs.YtfbgpjhnjdhpcaaDoor.P
