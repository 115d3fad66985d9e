/-
  Rows of bytes that a call may read, write and cut although a stamp stands behind their end ([]byte(s)). Condition: as each theorem states.
-/
import Derived.Lib.ConvBytes
import Derived.Lib.BufferMore
import Derived.Test.YtpgpjgdcfhodgaaGreatDoorP0
import Derived.Test.YtpgpjgdcfhodgaaGreatDoorPspecl1New
namespace Go.Proofs.YtpgpjgdcfhodgaaGreatDoor.P
set_option linter.unusedVariables false
set_option linter.unusedSimpArgs false
open Go.RowKit Go.Lib Go.Proofs.YtpgpjgdcfhodgaaGreatDoorW.PrintWords Go.Proofs.YtpgpjgdcfhodgaaGreatDoorW.PrintLast Go.Proofs.YtpgpjgdcfhodgaaGreatDoorW.PrintMore
attribute [local go_sem] max2_int min2_int max_two min_two max_three min_three max_four min_four

/-- A row of bytes that the call may read, write and cut: one that it made, or a conversion's, which is stamped behind its end. -/
def BRow (b0 : Nat) (W : World) (v : Value) (xs : List Int) : Prop :=
  xs.length ≤ 140737488355328 ∧ ∃ A cap, v = .slice A xs.length cap ∧ xs.length ≤ cap ∧
    (0 < xs.length → ∃ B cur fz, A = some ⟨B, 0, none⟩ ∧ b0 ≤ B ∧ W.heap[B]? = some (.cells cur 5 fz) ∧ (fz = (0, 0) ∨ cur.size ≤ fz.1) ∧ ∀ (i : Nat) (x : Int), xs[i]? = some x → cur[i]? = some (.int .u8 x))
section
variable {b0 : Nat} {W W' : World} {v : Value} {xs : List Int}
theorem BRow.le (h : BRow b0 W v xs) : xs.length ≤ 140737488355328 := h.1
theorem BRow.slice (h : BRow b0 W v xs) : ∃ A c, v = .slice A xs.length c ∧ xs.length ≤ c := by
  obtain ⟨_, A, c, e, hc, _⟩ := h
  exact ⟨A, c, e, hc⟩
theorem BRow.move (h : BRow b0 W v xs) (hm : ∀ k cur fz, v.ownBlock = some k → b0 ≤ k → W.heap[k]? = some (.cells cur 5 fz) → W'.heap[k]? = W.heap[k]?) : BRow b0 W' v xs := by
  obtain ⟨hl, A, cap, rfl, hc, hr⟩ := h
  refine ⟨hl, A, cap, rfl, hc, fun hn => ?_⟩
  obtain ⟨B, cur, fz, rfl, hB, hh, hf, hx⟩ := hr hn
  exact ⟨B, cur, fz, rfl, hB, (hm B cur fz (by simp [Value.ownBlock]) hB hh).trans hh, hf, hx⟩
theorem BRow.below (h : BRow b0 W v xs) (hb : Below W.heap.size W W') : BRow b0 W' v xs := h.move fun k cur fz _ _ hh => hb.block k (blk_lt hh)
theorem BRow.grown {row : Option Nat} (h : BRow b0 W v xs) (hg : W.grownBy W' row) (hne : ∀ k, v.ownBlock = some k → some k ≠ row) : BRow b0 W' v xs := h.move fun k cur fz hk _ hh => hg.block k (blk_lt hh) (hne k hk)
theorem BRow.keep {w0 : World} {g : Nat} {f0 : List Int} {f1 f2 : Int} (h : BRow b0 W v xs) (hI : IsS42 w0 W g f0 f1 f2) (hk : KeepBut W W' g none) : BRow b0 W' v xs :=
  h.move fun k cur fz _ _ hh => hk.2 k (blk_lt hh) (fun e => IsS42.ne_blk hI hh (by decide) e.symm) (by simp)
theorem BRow.of_R {ok : Nat → Prop} (h : (Kd.int .u8).R 5 W b0 ok v xs) (hl : xs.length ≤ 140737488355328) : BRow b0 W v xs := by
  have ho := Kd.own_of_R h
  rcases ho.2 with ⟨rfl, hn⟩ | ⟨B, cap, cur, rfl, hB, hh, hc, _, hs, ht⟩
  · refine ⟨hl, none, 0, by rw [hn], by omega, fun h0 => absurd hn (by omega)⟩
  · refine ⟨hl, _, cap, rfl, hc, fun _ => ⟨B, cur, (0, 0), rfl, hB, hh, .inl rfl, fun i x hx => ?_⟩⟩
    have hi := (List.getElem?_eq_some_iff.1 hx).1
    have h1 : (encs (Value.int .u8) xs)[i]? = some (.int .u8 x) := by simp [encs, hx]
    rw [← ht, List.getElem?_take_of_lt (by omega), Array.getElem?_toList] at h1
    exact h1
theorem BRow.cell {A : Option Addr} {n c : Nat} (h : BRow b0 W (.slice A n c) xs) (i : Int) (h0 : 0 ≤ i) (hi : i < n) :
    ∃ B, A = some ⟨B, 0, none⟩ ∧ b0 ≤ B ∧ B < W.heap.size ∧ W.cell? ⟨B, i.toNat, none⟩ = some (.int .u8 (rdOf 0 xs i)) ∧ W.frozen? ⟨B, i.toNat, none⟩ = false ∧ ∃ cur fz, W.heap[B]? = some (.cells cur 5 fz) := by
  obtain ⟨hl, A2, cap, e, hc, hr⟩ := h
  injection e with e1 e2 e3
  subst e1 e2 e3
  obtain ⟨B, cur, fz, rfl, hB, hh, hf, hx⟩ := hr (by omega)
  have hlt : i.toNat < xs.length := by omega
  have hcu := hx i.toNat _ (List.getElem?_eq_getElem hlt)
  have hrd : rdOf 0 xs i = xs[i.toNat] := by simp [rdOf, List.getD_eq_getElem?_getD, hlt]
  have hsz : i.toNat < cur.size := (Array.getElem?_eq_some_iff.1 hcu).1
  refine ⟨B, rfl, hB, blk_lt hh, by rw [cell_of_row W B i.toNat cur _ fz hh, hrd]; exact hcu, ?_, cur, fz, hh⟩
  obtain ⟨lo, hi2⟩ := fz
  simp only [World.frozen?, hh, Bool.and_eq_false_iff, decide_eq_false_iff_not]
  rcases hf with hf | hf
  · right
    have : hi2 = 0 := by injection hf
    omega
  · left
    simp only at hf
    omega
theorem BRow.set {B n c : Nat} (h : BRow b0 W (.slice (some ⟨B, 0, none⟩) n c) xs) (i : Int) (x : Int) : BRow b0 (W.setCell ⟨B, i.toNat, none⟩ (.int .u8 x)) (.slice (some ⟨B, 0, none⟩) n c) (xs.set i.toNat x) := by
  obtain ⟨hl, A2, cap, e, hc, hr⟩ := h
  injection e with e1 e2 e3
  subst e1 e2 e3
  refine ⟨by rw [List.length_set]; exact hl, _, _, by rw [List.length_set], by rw [List.length_set]; exact hc, fun hn => ?_⟩
  rw [List.length_set] at hn
  obtain ⟨B2, cur, fz, e, hB, hh, hf, hx⟩ := hr hn
  have : B = B2 := by injection e with e; injection e
  subst this
  refine ⟨B, cur.setIfInBounds i.toNat (.int .u8 x), fz, rfl, hB, _root_.Go.Lib.heap_setCell_same hh _, by rw [Array.size_setIfInBounds]; exact hf, fun j y hy => ?_⟩
  rw [List.getElem?_set] at hy
  by_cases hj : i.toNat = j
  · rw [if_pos hj] at hy
    subst hj
    by_cases hlt : i.toNat < xs.length
    · rw [if_pos hlt] at hy
      obtain rfl := Option.some.inj hy
      have hcu := hx i.toNat _ (List.getElem?_eq_getElem hlt)
      have hsz : i.toNat < cur.size := (Array.getElem?_eq_some_iff.1 hcu).1
      rw [Array.getElem?_setIfInBounds_self_of_lt hsz]
    · rw [if_neg hlt] at hy
      cases hy
  · rw [if_neg hj] at hy
    rw [Array.getElem?_setIfInBounds_ne hj]
    exact hx j y hy
theorem BRow.take {A : Option Addr} {n c m : Nat} (h : BRow b0 W (.slice A n c) xs) (hm : m ≤ n) : BRow b0 W (.slice A m c) (xs.take m) := by
  obtain ⟨hl, A2, cap, e, hc, hr⟩ := h
  injection e with e1 e2 e3
  subst e1 e2 e3
  have hlt : (xs.take m).length = m := by rw [List.length_take]; omega
  refine ⟨by omega, _, _, by rw [hlt], by omega, fun hn => ?_⟩
  obtain ⟨B, cur, fz, rfl, hB, hh, hf, hx⟩ := hr (by omega)
  refine ⟨B, cur, fz, rfl, hB, hh, hf, fun i x hi => hx i x ?_⟩
  have hlt2 := (List.getElem?_eq_some_iff.1 hi).1
  rw [List.getElem?_take_of_lt (by omega)] at hi
  exact hi
theorem BRow.reads {A : Option Addr} {n c : Nat} (h : BRow b0 W (.slice A n c) xs) : n = xs.length ∧ n ≤ c ∧ Kd.C (Kd.int .u8) W A xs.length xs := by
  have h2 := h
  obtain ⟨hl, A2, cap, e, hc, hr⟩ := h2
  injection e with e1 e2 e3
  subst e1 e2 e3
  refine ⟨rfl, hc, Kd.C_of_reads (enc := Value.int .u8) (d := (0 : Int)) (h1 := fun _ => rfl) ⟨rfl, by omega, fun hn => ?_⟩⟩
  obtain ⟨B, cur, fz, rfl, hB, hh, hf, hx⟩ := hr hn
  refine ⟨_, rfl, fun j hj => ?_⟩
  have ha : (⟨B, 0, none⟩ : Addr).add j = ⟨B, j, none⟩ := by unfold Addr.add; split <;> simp_all
  rw [ha, cell_of_row W B j cur _ fz hh, hx j _ (List.getElem?_eq_getElem hj)]
  simp [List.getD_eq_getElem?_getD, hj]
end
theorem BRow.conv (b0 : Nat) (W : World) (s : ByteArray) (hb : b0 ≤ W.heap.size) (hs : s.size ≤ 140737488355328) : BRow b0 (Lib.bytesWorld W 5 s) (.slice (some ⟨W.heap.size, 0, none⟩) s.size (grownCap W s.size 0 5)) (bytesOf s) := by
  have hl := bytesOf_length s
  refine ⟨by omega, _, _, by rw [hl], by rw [hl]; exact grownCap_ge _ _ _ _, fun hn => ⟨W.heap.size, Lib.bytesCells W 5 s, _, rfl, hb, Lib.bytesWorld_at_new W _ s, .inr (Nat.le_refl _), fun i x hx => ?_⟩⟩
  have hi := (List.getElem?_eq_some_iff.1 hx).1
  have hi2 : i < s.size := by omega
  unfold bytesOf at hx
  unfold Lib.bytesCells
  rw [Array.getElem?_append_left (by simpa using hi2)]
  simp only [List.getElem?_map, Option.map_eq_some_iff] at hx
  obtain ⟨y, hy, rfl⟩ := hx
  simp only [Array.getElem?_toList] at hy
  simp [hy]
end Go.Proofs.YtpgpjgdcfhodgaaGreatDoor.P
