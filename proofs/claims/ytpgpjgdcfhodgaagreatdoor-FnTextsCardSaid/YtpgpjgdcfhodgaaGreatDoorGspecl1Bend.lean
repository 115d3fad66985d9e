/-
  spec.l1Bend: a text turned here and there. Condition: the text is not longer than a billion bytes.
-/
import Derived.Test.YtpgpjgdcfhodgaaGreatDoorGrowB
import Derived.Lib.Hide
import Derived.Deep.RegionLaw
import Derived.Test.YtpgpjgdcfhodgaaGreatDoorP0
import Derived.Test.YtpgpjgdcfhodgaaGreatDoorPspecl1Below
import Derived.Test.YtpgpjgdcfhodgaaGreatDoorPspecl1New
namespace Go.Proofs.YtpgpjgdcfhodgaaGreatDoor.P
set_option linter.unusedVariables false
set_option linter.unusedSimpArgs false
open Go.RowKit Go.Lib Go.Proofs.YtpgpjgdcfhodgaaGreatDoorW.PrintWords Go.Proofs.YtpgpjgdcfhodgaaGreatDoorW.PrintLast Go.Proofs.YtpgpjgdcfhodgaaGreatDoorW.PrintMore
attribute [local go_sem] max2_int min2_int max_two min_two max_three min_three max_four min_four

def bendL (s : ByteArray) (b : List Int) : Nat → List Int → Int → Int → Int → Option (ByteArray × Int × Int)
  | 0, _, _, _, _ => none
  | k + 1, x, n, i, h =>
    if n > 0 ∧ 0 < x.length then
      (spec_l1Below.f b i h (x.length : Int)).bind fun r1 => (spec_l1Below.f b r1.2.1 r1.2.2 4).bind fun r2 =>
        if 0 ≤ r1.1 ∧ r1.1 < (x.length : Int) ∧ x.length < 1000000000 then
          if r2.1 = 0 then (spec_l1Below.f b r2.2.1 r2.2.2 (s.size : Int)).bind fun r3 => if 0 ≤ r3.1 ∧ r3.1 < (s.size : Int) then bendL s b k (x.set r1.1.toNat (bt s r3.1)) (wrap64 (n - 1)) r3.2.1 r3.2.2 else none
          else if r2.1 = 1 then bendL s b k (x.take r1.1.toNat) (wrap64 (n - 1)) r2.2.1 r2.2.2
          else if r2.1 = 2 then bendL s b k (x.take r1.1.toNat ++ x.drop (r1.1 + 1).toNat) (wrap64 (n - 1)) r2.2.1 r2.2.2
          else if r2.1 = 3 then (spec_l1Below.f b r2.2.1 r2.2.2 (s.size : Int)).bind fun r3 => if 0 ≤ r3.1 ∧ r3.1 < (s.size : Int) then bendL s b k (x.take r1.1.toNat ++ [bt s r3.1] ++ x.drop r1.1.toNat) (wrap64 (n - 1)) r3.2.1 r3.2.2 else none
          else bendL s b k x (wrap64 (n - 1)) r2.2.1 r2.2.2
        else none
    else some (strOfNums x, i, h)
theorem bendL_mono (s : ByteArray) (b : List Int) : ∀ (k : Nat) (x : List Int) (n i h : Int), LeO (bendL s b k x n i h) (bendL s b (k + 1) x n i h) := by
  intro k
  induction k with
  | zero => intro x n i h; exact LeO.none _
  | succ k ih =>
    intro x n i h
    rw [bendL, bendL]
    refine LeO.ite (LeO.bind (LeO.refl _) fun r1 => LeO.bind (LeO.refl _) fun r2 => LeO.ite ?_ (LeO.none _)) (LeO.refl _)
    refine LeO.ite (LeO.bind (LeO.refl _) fun r3 => LeO.ite (ih _ _ _ _) (LeO.none _)) (LeO.ite (ih _ _ _ _) (LeO.ite (ih _ _ _ _) (LeO.ite (LeO.bind (LeO.refl _) fun r3 => LeO.ite (ih _ _ _ _) (LeO.none _)) (ih _ _ _ _))))
def spec_l1Bend.f (k : Nat) (s0_0 : List Int) (s0_1 : Int) (s0_2 : Int) (a1 : ByteArray) (a2 : ByteArray) : Option (ByteArray × Int × Int) :=
  if a1.size < 1000000000 then (spec_l1Below.f s0_0 s0_1 s0_2 3).bind fun r => bendL a2 s0_0 k (bytesOf a1) r.1 r.2.1 r.2.2 else none
theorem spec_l1Bend.mono : ∀ a0 a1 a2 a3 a4 k, LeO (spec_l1Bend.f k a0 a1 a2 a3 a4) (spec_l1Bend.f (k + 1) a0 a1 a2 a3 a4) := by
  intro a0 a1 a2 a3 a4 k
  unfold spec_l1Bend.f
  exact LeO.ite (LeO.bind (LeO.refl _) fun r => bendL_mono _ _ _ _ _ _ _) (LeO.none _)

/-- What stands at a round: the cursor, the world of the caller, the row. -/
def BendAt (w0 w : World) (g : Nat) (b : List Int) (i h : Int) (v : Value) (x : List Int) (W : World) : Prop :=
  IsS42 w0 W g b i h ∧ KeepBut w W g none ∧ Below w0.heap.size w0 W ∧ BRow w.heap.size W v x
section
variable {w0 w W W' : World} {g : Nat} {b x : List Int} {i h : Int} {v : Value}
theorem BendAt.below (q : BendAt w0 w g b i h v x W) (hb : Below W.heap.size W W') (hL : w0.heap.size ≤ w.heap.size) : BendAt w0 w g b i h v x W' :=
  ⟨IsS42.below q.1 hb, KeepBut.trans q.2.1 (KeepBut.of_below hb g none) (.inl rfl), below_weaken q.2.2.1 (Nat.le_trans hL q.2.1.1) hb, q.2.2.2.below hb⟩
theorem bend_below (q : BendAt w0 w g b i h v x W) (n t i2 h2 : Int) (A : spec_l1Below.f b i h n = some (t, i2, h2)) :
    Calls Tryz.prog 26 #[.pointer (some ⟨g, 0, none⟩), .int .i64 n] W fun e W' => e = .returned (.int .i64 t) ∧ BendAt w0 w g b i2 h2 v x W' ∧ KeepBut W W' g none :=
  (spec_l1Below.calls g b i h n t i2 h2 w0 W q.1 q.2.2.1 A).mono fun e W' ⟨he, hi, hb, hk⟩ => ⟨he, ⟨hi, KeepBut.trans q.2.1 hk (.inl rfl), hb, q.2.2.2.keep q.1 hk⟩, hk⟩
theorem BendAt.store {B n c : Nat} (q : BendAt w0 w g b i h (.slice (some ⟨B, 0, none⟩) n c) x W) (hL : w0.heap.size ≤ w.heap.size) (hB : w.heap.size ≤ B) (hcur : ∃ cur fz, W.heap[B]? = some (.cells cur 5 fz)) (j : Int) (y : Int) :
    BendAt w0 w g b i h (.slice (some ⟨B, 0, none⟩) n c) (x.set j.toNat y) (W.setCell ⟨B, j.toNat, none⟩ (.int .u8 y)) := by
  obtain ⟨cur, fz, hh⟩ := hcur
  refine ⟨IsS42.far q.1 (IsS42.ne_blk q.1 hh (by decide)) _, ⟨by simpa [World.setCell] using q.2.1.1, fun k hk hg hr => ?_⟩, below_set q.2.2.1 (Nat.le_trans hL hB), q.2.2.2.set j y⟩
  exact (Below.heap_setCell W ⟨B, j.toNat, none⟩ _ k (by show k ≠ B; omega)).trans (q.2.1.2 k hk hg hr)
theorem BendAt.cell {B n c : Nat} (q : BendAt w0 w g b i h (.slice (some ⟨B, 0, none⟩) n c) x W) (j : Int) (h0 : 0 ≤ j) (h1 : j < n) :
    w.heap.size ≤ B ∧ W.cell? ⟨B, j.toNat, none⟩ = some (.int .u8 (rdOf 0 x j)) ∧ W.frozen? ⟨B, j.toNat, none⟩ = false ∧ ∃ cur fz, W.heap[B]? = some (.cells cur 5 fz) := by
  obtain ⟨B2, e, hB, _, hc, hf, hcur⟩ := q.2.2.2.cell j h0 h1
  have : B = B2 := by injection e with e; injection e
  subst this
  exact ⟨hB, hc, hf, hcur⟩
theorem BendAt.take {A : Option Addr} {n c m : Nat} (q : BendAt w0 w g b i h (.slice A n c) x W) (hm : m ≤ n) : BendAt w0 w g b i h (.slice A m c) (x.take m) W := ⟨q.1, q.2.1, q.2.2.1, q.2.2.2.take hm⟩
theorem BendAt.alloc (q : BendAt w0 w g b i h v x W) (hL : w0.heap.size ≤ w.heap.size) (o : Obj) : BendAt w0 w g b i h v x (W.alloc o) := q.below (below_alloc (Below.refl _ _) o) hL
theorem BendAt.drew (q : BendAt w0 w g b i h v x W) (hL : w0.heap.size ≤ w.heap.size) : BendAt w0 w g b i h v x W.drew := q.below (below_drew (Below.refl _ _)) hL
theorem BendAt.grown {row : Option Nat} (q : BendAt w0 w g b i h v x W) (hL : w0.heap.size ≤ w.heap.size) (hg : W.grownBy W' row) (hne : ∀ k, row = some k → w.heap.size ≤ k ∧ k ≠ g ∧ v.ownBlock ≠ some k) (hb : Below w.heap.size W W') : BendAt w0 w g b i h v x W' :=
  ⟨IsS42.grown q.1 hg (fun e => (hne g e.symm).2.1 rfl), KeepBut.trans q.2.1 (KeepBut.of_grown hg g) (by
    cases hr : row with
    | none => exact .inl rfl
    | some k => exact .inr ⟨k, rfl, (hne k hr).1⟩), below_weaken q.2.2.1 hL hb, q.2.2.2.grown hg (fun k hk e => (hne k e.symm).2.2 hk)⟩
theorem BendAt.fresh {v1 : Value} {ys : List Int} {ok : Nat → Prop} (q : BendAt w0 w g b i h v x W) (hO : Kd.R (Kd.int .u8) 5 W w.heap.size ok v1 ys) (hl : ys.length ≤ 140737488355328) : BendAt w0 w g b i h v1 ys W := ⟨q.1, q.2.1, q.2.2.1, BRow.of_R hO hl⟩
theorem BendAt.lt {B n c : Nat} (q : BendAt w0 w g b i h (.slice (some ⟨B, 0, none⟩) n c) x W) (hn : 0 < n) : B < W.heap.size := by
  obtain ⟨B2, e, _, hlt, _⟩ := q.2.2.2.cell 0 (Int.le_refl 0) (by omega)
  have : B = B2 := by injection e with e; injection e
  omega
theorem BendAt.readC {A : Option Addr} {n c m : Nat} (q : BendAt w0 w g b i h (.slice A n c) x W) (hm : m ≤ n) : Kd.C (Kd.int .u8) W A m (x.take m) := by
  obtain ⟨e, _, hc⟩ := BRow.reads (q.take hm).2.2.2
  rw [← e] at hc
  exact hc
theorem BendAt.readD {A : Option Addr} {n c m : Nat} (q : BendAt w0 w g b i h (.slice A n c) x W) (hm : m ≤ n) : Kd.C (Kd.int .u8) W (if c = m then A else A.map (·.add (m * 1))) (n - m) (x.drop m) := by
  obtain ⟨e, e2, hc⟩ := BRow.reads q.2.2.2
  have := Kd.C_drop (c := c) (m := m) hc (by omega) (by omega)
  rw [List.length_drop, ← e] at this
  exact this
theorem BendAt.readB {B n c m : Nat} (q : BendAt w0 w g b i h (.slice (some ⟨B, 0, none⟩) n c) x W) (hm : m ≤ n) : Kd.C (Kd.int .u8) W (if c = m then some ⟨B, 0, none⟩ else some ⟨B, m, none⟩) (n - m) (x.drop m) := by
  have := q.readD hm
  have e : (⟨B, 0, none⟩ : Addr).add (m * 1) = ⟨B, m, none⟩ := by
    unfold Addr.add
    split <;> simp_all
  rw [Option.map_some, e] at this
  exact this
theorem lit_C (W : World) (y : Int) : Kd.C (Kd.int .u8) (W.alloc (.cells #[.int .u8 y] 5)) (some ⟨W.heap.size, 0, none⟩) 1 [y] :=
  Kd.C_of_reads (enc := Value.int .u8) (d := (0 : Int)) (h1 := fun _ => rfl) ⟨rfl, by decide, fun _ => ⟨_, rfl, fun j hj => by
    have : j = 0 := by omega
    subst this
    exact (blk_cell (blk_new W _) 0).trans rfl⟩⟩
/-- An empty row of the call's own. -/
theorem R_empty {base D : Nat} {ok : Nat → Prop} (hh : W.heap[D]? = some (.cells #[] 5 (0, 0))) (hb : base ≤ D) (ho : ok D) : Kd.R (Kd.int .u8) 5 W base ok (.slice (some ⟨D, 0, none⟩) 0 0) [] :=
  ⟨fun k hk => by
    have : D = k := by simpa [Value.ownBlock] using hk
    subst this
    exact ho, [], ⟨rfl, .inr ⟨D, 0, #[], rfl, hb, hh, Nat.le_refl _, Nat.zero_le _, rfl, rfl⟩⟩, Reps.none _ _⟩
end
section
variable {ops : Array Oper} {o : Oper} {a : Act} {Q : Exit → Act → World → Prop} {Kc : Act → World → Prop} {w0 w W : World} {g : Nat} {b x : List Int} {i h : Int} {bv : Value}
/-- Bytes put behind a row of the call's own, in a region that draws its order. -/
theorem bend_append {P : Program} (ht : P.underlying 22 = some (.slice 5)) (hi : (P.info? 5).map (fun i => (i.zero, i.size, i.bytes)) = some (some (.int .u8 0), 1, 1)) (hw : Region.wanted o (yielded ops a.tmps) = true) (s y : Operand)
    (ho : o.op = .call { callee := .builtin .append, args := #[s, y], argTypes := #[22, 22] }) (v : Value) (ys zs : List Int) (A : Option Addr) (m c : Nat) (ok : Nat → Prop) (hs : a.eval s = v) (hy : a.eval y = .slice A m c)
    (q : BendAt w0 w g b i h bv x W) (hL : w0.heap.size ≤ w.heap.size) (hO : Kd.R (Kd.int .u8) 5 W w.heap.size ok v ys) (hok : ∀ k, ok k → bv.ownBlock ≠ some k) (hfresh : ∀ k, W.heap.size ≤ k → ok k) (hR : Kd.C (Kd.int .u8) W A m zs) (hl : ys.length + m ≤ 140737488355328)
    (hK : ∀ v1 W1, Kd.R (Kd.int .u8) 5 W1 w.heap.size ok v1 (ys ++ zs) → BendAt w0 w g b i h bv x W1 → W.grownBy W1 v.ownBlock → Kc (a.put o.dst v1) W1) :
    if Region.wanted o (yielded ops a.tmps) = true then Oper.wp P o a W Kc Q else Kc (a.put o.dst undef) W := by
  refine Kd.R_append_rows_step (Kd.int .u8) (w0 := W) w.heap.size hw s y 22 5 (.int .u8 0) 1 ho ht hi rfl (by decide) (by omega) v ys zs A m c ok (fun _ => False) hs hy hO hR (fun _ _ h => h) (fun _ h => h.elim) hfresh (Below.refl _ _) q.2.1.1 (by omega) ?_
  intro v1 W1 hr hb hg _
  refine hK v1 W1 hr (q.grown hL hg (fun k hk => ⟨Kd.R_base hO k hk, fun e => IsS42.own_ne q.1 hO (by decide) (by rw [hk, e]), hok k (hO.1 k hk)⟩) hb) hg
end
set_option maxHeartbeats 8000000 in
set_option maxRecDepth 100000 in
theorem spec_l1Bend.calls (k : Nat) (g : Nat) (s0_0 : List Int) (s0_1 : Int) (s0_2 : Int) (a1 : ByteArray) (a2 : ByteArray) (r1 : ByteArray) (r2 : Int) (r3 : Int) (w0 w : World) (hI : IsS42 w0 w g s0_0 s0_1 s0_2) (hB : Below w0.heap.size w0 w) (h : spec_l1Bend.f k s0_0 s0_1 s0_2 a1 a2 = some (r1, r2, r3)) :
    Calls Tryz.prog 36 #[.pointer (some ⟨g, 0, none⟩), .string a1, .string a2] w fun e w' => e = .returned (.string r1) ∧ IsS42 w0 w' g s0_0 r2 r3 ∧ Below w0.heap.size w0 w' ∧ KeepBut w w' g none := by
  unfold spec_l1Bend.f at h
  by_cases hs : a1.size < 1000000000
  · rw [if_pos hs] at h
    obtain ⟨⟨n0, i0, h0⟩, hn0, h⟩ := Option.bind_eq_some_iff.mp h
    have HA := Aside0.mk (show bendL a2 s0_0 k (bytesOf a1) n0 i0 h0 = some (r1, r2, r3) from h)
    have A0 := Aside0.mk hn0
    have HL := Aside0.mk hB.size
    have hbw : Below w.heap.size w (Lib.bytesWorld w 5 a1) := ⟨by simp [Lib.bytesWorld, World.freeze]; rfl, by simp [Lib.bytesWorld, World.freeze], by simp [Lib.bytesWorld, World.freeze]; rfl, by rw [Lib.bytesWorld_size]; omega, fun j hj => Lib.bytesWorld_at_old w _ a1 j hj⟩
    have Q0 := Aside0.mk (show BendAt w0 w g s0_0 s0_1 s0_2 (.slice (some ⟨w.heap.size, 0, none⟩) a1.size (grownCap w a1.size 0 5)) (bytesOf a1) (Lib.bytesWorld w 5 a1) from
      ⟨IsS42.below hI hbw, KeepBut.of_below hbw g none, below_weaken hB hB.size hbw, BRow.conv w.heap.size w a1 (Nat.le_refl _) (by omega)⟩)
    have hcv1 := Lib.run_convert_string_bytes (P := Tryz.prog) w 9 22 5 a1 Tryz.underlying9 Tryz.underlying22 Tryz.underlying5
    clear h hn0 hI hB hs hbw
    go_enter Tryz.func36, Tryz.ntmps36
    go_wp2_with (go_at_call 26; with_reducible refine (bend_below Q0.out 3 n0 i0 h0 A0.out).mono ?_; rintro e w1 ⟨rfl, q1, _⟩; have Q1 := Aside0.mk q1; clear q1)
    clear hcv1
    generalize grownCap w a1.size 0 5 = c0 at *
    go_loopg [7, 8, 9] k (fun kq v7 v8 v9 W => ∃ (x : List Int) (n i h : Int), v8 = .int .i64 n ∧ Aside0 (bendL a2 s0_0 kq x n i h = some (r1, r2, r3)) ∧ Aside0 (kq ≤ k) ∧ Aside0 (BendAt w0 w g s0_0 i h v7 x W))
    case atStart => exact ⟨bytesOf a1, n0, i0, h0, rfl, HA, ⟨Nat.le_refl _⟩, Q1⟩
    case round =>
      clear HA A0 Q0 Q1
      obtain ⟨x, n, i, h, rfl, HA, HK, HQ⟩ := hrel
      cases gk with
      | zero => exact absurd HA.out (by simp [bendL])
      | succ k1 =>
        have H := HA.out
        clear HA
        rw [bendL] at H
        obtain ⟨A7, c7, rfl, hc7⟩ := BRow.slice HQ.out.2.2.2
        by_cases cn : n > 0 ∧ 0 < x.length
        · rw [if_pos cn] at H
          obtain ⟨cn1, cn2⟩ := cn
          obtain ⟨⟨t1, i1, h1⟩, e1, H⟩ := Option.bind_eq_some_iff.mp H
          obtain ⟨⟨t2, i2, h2⟩, e2, H⟩ := Option.bind_eq_some_iff.mp H
          dsimp only at H e1 e2
          by_cases ct : 0 ≤ t1 ∧ t1 < (x.length : Int) ∧ x.length < 1000000000
          · rw [if_pos ct] at H
            obtain ⟨ct1, ct2, ct3⟩ := ct
            have E1 := Aside0.mk e1
            have E2 := Aside0.mk e2
            have CT3 := Aside0.mk ct3
            have cn1b : decide (0 < n) = true := decide_eq_true cn1
            have cn2b : (0 < x.length) = True := eq_true cn2
            clear e1 e2 cn1 cn2 ct3
            by_cases z0 : t2 = 0
            · rw [if_pos z0] at H
              subst z0
              obtain ⟨⟨t3, i3, h3⟩, e3, H⟩ := Option.bind_eq_some_iff.mp H
              dsimp only at H e3
              by_cases cu : 0 ≤ t3 ∧ t3 < (a2.size : Int)
              · rw [if_pos cu] at H
                have E3 := Aside0.mk e3
                have HA := Aside0.mk H
                clear H e3
                obtain ⟨B, eB, hB, _⟩ := BRow.cell HQ.out.2.2.2 t1 ct1 ct2
                subst eB
                have HB := Aside0.mk hB
                clear hB
                have p3 := eq_true cu.1
                have q3 := eq_true cu.2
                have hx3 := bt_at a2 t3
                clear cu
                go_wp2_with (first
                  | (go_at_call 26; with_reducible refine (bend_below HQ.out (x.length : Int) t1 i1 h1 E1.out).mono ?_; rintro e w5 ⟨rfl, q_, _⟩; have Q1 := Aside0.mk q_; clear q_)
                  | (go_at_call 26; with_reducible refine (bend_below Q1.out 4 0 i2 h2 E2.out).mono ?_; rintro e w6 ⟨rfl, q_, _⟩; have Q2 := Aside0.mk q_; clear q_)
                  | (go_at_call 26; with_reducible refine (bend_below Q2.out (a2.size : Int) t3 i3 h3 E3.out).mono ?_; rintro e w7 ⟨rfl, q_, _⟩; have Q3 := Aside0.mk q_; clear q_; obtain ⟨_, hc7, hf7, _⟩ := BendAt.cell Q3.out t1 ct1 ct2))
                go_roundg k1
                case measure => omega
                case rel => exact ⟨x.set t1.toNat (bt a2 t3), wrap64 (n - 1), i3, h3, by first | rfl | simp, HA, ⟨by have := HK.out; omega⟩, ⟨BendAt.store Q3.out HL.out HB.out (BendAt.cell Q3.out t1 ct1 ct2).2.2.2 t1 (bt a2 t3)⟩⟩
              · rw [if_neg cu] at H
                cases H
            · rw [if_neg z0] at H
              by_cases z1 : t2 = 1
              · rw [if_pos z1] at H
                subst z1
                have HA := Aside0.mk H
                clear H
                have ct3 : t1 ≤ (c7 : Int) := by omega
                go_wp2_with (first
                  | (go_at_call 26; with_reducible refine (bend_below HQ.out (x.length : Int) t1 i1 h1 E1.out).mono ?_; rintro e w5 ⟨rfl, q_, _⟩; have Q1 := Aside0.mk q_; clear q_)
                  | (go_at_call 26; with_reducible refine (bend_below Q1.out 4 1 i2 h2 E2.out).mono ?_; rintro e w6 ⟨rfl, q_, _⟩; have Q2 := Aside0.mk q_; clear q_))
                go_roundg k1
                case measure => omega
                case rel => exact ⟨x.take t1.toNat, wrap64 (n - 1), i2, h2, by first | rfl | simp, HA, ⟨by have := HK.out; omega⟩, ⟨BendAt.take Q2.out (by omega)⟩⟩
              · rw [if_neg z1] at H
                by_cases z2 : t2 = 2
                · rw [if_pos z2] at H
                  subst z2
                  have HA := Aside0.mk H
                  clear H z0 z1
                  obtain ⟨B, eB, hB, _⟩ := BRow.cell HQ.out.2.2.2 t1 ct1 ct2
                  subst eB
                  have HBB := Aside0.mk hB
                  clear hB
                  have ct3 : t1 ≤ (c7 : Int) := by omega
                  have ct4 : t1 + 1 ≤ (x.length : Int) := by omega
                  have ct5 : 0 ≤ t1 + 1 := by omega
                  have hw1 : wrap64 (t1 + 1) = t1 + 1 := by unfold wrap64; have := CT3.out; omega
                  have hw2 : IntKind.i64.wrap (t1 + 1) = t1 + 1 := by have := CT3.out; exact IntWalk.i64_in _ ⟨by omega, by omega⟩
                  have ct6 : (x.length : Int) ≤ (c7 : Int) := by omega
                  go_upto_region 12 with (first
                    | (go_at_call 26; with_reducible refine (bend_below HQ.out (x.length : Int) t1 i1 h1 E1.out).mono ?_; rintro e w5 ⟨rfl, q_, _⟩; have Q1 := Aside0.mk q_; clear q_)
                    | (go_at_call 26; with_reducible refine (bend_below Q1.out 4 2 i2 h2 E2.out).mono ?_; rintro e w6 ⟨rfl, q_, _⟩; have Q2 := Aside0.mk q_; clear q_))
                  have QE := Aside0.mk (BendAt.drew (BendAt.alloc Q2.out HL.out (.cells #[] 5)) HL.out)
                  have hBlt := BendAt.lt Q2.out (by omega)
                  have hD6 : (w6.alloc (.cells #[] 5)).drew.heap[w6.heap.size]? = some (.cells #[] 5 (0, 0)) := blk_new w6 _
                  have hs6 : (w6.alloc (.cells #[] 5)).drew.heap.size = w6.heap.size + 1 := by show (w6.alloc (.cells #[] 5)).heap.size = _; simp
                  have HD6 := Aside0.mk hD6
                  have HS6 := Aside0.mk hs6
                  have HBL := Aside0.mk hBlt
                  have HW6 := Aside0.mk Q2.out.2.1.1
                  clear hD6 hs6 hBlt
                  go_region_law (first
                    | (refine bend_append Tryz.underlying22 info5 (by rfl) (.tmp 47) (.tmp 50) rfl (.slice (some ⟨w6.heap.size, 0, none⟩) 0 0) [] (x.take t1.toNat) (some ⟨B, 0, none⟩) t1.toNat c7 (fun k => k ≠ B) (by go_simp) (by go_simp) QE.out HL.out ?hO (fun k hk e => hk (by simpa [Value.ownBlock] using e.symm)) ?hF (BendAt.readC QE.out (by omega)) ?hl ?_; (case hO => exact R_empty HD6.out HW6.out (by have := HBL.out; omega)); (case hF => intro k hk; have h1 := HS6.out; have h2 := HBL.out; omega); (case hl => have := CT3.out; simp only [List.length_nil]; omega); intro v8 w8 hr8 q8 hg8; have HG8 := Aside0.mk hg8.size; have R8 := Aside0.mk hr8; have Q8 := Aside0.mk q8; clear hr8 q8 hg8)
                    | (refine bend_append Tryz.underlying22 info5 (by rfl) (.tmp 51) (.tmp 55) rfl v8 _ (x.drop (t1 + 1).toNat) _ _ _ (fun k => k ≠ B) rfl rfl Q8.out HL.out R8.out (fun k hk e => hk (by simpa [Value.ownBlock] using e.symm)) ?hF ?hR ?hl ?_; (case hR => exact BendAt.readB (m := (t1 + 1).toNat) Q8.out (by omega)); (case hF => intro k hk; have h1 := HS6.out; have h2 := HBL.out; have h3 := HG8.out; omega); (case hl => have := CT3.out; simp only [List.length_append, List.length_nil, List.length_take]; omega); intro v9 w9 hr9 q9 _; have R9 := Aside0.mk hr9; have Q9 := Aside0.mk q9; clear hr9 q9))
                  go_wp2
                  all_goals
                    go_roundg k1
                    case measure => omega
                    case rel => exact ⟨_, wrap64 (n - 1), i2, h2, by first | rfl | simp, HA, ⟨by have := HK.out; omega⟩, ⟨BendAt.fresh Q9.out R9.out (by have := CT3.out; simp only [List.length_append, List.length_nil, List.length_take, List.length_drop]; omega)⟩⟩
                · rw [if_neg z2] at H
                  by_cases z3 : t2 = 3
                  · rw [if_pos z3] at H
                    subst z3
                    obtain ⟨⟨t3, i3, h3⟩, e3, H⟩ := Option.bind_eq_some_iff.mp H
                    dsimp only at H e3
                    by_cases cu : 0 ≤ t3 ∧ t3 < (a2.size : Int)
                    · rw [if_pos cu] at H
                      have E3 := Aside0.mk e3
                      have HA := Aside0.mk H
                      have p3 := eq_true cu.1
                      have q3 := eq_true cu.2
                      have hx3 := bt_at a2 t3
                      clear H e3 cu z0 z1 z2
                      obtain ⟨B, eB, hB, _⟩ := BRow.cell HQ.out.2.2.2 t1 ct1 ct2
                      subst eB
                      have HBB := Aside0.mk hB
                      clear hB
                      have ct3 : t1 ≤ (c7 : Int) := by omega
                      have ct4 : t1 ≤ (x.length : Int) := by omega
                      have ct6 : (x.length : Int) ≤ (c7 : Int) := by omega
                      go_upto_region 14 with (first
                        | (go_at_call 26; with_reducible refine (bend_below HQ.out (x.length : Int) t1 i1 h1 E1.out).mono ?_; rintro e w5 ⟨rfl, q_, _⟩; have Q1 := Aside0.mk q_; clear q_)
                        | (go_at_call 26; with_reducible refine (bend_below Q1.out 4 3 i2 h2 E2.out).mono ?_; rintro e w6 ⟨rfl, q_, _⟩; have Q2 := Aside0.mk q_; clear q_))
                      have QE := Aside0.mk (BendAt.drew (BendAt.alloc Q2.out HL.out (.cells #[] 5)) HL.out)
                      have hBlt := BendAt.lt Q2.out (by omega)
                      have hD6 : (w6.alloc (.cells #[] 5)).drew.heap[w6.heap.size]? = some (.cells #[] 5 (0, 0)) := blk_new w6 _
                      have hs6 : (w6.alloc (.cells #[] 5)).drew.heap.size = w6.heap.size + 1 := by show (w6.alloc (.cells #[] 5)).heap.size = _; simp
                      have HD6 := Aside0.mk hD6
                      have HS6 := Aside0.mk hs6
                      have HBL := Aside0.mk hBlt
                      have HW6 := Aside0.mk Q2.out.2.1.1
                      clear hD6 hs6 hBlt
                      go_region_law (first
                        | (refine bend_append Tryz.underlying22 info5 (by rfl) (.tmp 59) (.tmp 62) rfl (.slice (some ⟨w6.heap.size, 0, none⟩) 0 0) [] (x.take t1.toNat) (some ⟨B, 0, none⟩) t1.toNat c7 (fun k => k ≠ B) (by go_simp) (by go_simp) QE.out HL.out ?hO (fun k hk e => hk (by simpa [Value.ownBlock] using e.symm)) ?hF (BendAt.readC QE.out (by omega)) ?hl ?_; (case hO => exact R_empty HD6.out HW6.out (by have := HBL.out; omega)); (case hF => intro k hk; have h1 := HS6.out; have h2 := HBL.out; omega); (case hl => have := CT3.out; simp only [List.length_nil]; omega); intro v8 w8 hr8 q8 hg8; have HG8 := Aside0.mk hg8.size; have R8 := Aside0.mk hr8; have Q8 := Aside0.mk q8; clear hr8 q8 hg8)
                        | (refine goes_ Tryz.func26 (by kernel_rfl) rfl #[.pointer (some ⟨g, 0, none⟩), .int .i64 (a2.size : Int)] (by rfl) rfl rfl (by go_simp) ?_; refine (bend_below Q8.out (a2.size : Int) t3 i3 h3 E3.out).mono ?_; rintro e w10 ⟨rfl, q10, hk10⟩; refine ⟨_, rfl, ?_⟩; have R10 := Aside0.mk (Kd.R_mono (Kd.R_keep (IsS42.apart Q8.out.1 R8.out (by decide)) hk10 (fun _ h => h.2)) (fun _ h => h.1)); have Q10 := Aside0.mk q10; have HG10 := Aside0.mk hk10.1; clear q10 hk10)
                        | (refine bend_append Tryz.underlying22 info5 (by rfl) (.tmp 63) (.tmp 70) rfl v8 _ [bt a2 t3] (some ⟨w10.heap.size, 0, none⟩) 1 1 (fun k => k ≠ B) (by go_simp) (by go_simp) (BendAt.alloc Q10.out HL.out _) HL.out (Kd.R_alloc R10.out _) (fun k hk e => hk (by simpa [Value.ownBlock] using e.symm)) ?hF (lit_C w10 (bt a2 t3)) ?hl ?_; (case hF => intro k hk; have h0 := (below_alloc (Below.refl w10.heap.size w10) (.cells #[.int .u8 (bt a2 t3)] 5)).size; have h1 := HS6.out; have h2 := HBL.out; have h3 := HG8.out; have h4 := HG10.out; omega); (case hl => have := CT3.out; simp only [List.length_append, List.length_nil, List.length_take]; omega); intro v11 w11 hr11 q11 hg11; have HG11 := Aside0.mk (Nat.le_trans (below_alloc (Below.refl w10.heap.size w10) (.cells #[.int .u8 (bt a2 t3)] 5)).size hg11.size); have R11 := Aside0.mk hr11; have Q11 := Aside0.mk q11; clear hr11 q11 hg11)
                        | (refine bend_append Tryz.underlying22 info5 (by rfl) (.tmp 71) (.tmp 74) rfl v11 _ (x.drop t1.toNat) _ _ _ (fun k => k ≠ B) rfl rfl Q11.out HL.out R11.out (fun k hk e => hk (by simpa [Value.ownBlock] using e.symm)) ?hF ?hR ?hl ?_; (case hR => exact BendAt.readB (m := t1.toNat) Q11.out (by omega)); (case hF => intro k hk; have h1 := HS6.out; have h2 := HBL.out; have h3 := HG8.out; have h4 := HG10.out; have h5 := HG11.out; omega); (case hl => have := CT3.out; simp only [List.length_append, List.length_nil, List.length_take, List.length_singleton]; omega); intro v9 w9 hr9 q9 _; have R9 := Aside0.mk hr9; have Q9 := Aside0.mk q9; clear hr9 q9))
                      go_wp2
                      go_roundg k1
                      case measure => omega
                      case rel => exact ⟨_, wrap64 (n - 1), i3, h3, by first | rfl | simp, HA, ⟨by have := HK.out; omega⟩, ⟨BendAt.fresh Q9.out R9.out (by have := CT3.out; simp only [List.length_append, List.length_nil, List.length_take, List.length_drop, List.length_singleton]; omega)⟩⟩
                    · rw [if_neg cu] at H
                      cases H
                  · rw [if_neg z3] at H
                    have HA := Aside0.mk H
                    have y0 : (t2 == 0) = false := beq_eq_false_iff_ne.mpr z0
                    have y1 : (t2 == 1) = false := beq_eq_false_iff_ne.mpr z1
                    have y2 : (t2 == 2) = false := beq_eq_false_iff_ne.mpr z2
                    have y3 : (t2 == 3) = false := beq_eq_false_iff_ne.mpr z3
                    clear H z0 z1 z2 z3
                    go_wp2_with (first
                      | (go_at_call 26; with_reducible refine (bend_below HQ.out (x.length : Int) t1 i1 h1 E1.out).mono ?_; rintro e w5 ⟨rfl, q_, _⟩; have Q1 := Aside0.mk q_; clear q_)
                      | (go_at_call 26; with_reducible refine (bend_below Q1.out 4 t2 i2 h2 E2.out).mono ?_; rintro e w6 ⟨rfl, q_, _⟩; have Q2 := Aside0.mk q_; clear q_))
                    go_roundg k1
                    case measure => omega
                    case rel => exact ⟨x, wrap64 (n - 1), i2, h2, by first | rfl | simp, HA, ⟨by have := HK.out; omega⟩, ⟨Q2.out⟩⟩
          · rw [if_neg ct] at H
            cases H
        · rw [if_neg cn] at H
          obtain ⟨rfl, rfl, rfl⟩ : strOfNums x = r1 ∧ i = r2 ∧ h = r3 := by simpa using H
          have hcv := Kd.C_string (P := Tryz.prog) (c := c7) Tryz.underlying22 Tryz.underlying5 Tryz.underlying9 (BRow.reads HQ.out.2.2.2).2.2
          clear H
          by_cases cn1 : n > 0
          · have cn2 : ¬ 0 < x.length := fun q => cn ⟨cn1, q⟩
            have cn1b : decide (0 < n) = true := decide_eq_true cn1
            have cn2b : (0 < x.length) = False := eq_false cn2
            clear cn1 cn2 cn
            go_wp2
            go_ret
            exact ⟨rfl, HQ.out.1, HQ.out.2.2.1, HQ.out.2.1⟩
          · have cn1b : decide (0 < n) = false := decide_eq_false cn1
            clear cn1 cn
            go_wp2
            go_ret
            exact ⟨rfl, HQ.out.1, HQ.out.2.2.1, HQ.out.2.1⟩
  · rw [if_neg hs] at h
    cases h
end Go.Proofs.YtpgpjgdcfhodgaaGreatDoor.P
