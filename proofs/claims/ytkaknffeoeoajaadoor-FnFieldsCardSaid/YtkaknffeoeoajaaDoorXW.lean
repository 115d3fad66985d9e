/-
  Facts on the program's package-level variables (tables that are never written), and how they last; a string appended inside a region that draws its order. No condition.
-/
import Derived.Lib.SmallJoins
import Derived.Lib.LaidTab
import Derived.Lib.ItoaNum
import Derived.Sort.Grow
import Derived.Test.YtkaknffeoeoajaaDoorP0
namespace Go.Proofs.YtkaknffeoeoajaaDoor.P
set_option linter.unusedVariables false
open Go.RowKit Go.Proofs.YtkaknffeoeoajaaDoorW.PrintWords Go.Proofs.YtkaknffeoeoajaaDoorW.PrintLast Go.Proofs.YtkaknffeoeoajaaDoorW.PrintMore

def deBruijn64Tab : List Int := [0, 1, 56, 2, 57, 49, 28, 3, 61, 58, 42, 50, 38, 29, 17, 4, 62, 47, 59, 36, 45, 43, 51, 22, 53, 39, 33, 30, 24, 18, 12, 5, 63, 55, 48, 27, 60, 41, 37, 16, 46, 35, 44, 21, 52, 32, 23, 11, 54, 26, 40, 15, 34, 20, 31, 10, 25, 14, 19, 9, 13, 8, 7, 6]
/-- Which variables hold what they are laid with: 1: MaxLen is some number · 2: the powers of ten · 4: the table of trailing zeros. -/
def XW (m : Nat) (w : World) : Prop :=
  (m % 2 = 1 → ∃ v, w.cell? ⟨0, 0, none⟩ = some (.int .i64 v)) ∧
  (m / 2 % 2 = 1 → Lib.TabIs Tryd.prog w "internal/strconv.uint64pow10" .u64 Lib.pow10Tab) ∧
  (m / 4 % 2 = 1 → Lib.TabIs Tryd.prog w "math/bits.deBruijn64tab" .u8 deBruijn64Tab) ∧
  True
theorem XW.stays {m : Nat} {w w' : World} (h : XW m w) (hb : Below w.heap.size w w') : XW m w' := by
  unfold XW at h ⊢
  obtain ⟨h1, h⟩ := h
  obtain ⟨h2, h⟩ := h
  obtain ⟨h3, h⟩ := h
  refine ⟨fun hm => ?_, ?_⟩
  · obtain ⟨v, hv⟩ := h1 hm
    exact ⟨v, (hb.cell (World.block_lt_of_cell? w _ hv)).trans hv⟩
  refine ⟨fun hm => Go.Joins.tab_stays (g := 5) (by kernel_rfl) (h2 hm) hb (Nat.le_refl _), ?_⟩
  refine ⟨fun hm => Go.Joins.tab_stays (g := 7) (by kernel_rfl) (h3 hm) hb (Nat.le_refl _), ?_⟩
  exact trivial
theorem XW.to {m m' : Nat} {w : World} (h : XW m w) (hs : (m' % 2 = 1 → m % 2 = 1) ∧ (m' / 2 % 2 = 1 → m / 2 % 2 = 1) ∧ (m' / 4 % 2 = 1 → m / 4 % 2 = 1)) : XW m' w := by
  unfold XW at h ⊢
  obtain ⟨s1, s2, s3⟩ := hs
  obtain ⟨h1, h⟩ := h
  obtain ⟨h2, h⟩ := h
  obtain ⟨h3, h⟩ := h
  refine ⟨fun hm => h1 (s1 hm), ?_⟩
  refine ⟨fun hm => h2 (s2 hm), ?_⟩
  refine ⟨fun hm => h3 (s3 hm), ?_⟩
  exact trivial
theorem XW.maxLen {m : Nat} {w : World} (h : XW m w) (hm : m % 2 = 1) : ∃ v, w.cell? ⟨0, 0, none⟩ = some (.int .i64 v) := by
  unfold XW at h
  exact h.1 hm
theorem XW.pow10 {m : Nat} {w : World} (h : XW m w) (hm : m / 2 % 2 = 1) : Lib.TabIs Tryd.prog w "internal/strconv.uint64pow10" .u64 Lib.pow10Tab := by
  unfold XW at h
  first | exact h.1 hm | exact h.2.1 hm
theorem XW.tz {m : Nat} {w : World} (h : XW m w) (hm : m / 4 % 2 = 1) : Lib.TabIs Tryd.prog w "math/bits.deBruijn64tab" .u8 deBruijn64Tab := by
  unfold XW at h
  first | exact h.1 hm | exact h.2.1 hm | exact h.2.2.1 hm
theorem ne_nil_isEmpty (l : List UInt8) : (l != ([] : List UInt8)) = !l.isEmpty := by cases l <;> rfl
theorem below_grow {w : World} (k : Nat) (os : Array Obj) : Below w.heap.size w (Go.Sort.grow (w.drewN k) os) := by
  have h := pw_below_drewN (Below.refl w.heap.size w) k
  refine ⟨h.os, h.tape, h.output, by rw [Go.Sort.size_grow]; exact Nat.le_trans h.size (Nat.le_add_right _ _), fun j hj => ?_⟩
  rw [← h.block j hj]
  show ((w.drewN k).heap ++ os)[j]? = _
  rw [Array.getElem?_append_left (Nat.lt_of_lt_of_le hj h.size)]

section
variable {P : Program} {ops : Array Oper} {o : Oper} {a : Act} {Q : Exit → Act → World → Prop} {K : Act → World → Prop}
theorem print_append_str_step {w0 W : World} (base : Nat) (hw : Region.wanted o (yielded ops a.tmps) = true) (s x : Operand) (t u e : TypeId)
    (ho : o.op = .call { callee := .builtin .append, args := #[s, x], argTypes := #[t, u] })
    (ht : P.underlying t = some (.slice e)) (hu : P.underlying u = some .string) (hinfo : (P.info? e).map (fun i => (i.zero, i.size, i.bytes)) = some (some (.int .u8 0), 1, 1))
    (v : Value) (xs : List Int) (y : ByteArray) (hs : a.eval s = v) (hx : a.eval x = .string y)
    (HO : W.ownsRow base e 1 v xs.length (nums .u8 xs)) (HB : Below base w0 W) (hbase : base ≤ W.heap.size) (hl : xs.length + y.size ≤ 140737488355328)
    (h : ∀ v1 w1, w1.ownsRow base e 1 v1 (xs ++ bytesOf y).length (nums .u8 (xs ++ bytesOf y)) → Below base w0 w1 → W.grownBy w1 v.ownBlock → K (a.put o.dst v1) w1) :
    if Region.wanted o (yielded ops a.tmps) = true then Oper.wp P o a W K Q else K (a.put o.dst undef) W := by
  obtain ⟨i0, hi, hzz⟩ := Option.map_eq_some_iff.1 hinfo
  simp only [Prod.mk.injEq] at hzz
  obtain ⟨hz0, hz1, hz2⟩ := hzz
  rw [if_pos hw]
  obtain ⟨v1, w1, hr, hown, hg, _⟩ := Lib.run_append_own_string (P := P) W base t u o.type e i0 ht hu hi hz0 hz1 hz2 v xs.length (nums .u8 xs) HO y (by simp only [maxLen]; omega) hl hbase
  unfold Oper.wp execOp
  simp only [ho, resolve, invoke, builtin, Sem.run_bind, Sem.run_pure, Result.andThen_ok, List.map_toArray, List.map_cons, List.map_nil, hs, hx, hr]
  have hl2 : (xs ++ bytesOf y).length = xs.length + y.size := by rw [List.length_append, bytesOf_length]
  have hc : nums .u8 (xs ++ bytesOf y) = nums .u8 xs ++ Lib.strCells y := by
    rw [nums_append]
    congr 1
    simp [nums, bytesOf, Lib.strCells]
  exact h v1 w1 (by rw [hl2, hc]; exact hown) (HB.grown hg hbase (own_base HO)) hg
end
end Go.Proofs.YtkaknffeoeoajaaDoor.P
