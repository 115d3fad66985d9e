/-
  (*strings.byteStringReplacer).Replace at the table of impl.quoted: each mark gets a backslash ahead of it. Condition: the text is not longer than a machine's memory.
-/
import Derived.Test.YtpgpjgdcfhodgaaGreatDoorGReplacerC
import Derived.Test.YtpgpjgdcfhodgaaGreatDoorShelf
import Derived.Laws.CopyRow
import Derived.Laws.CopyOwn
import Derived.Deep.DeepCutAuto
import Derived.Laws.Cover3
import Derived.Test.YtpgpjgdcfhodgaaGreatDoorP0
namespace Go.Proofs.YtpgpjgdcfhodgaaGreatDoor.P
set_option linter.unusedVariables false
set_option linter.unusedSimpArgs false
open Go.RowKit Go.Lib Go.Proofs.YtpgpjgdcfhodgaaGreatDoorW.PrintWords Go.Proofs.YtpgpjgdcfhodgaaGreatDoorW.PrintLast Go.Proofs.YtpgpjgdcfhodgaaGreatDoorW.PrintMore

/-- Is a byte one that a backslash goes ahead of? -/
def escB (b : UInt8) : Bool := b == 34 || b == 92
def escL (l : List UInt8) : List UInt8 := l.flatMap fun b => if escB b = true then [92, b] else [b]
theorem escL_append (a b : List UInt8) : escL (a ++ b) = escL a ++ escL b := by unfold escL; exact List.flatMap_append
theorem escL_length (l : List UInt8) : (escL l).length = l.length + l.countP escB := by
  unfold escL
  induction l with
  | nil => rfl
  | cons b l ih =>
    rw [List.flatMap_cons, List.length_append, ih, List.length_cons, List.countP_cons]
    by_cases h : escB b = true
    · rw [if_pos h, if_pos h]; simp only [List.length_cons, List.length_nil]; omega
    · rw [if_neg h, if_neg h]; simp only [List.length_cons, List.length_nil]; omega
theorem escL_none (l : List UInt8) (h : l.countP escB = 0) : escL l = l := by
  unfold escL
  induction l with
  | nil => rfl
  | cons b l ih =>
    rw [List.countP_cons] at h
    by_cases hb : escB b = true
    · rw [if_pos hb] at h; omega
    · rw [List.flatMap_cons, if_neg hb, ih (by omega)]; rfl
theorem count_two (l : List UInt8) : (Lib.countByte l 92 : Int) + Lib.countByte l 34 = (l.countP escB : Nat) := by
  have h : l.count 92 + l.count 34 = l.countP escB := by
    induction l with
    | nil => rfl
    | cons b l ih =>
      rw [List.count_cons, List.count_cons, List.countP_cons, ← ih]
      by_cases h1 : b = 92
      · subst h1
        simp [escB]
        omega
      · by_cases h2 : b = 34
        · subst h2
          simp [escB]
          omega
        · simp [escB, h1, h2]
  show ((l.count 92 : Nat) : Int) + ((l.count 34 : Nat) : Int) = _
  omega
/-- What a table answers at a byte. -/
theorem RpTab.at {B0 T R : Nat} {w : World} (h : RpTab B0 T R w) : ∃ X cx Y cy, w.cell? ⟨R, 256, none⟩ = some (.slice (some ⟨T, 0, none⟩) 2 2) ∧ w.cell? ⟨T, 0, none⟩ = some (.string ⟨#[92]⟩) ∧ w.cell? ⟨T, 1, none⟩ = some (.string ⟨#[34]⟩) ∧
    w.cell? ⟨R, 34, none⟩ = some (.slice (some ⟨X, 0, none⟩) 2 cx) ∧ w.cell? ⟨R, 92, none⟩ = some (.slice (some ⟨Y, 0, none⟩) 2 cy) ∧ (∀ b : UInt8, escB b = false → w.cell? ⟨R, b.toNat, none⟩ = some (.slice none 0 0)) ∧
    w.cell? ⟨Y, 0, none⟩ = some (.int .u8 92) ∧ w.cell? ⟨Y, 1, none⟩ = some (.int .u8 92) ∧ w.cell? ⟨X, 0, none⟩ = some (.int .u8 92) ∧ w.cell? ⟨X, 1, none⟩ = some (.int .u8 34) := by
  obtain ⟨-, -, q1, Y, cy, X, cx, -, -, q2, y0, y1, x0, x1⟩ := h
  have zR : ∀ i v u u2, (((rpZ v).setIfInBounds 92 u).setIfInBounds 34 u2)[i]? = if i = 34 then some u2 else if i = 92 then some u else (rpZ v)[i]? := fun i v u u2 => by
    rw [Array.getElem?_setIfInBounds, Array.getElem?_setIfInBounds, Array.size_setIfInBounds, rpZ_size]
    by_cases e : i = 34
    · rw [if_pos e.symm, if_pos e, if_pos (by decide)]
    · rw [if_neg (fun x => e x.symm), if_neg e]
      by_cases e2 : i = 92
      · rw [if_pos e2.symm, if_pos e2, if_pos (by decide)]
      · rw [if_neg (fun x => e2 x.symm), if_neg e2]
  refine ⟨X, cx, Y, cy, (blk_cell q2 256).trans ((zR _ _ _ _).trans ?_), blk_cell q1 0, blk_cell q1 1, (blk_cell q2 34).trans ((zR _ _ _ _).trans rfl), (blk_cell q2 92).trans ((zR _ _ _ _).trans rfl), fun b hb => (blk_cell q2 _).trans ((zR _ _ _ _).trans ?_), y0, y1, x0, x1⟩
  · rw [if_neg (by decide), if_neg (by decide)]
    exact rpZ_last _
  · have h1 : ¬ b.toNat = 34 := fun e => by
      have : b = 34 := UInt8.toNat_inj.1 e
      subst this
      cases hb
    have h2 : ¬ b.toNat = 92 := fun e => by
      have : b = 92 := UInt8.toNat_inj.1 e
      subst this
      cases hb
    rw [if_neg h1, if_neg h2]
    exact rpZ_at _ _ b.toNat_lt
/-- A table in a world behind the call's own. -/
def RpW (B0 T R : Nat) (w W : World) : Prop := RpTab B0 T R W ∧ Below w.heap.size w W
theorem RpW.drew {B0 T R : Nat} {w W : World} (h : RpW B0 T R w W) : RpW B0 T R w W.drew := ⟨h.1.keep fun _ _ _ => rfl, h.2.drew⟩
theorem wrap_sum (a b : Nat) (ha : a ≤ 1000000000) (hb : b ≤ 1000000000) : wrap64 ((a : Int) + wrap64 (b : Int)) = ((a + b : Nat) : Int) := by unfold wrap64; omega
/-- A buffer of m bytes that begins with some. -/
def bufC (l : List UInt8) (m : Nat) : Array Value := (l.map (fun b : UInt8 => Value.int .u8 (b.toNat : Int)) ++ List.replicate (m - l.length) (Value.int .u8 0)).toArray
theorem bufC_size (l : List UInt8) (m : Nat) (h : l.length ≤ m) : (bufC l m).size = m := by
  unfold bufC
  rw [List.size_toArray, List.length_append, List.length_map, List.length_replicate]
  omega
theorem bufC_put (l : List UInt8) (m : Nat) (b : UInt8) (h : l.length < m) : (bufC l m).setIfInBounds l.length (.int .u8 (b.toNat : Int)) = bufC (l ++ [b]) m := by
  apply Array.toList_inj.1
  unfold bufC
  rw [Array.toList_setIfInBounds, List.toList_toArray, List.toList_toArray, List.set_append_right _ _ (by rw [List.length_map]; exact Nat.le_refl _), List.length_map, Nat.sub_self, List.map_append, List.append_assoc]
  congr 1
  obtain ⟨d, hd⟩ : ∃ d, m - l.length = d + 1 := ⟨m - l.length - 1, by omega⟩
  rw [hd, List.replicate_succ, List.set_cons_zero, List.length_append, List.length_singleton, show m - (l.length + 1) = d by omega]
  rfl
theorem addr_row (g j : Nat) : (⟨g, 0, none⟩ : Addr).add j = ⟨g, j, none⟩ := by unfold Addr.add; split <;> simp_all
theorem splice_app (L : List Value) (x y z : Value) (d : Nat) : (L ++ List.replicate (d + 2) z).take L.length ++ [x, y] ++ (L ++ List.replicate (d + 2) z).drop (L.length + 2) = L ++ [x, y] ++ List.replicate d z := by
  rw [List.take_left, List.drop_length_add_append]
  rfl
/-- Two bytes copied behind the ones that a buffer has. -/
theorem rp_copy (W : World) (g m Z cz jj : Nat) (l : List UInt8) (b : UInt8) (hl : jj = l.length) (hg : W.heap[g]? = some (.cells (bufC l m) 5 (0, 0))) (hj : jj + 2 ≤ m) (z0 : W.cell? ⟨Z, 0, none⟩ = some (.int .u8 92)) (z1 : W.cell? ⟨Z, 1, none⟩ = some (.int .u8 (b.toNat : Int))) :
    ∃ W3, (Builtin.copy_ #[22, 22] 3 #[.slice (some ⟨g, jj, none⟩) (m - jj) (m - jj), .slice (some ⟨Z, 0, none⟩) 2 cz]).run Tryz.prog W = .ok (.int .i64 2) W3 ∧ W3.heap[g]? = some (.cells (bufC (l ++ [92, b]) m) 5 (0, 0)) ∧ Stp W W3 g := by
  subst hl
  have h := run_copy_row (P := Tryz.prog) W 22 22 3 5 g l.length (m - l.length) (m - l.length) ⟨Z, 0, none⟩ 2 cz (bufC l m) 5 [.int .u8 92, .int .u8 (b.toNat : Int)] Tryz.underlying22 (by kernel_rfl) hg
    (by show 2 = Nat.min 2 (m - l.length); exact (Nat.min_eq_left (by omega)).symm) (fun j v hj => by
      match j, hj with
      | 0, hj => obtain rfl := Option.some.inj hj; exact z0
      | 1, hj => obtain rfl := Option.some.inj hj; exact z1
      | (j + 2), hj => cases hj) (by rw [bufC_size _ _ (by omega)]; exact hj) (by
      intro v hv
      simp only [List.mem_cons, List.not_mem_nil, or_false] at hv
      rcases hv with rfl | rfl <;> rfl)
  refine ⟨_, h, ?_, ⟨rfl, rfl, rfl, by rw [setRow_size]; exact Nat.le_refl _, fun k _ hk => setRow_other _ _ _ _ hk⟩⟩
  rw [setRow_heap _ g _ _ _ _ hg]
  obtain ⟨d, hd⟩ : ∃ d, m - l.length = d + 2 := ⟨m - l.length - 2, by omega⟩
  have e : ((bufC l m).toList.take l.length ++ [Value.int .u8 92, Value.int .u8 (b.toNat : Int)] ++ (bufC l m).toList.drop (l.length + 2)).toArray = bufC (l ++ [92, b]) m := by
    have h2 := splice_app (l.map fun b : UInt8 => Value.int .u8 (b.toNat : Int)) (.int .u8 92) (.int .u8 (b.toNat : Int)) (.int .u8 0) d
    rw [List.length_map] at h2
    unfold bufC
    rw [List.toList_toArray, hd, h2, List.length_append, show m - (l.length + [(92 : UInt8), b].length) = d by simp only [List.length_cons, List.length_nil]; omega, List.map_append]
    rfl
  exact congrArg (fun c => some (Obj.cells c 5 (0, 0))) e
theorem escL_take (l : List UInt8) (k : Nat) (b : UInt8) (h : l[k]? = some b) : escL (l.take (k + 1)) = escL (l.take k) ++ (if escB b = true then [92, b] else [b]) ∧ (escL (l.take (k + 1))).length ≤ (escL l).length := by
  refine ⟨?_, ?_⟩
  · rw [List.take_add_one, h, escL_append]
    congr 1
    unfold escL
    simp
  · have e : escL l = escL (l.take (k + 1)) ++ escL (l.drop (k + 1)) := by rw [← escL_append, List.take_append_drop]
    rw [e, List.length_append]
    omega
theorem bufC_new (m : Nat) : madeCells #[Value.int .u8 0] m = bufC [] m := by
  apply Array.ext
  · rw [size_madeCells, bufC_size _ _ (Nat.zero_le _)]
  · intro i h1 h2
    unfold bufC
    simp [madeCells, Nat.mod_one]
set_option maxRecDepth 100000 in
set_option maxHeartbeats 8000000 in
theorem rp_replace (B0 T R : Nat) (s : ByteArray) (w : World) (hs : s.size ≤ 100000000) (ht : RpTab B0 T R w) :
    Calls Tryz.prog 130 #[.pointer (some ⟨R, 0, none⟩), .string s] w fun e w' => e = .returned (.string ⟨(escL s.data.toList).toArray⟩) ∧ Below w.heap.size w w' := by
  have r256 := ht.at
  obtain ⟨_, _, _, _, r256, -⟩ := r256
  have HT := Aside0.mk (show RpW B0 T R w w from ⟨ht, Below.refl _ _⟩)
  have hcl : s.data.toList.countP escB ≤ s.size := Nat.le_trans List.countP_le_length (Nat.le_of_eq (Array.length_toList (xs := s.data)))
  clear ht
  have e92 : ∀ h, ((⟨#[92]⟩ : ByteArray)[0]'h).toNat = 92 := fun _ => rfl
  have e34 : ∀ h, ((⟨#[34]⟩ : ByteArray)[0]'h).toNat = 34 := fun _ => rfl
  have hne : ∀ (W : World) (a : Addr) (n c : Nat), (binOp .neq 22 (.slice (some a) n c) (.slice none 0 0)).run Tryz.prog W = .ok (.bool true) W := fun W a n c => run_neq_slice_nil W 22 5 (some a) n c Tryz.underlying22
  have hnz : ∀ (W : World), (binOp .neq 22 (.slice none 0 0) (.slice none 0 0)).run Tryz.prog W = .ok (.bool false) W := fun W => run_neq_slice_nil W 22 5 none 0 0 Tryz.underlying22
  go_enter Tryz.func130, Tryz.ntmps130
  go_upto_if 26 with fail
  go_cut [5, 6] (fun v5 v6 wc => v5 = .int .i64 ((s.size + s.data.toList.countP escB : Nat) : Int) ∧ v6 = .bool (decide (s.data.toList.countP escB ≠ 0)) ∧ Aside0 (RpW B0 T R w wc))
  case first =>
    by_cases h16 : (16 : Int) ≤ (s.size : Int)
    · have hcnt := count_two s.data.toList
      have hc1 : Lib.countByte s.data.toList 92 ≤ s.size := Nat.le_trans List.count_le_length (Nat.le_of_eq (Array.length_toList (xs := s.data)))
      have hc2 : Lib.countByte s.data.toList 34 ≤ s.size := Nat.le_trans List.count_le_length (Nat.le_of_eq (Array.length_toList (xs := s.data)))
      have K0 := Aside0.mk (Tryz.strings_Count_one s 92)
      have K1 := Aside0.mk (Tryz.strings_Count_one s 34)
      generalize Lib.countByte s.data.toList 92 = c92 at hcnt hc1 K0
      generalize Lib.countByte s.data.toList 34 = c34 at hcnt hc2 K1
      generalize hcn : s.data.toList.countP escB = cn at hcnt hcl
      have HN := Aside0.mk hcn
      clear hcn
      have HC := Aside0.mk (And.intro hcnt (And.intro hc1 hc2))
      clear hcnt hc1 hc2
      have h16b : decide ((16 : Int) ≤ (s.size : Int)) = true := decide_eq_true h16
      simp only [h16b]
      go_wp2
      go_loopg [32, 5, 6] 2 (fun gg v32 v5 v6 wr => ∃ kk cc : Nat, kk ≤ 2 ∧ 2 - kk ≤ gg ∧ v32 = .int .i64 (kk : Int) ∧ v5 = .int .i64 ((s.size + cc : Nat) : Int) ∧ v6 = .bool (decide (cc ≠ 0)) ∧ cc = (if kk = 0 then 0 else if kk = 1 then c92 else c92 + c34) ∧ Aside0 (RpW B0 T R w wr))
      case atStart => exact ⟨0, 0, by omega, by omega, rfl, rfl, rfl, rfl, HT⟩
      case round =>
        clear HT r256
        obtain ⟨kk, cc, hk, hgg, rfl, rfl, rfl, hcc, HT⟩ := hrel
        obtain ⟨X, cx, Y, cy, r256, t0, t1, r34, r92, -⟩ := HT.out.1.at
        have hkk : kk = 0 ∨ kk = 1 ∨ kk = 2 := by omega
        rcases hkk with rfl | rfl | rfl
        · rw [if_pos rfl] at hcc
          subst hcc
          by_cases hz : c92 = 0
          · have hzb : ((c92 : Int) != 0) = false := by simp [hz]
            go_wp2_with (go_at_call 132; refine (K0.out _).mono ?_; rintro e w1 ⟨rfl, rfl⟩)
            go_roundg 1
            case measure => omega
            case rel => exact ⟨1, 0, by omega, by omega, by go_num, rfl, rfl, by rw [if_neg (by decide), if_pos rfl, hz], HT⟩
          · have hzb : ((c92 : Int) != 0) = true := by simp [hz]
            go_wp2_with (go_at_call 132; refine (K0.out _).mono ?_; rintro e w1 ⟨rfl, rfl⟩)
            go_region
            go_wp2
            go_roundg 1
            case measure => omega
            case rel => exact ⟨1, c92, by omega, by omega, by go_num, by rw [wrap_sum _ _ (by omega) (by have := HC.out.2.1; omega)], by simp [hz], by rw [if_neg (by decide), if_pos rfl], ⟨HT.out.drew⟩⟩
        · rw [if_neg (by decide), if_pos rfl] at hcc
          subst hcc
          by_cases hz : c34 = 0
          · have hzb : ((c34 : Int) != 0) = false := by simp [hz]
            go_wp2_with (go_at_call 132; refine (K1.out _).mono ?_; rintro e w1 ⟨rfl, rfl⟩)
            go_roundg 0
            case measure => omega
            case rel => exact ⟨2, cc, by omega, by omega, by go_num, rfl, by simp, by rw [if_neg (by decide), if_neg (by decide), hz]; rfl, HT⟩
          · have hzb : ((c34 : Int) != 0) = true := by simp [hz]
            go_wp2_with (go_at_call 132; refine (K1.out _).mono ?_; rintro e w1 ⟨rfl, rfl⟩)
            go_region
            go_wp2
            go_roundg 0
            case measure => omega
            case rel => exact ⟨2, cc + c34, by omega, by omega, by go_num, by congr 1; have := HC.out.2.1; have := HC.out.2.2; unfold wrap64; omega, by simp [hz], by rw [if_neg (by decide), if_neg (by decide)], ⟨HT.out.drew⟩⟩
        · go_wp2
          go_meet
          case rel =>
            have h1 := HC.out.1
            rw [if_neg (by decide), if_neg (by decide)] at hcc
            have e : cc = cn := by omega
            have hcn := HN.out
            exact ⟨by rw [hcn, e], by rw [hcn, e], HT⟩
    · have h16b : decide ((16 : Int) ≤ (s.size : Int)) = false := decide_eq_false h16
      simp only [h16b]
      go_wp2
      go_loopg [10, 5, 6] s.size (fun gg v10 v5 v6 wr => ∃ kk cc : Nat, kk ≤ s.size ∧ s.size - kk ≤ gg ∧ v10 = .int .i64 (kk : Int) ∧ v5 = .int .i64 ((s.size + cc : Nat) : Int) ∧ v6 = .bool (decide (cc ≠ 0)) ∧ Aside0 (cc = (s.data.toList.take kk).countP escB) ∧ Aside0 (RpW B0 T R w wr))
      case atStart => exact ⟨0, 0, Nat.zero_le _, by omega, rfl, rfl, rfl, ⟨rfl⟩, HT⟩
      case round =>
        clear HT r256
        obtain ⟨kk, cc, hk, hgg, rfl, rfl, rfl, HCC, HT⟩ := hrel
        obtain ⟨X, cx, Y, cy, r256, t0, t1, r34, r92, rn, -⟩ := HT.out.1.at
        have hcc : cc ≤ s.size := by
          rw [HCC.out]
          exact Nat.le_trans List.countP_le_length (Nat.le_trans (List.length_take_le' _ _) (Nat.le_of_eq (Array.length_toList (xs := s.data))))
        by_cases hlt : kk < s.size
        · have hltz : (kk : Int) < (s.size : Int) := by omega
          have h0z : (0 : Int) ≤ (kk : Int) := by omega
          obtain ⟨b, hsb⟩ : ∃ b : UInt8, s[kk]'hlt = b := ⟨_, rfl⟩
          have hnx : (s.data.toList.take (kk + 1)).countP escB = cc + (if escB b = true then 1 else 0) := by
            have hg : s.data.toList[kk]? = some b := by
              rw [← hsb, List.getElem?_eq_getElem (by rw [Array.length_toList]; exact hlt)]
              rfl
            rw [List.take_add_one, hg, List.countP_append, ← HCC.out]
            show cc + List.countP escB [b] = _
            rw [List.countP_singleton]
          have HX := Aside0.mk hnx
          clear hnx
          by_cases hb : escB b = true
          · have hbb : b = 34 ∨ b = 92 := by
              unfold escB at hb
              simpa using hb
            rcases hbb with rfl | rfl
            · have rb : wr.cell? ⟨R, (34 : UInt8).toNat, none⟩ = some (.slice (some ⟨X, 0, none⟩) 2 cx) := r34
              clear hb
              go_wp2
              go_roundg (s.size - (kk + 1))
              case measure => omega
              case rel => exact ⟨kk + 1, cc + 1, by omega, by omega, by go_num, by first | (congr 1; done) | (congr 1; unfold wrap64; omega), by simp, ⟨HX.out.symm⟩, HT⟩
            · have rb : wr.cell? ⟨R, (92 : UInt8).toNat, none⟩ = some (.slice (some ⟨Y, 0, none⟩) 2 cy) := r92
              clear hb
              go_wp2
              go_roundg (s.size - (kk + 1))
              case measure => omega
              case rel => exact ⟨kk + 1, cc + 1, by omega, by omega, by go_num, by first | (congr 1; done) | (congr 1; unfold wrap64; omega), by simp, ⟨HX.out.symm⟩, HT⟩
          · have rb := rn b (by simpa using hb)
            have HX2 := Aside0.mk (HX.out.trans (by rw [if_neg hb]; rfl) : (s.data.toList.take (kk + 1)).countP escB = cc)
            clear hb rn
            have hb2 : b.toNat < 256 := b.toNat_lt
            have hb3 : (b.toNat : Int) < 256 := by omega
            have hb4 : (0 : Int) ≤ (b.toNat : Int) := by omega
            go_wp2
            go_roundg (s.size - (kk + 1))
            case measure => omega
            case rel => exact ⟨kk + 1, cc, by omega, by omega, by go_num, rfl, by simp, ⟨HX2.out.symm⟩, HT⟩
        · have hltz : ¬ (kk : Int) < (s.size : Int) := by omega
          clear rn
          go_wp2
          go_meet
          case rel =>
            have e : cc = s.data.toList.countP escB := by
              have h := HCC.out
              rw [List.take_of_length_le (by rw [Array.length_toList]; show s.size ≤ kk; omega)] at h
              exact h
            exact ⟨by rw [← e]; congr 1, by rw [← e]; simp, HT⟩
  case rest =>
    clear HT r256
    obtain ⟨rfl, rfl, HT⟩ := hcut
    have HR := Aside0.mk (escL_length s.data.toList)
    have HZ := Aside0.mk (escL_none s.data.toList)
    have hsl : s.data.toList.length = s.size := Array.length_toList (xs := s.data)
    have HSL := Aside0.mk hsl
    clear hsl
    generalize hcn : s.data.toList.countP escB = cn at hcl HR HZ ⊢
    clear hcn
    by_cases hz : cn = 0
    · have HE := Aside0.mk (HZ.out hz)
      subst hz
      go_wp2
      go_ret
      refine ⟨?_, HT.out.2⟩
      show Ending.returned (.string s) = _
      rw [HE.out, Array.toArray_toList]
    · have hm : (escL s.data.toList).length = s.size + cn := by rw [HR.out, HSL.out]
      have hmk : ∀ W : World, (Instr.makeSlice 22 (.int .i64 ((s.size : Int) + (cn : Int))) (.int .i64 ((s.size : Int) + (cn : Int)))).run Tryz.prog W = .ok (.slice (some ⟨W.heap.size, 0, none⟩) (s.size + cn) (s.size + cn)) (W.alloc (.cells (bufC [] (s.size + cn)) 5)) := fun W => by
        have h := print_make 22 5 .u8 1 Tryz.underlying22 (by kernel_rfl) (by decide) (s.size + cn) (by omega) W
        rw [bufC_new] at h
        rw [← Int.natCast_add]
        exact h
      have hmb : (s.size + cn) ≤ 200000000 := by omega
      have hd : decide (cn ≠ 0) = true := decide_eq_true hz
      simp only [Int.natCast_add, hd]
      have HM := Aside0.mk hm
      clear hm
      go_wp2
      go_loopg [13, 14] s.size (fun gg v13 v14 wr => ∃ kk jj : Nat, kk ≤ s.size ∧ s.size - kk ≤ gg ∧ v14 = .int .i64 (kk : Int) ∧ v13 = .int .i64 (jj : Int) ∧ Aside0 (jj = (escL (s.data.toList.take kk)).length) ∧ Aside0 (wr.heap[wc.heap.size]? = some (.cells (bufC (escL (s.data.toList.take kk)) (s.size + cn)) 5 (0, 0))) ∧ Aside0 (Below wc.heap.size wc wr))
      case atStart => exact ⟨0, 0, Nat.zero_le _, by omega, rfl, rfl, ⟨rfl⟩, ⟨heap_alloc_last _ _⟩, ⟨below_alloc (Below.refl _ _) _⟩⟩
      case round =>
        obtain ⟨kk, jj, hk, hgg, rfl, rfl, HJ, HB, HW⟩ := hrel
        obtain ⟨X, cx, Y, cy, r256, -, -, r34, r92, rn, y0, y1, x0, x1⟩ := (HT.out.1.keep (W' := wr) fun k _ hk => HW.out.block k hk).at
        clear r256
        by_cases hlt : kk < s.size
        · have hltz : (kk : Int) < (s.size : Int) := by omega
          have h0z : (0 : Int) ≤ (kk : Int) := by omega
          obtain ⟨b, hsb⟩ : ∃ b : UInt8, s[kk]'hlt = b := ⟨_, rfl⟩
          have hg : s.data.toList[kk]? = some b := by
            rw [← hsb, List.getElem?_eq_getElem (by rw [Array.length_toList]; exact hlt)]
            rfl
          have hnx := escL_take s.data.toList kk b hg
          clear hg
          rw [HM.out] at hnx
          by_cases hb : escB b = true
          · rw [if_pos hb] at hnx
            obtain ⟨Z, cz, rb, hz0, hz1⟩ : ∃ Z cz, wr.cell? ⟨R, b.toNat, none⟩ = some (.slice (some ⟨Z, 0, none⟩) 2 cz) ∧ wr.cell? ⟨Z, 0, none⟩ = some (.int .u8 92) ∧ wr.cell? ⟨Z, 1, none⟩ = some (.int .u8 (b.toNat : Int)) := by
              have hbb : b = 34 ∨ b = 92 := by
                unfold escB at hb
                simpa using hb
              rcases hbb with rfl | rfl
              · exact ⟨X, cx, r34, x0, x1⟩
              · exact ⟨Y, cy, r92, y0, y1⟩
            have hjm : jj + 2 ≤ s.size + cn := by
              have h1 := hnx.2
              rw [hnx.1, List.length_append, ← HJ.out] at h1
              exact h1
            have HX := Aside0.mk hnx
            clear hb rn hnx r34 r92 x0 x1 y0 y1
            have hb2 : b.toNat < 256 := b.toNat_lt
            have hb3 : (b.toNat : Int) < 256 := by omega
            have hb4 : (0 : Int) ≤ (b.toNat : Int) := by omega
            have hj0 : (0 : Int) ≤ (jj : Int) := by omega
            have hj1 : ¬ (s.size : Int) + (cn : Int) < (jj : Int) := by omega
            have hj2 : ¬ ((s.size + cn : Nat) : Int) < (jj : Int) := by omega
            have hj3 : (jj : Int) ≤ (s.size : Int) + (cn : Int) := by omega
            have hj4 : ¬ s.size + cn = jj := by omega
            have zc : ∀ a x, wr.cell? a = some x → wr.drew.cell? a = some x := fun a x h => h
            obtain ⟨W3, hcp, hb3, hs3⟩ := rp_copy wr.drew wc.heap.size (s.size + cn) Z cz jj _ b HJ.out (blk_drew HB.out) hjm (zc _ _ hz0) (zc _ _ hz1)
            have HK := Aside0.mk (And.intro hb3 hs3)
            clear hb3 hs3
            go_wp2
            go_region
            go_wp2
            go_roundg (s.size - (kk + 1))
            case measure => omega
            case rel =>
              refine ⟨kk + 1, jj + 2, by omega, by omega, by go_num, by first | (congr 1; done) | (congr 1; unfold wrap64; omega), ⟨by rw [HX.out.1, List.length_append, ← HJ.out]; rfl⟩, ⟨?_⟩, ⟨Stp.below (w := wc) HK.out.2 (Below.drew HW.out) (Nat.le_refl _)⟩⟩
              rw [HX.out.1]
              exact HK.out.1
          · have rb := rn b (by simpa using hb)
            rw [if_neg hb] at hnx
            have hjm : jj < s.size + cn := by
              have h1 := hnx.2
              rw [hnx.1, List.length_append, List.length_singleton, ← HJ.out] at h1
              omega
            obtain ⟨v0, hv0⟩ : ∃ v0, wr.cell? ⟨wc.heap.size, jj, none⟩ = some v0 := ⟨_, (blk_cell HB.out jj).trans (Array.getElem?_eq_getElem (by rw [bufC_size _ _ (by have := HJ.out; omega)]; exact hjm))⟩
            have z0 := blk_frozen HB.out jj
            have HX := Aside0.mk hnx
            clear hb rn hnx
            have hb2 : b.toNat < 256 := b.toNat_lt
            have hb3 : (b.toNat : Int) < 256 := by omega
            have hb4 : (0 : Int) ≤ (b.toNat : Int) := by omega
            have hj0 : (0 : Int) ≤ (jj : Int) := by omega
            have hj1 : (jj : Int) < (s.size : Int) + (cn : Int) := by omega
            have hj2 : (jj : Int) < ((s.size + cn : Nat) : Int) := by omega
            go_wp2
            go_roundg (s.size - (kk + 1))
            case measure => omega
            case rel =>
              refine ⟨kk + 1, jj + 1, by omega, by omega, by go_num, by first | (congr 1; done) | (congr 1; unfold wrap64; omega), ⟨by rw [HX.out.1, List.length_append, List.length_singleton, ← HJ.out]⟩, ⟨?_⟩, ⟨below_set HW.out (Nat.le_refl _)⟩⟩
              rw [HX.out.1]
              exact blk_put HB.out jj _ (by rw [HJ.out]; exact bufC_put _ _ b (by rw [← HJ.out]; exact hjm))
        · have hltz : ¬ (kk : Int) < (s.size : Int) := by omega
          have hall : s.data.toList.take kk = s.data.toList := List.take_of_length_le (by rw [Array.length_toList]; show s.size ≤ kk; omega)
          have hb := HB.out
          rw [hall] at hb
          have hcv : (convert 22 9 (.slice (some ⟨wc.heap.size, 0, none⟩) (s.size + cn) (s.size + cn))).run Tryz.prog wr = .ok (.string ⟨(escL s.data.toList).toArray⟩) wr := by
            have h := run_convert_bytes_back (P := Tryz.prog) wr 22 9 5 ⟨wc.heap.size, 0, none⟩ (s.size + cn) (escL s.data.toList) Tryz.underlying22 Tryz.underlying5 Tryz.underlying9 (fun j hj => by
              rw [addr_row, blk_cell hb j]
              unfold bufC
              rw [List.getElem?_toArray, List.getElem?_append_left (by rw [List.length_map]; exact hj), List.getElem?_map, List.getElem?_eq_getElem hj]
              rfl)
            rw [HM.out] at h
            exact h
          clear rn hb hall
          go_wp2
          go_ret
          exact ⟨rfl, HT.out.2.trans (HW.out.mono (HT.out.2.size))⟩
end Go.Proofs.YtpgpjgdcfhodgaaGreatDoor.P
