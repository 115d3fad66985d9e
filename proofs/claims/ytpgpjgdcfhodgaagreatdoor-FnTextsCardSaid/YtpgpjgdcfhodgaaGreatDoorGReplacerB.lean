/-
  (*strings.Replacer).build at the four texts of impl.quoted. Condition: the texts stand where the replacer says.
-/
import Derived.Test.YtpgpjgdcfhodgaaGreatDoorGReplacerA
import Derived.Deep.WholeRow
import Derived.Lib.ConvBytes
import Derived.Test.YtpgpjgdcfhodgaaGreatDoorP0
import Derived.Test.YtpgpjgdcfhodgaaGreatDoorXA
namespace Go.Proofs.YtpgpjgdcfhodgaaGreatDoor.P
set_option linter.unusedVariables false
set_option linter.unusedSimpArgs false
open Go.RowKit Go.Lib Go.Proofs.YtpgpjgdcfhodgaaGreatDoorW.PrintWords Go.Proofs.YtpgpjgdcfhodgaaGreatDoorW.PrintLast Go.Proofs.YtpgpjgdcfhodgaaGreatDoorW.PrintMore

/-- A new table's cells, with its list of texts. -/
noncomputable def rpZ (v : Value) : Array Value := (Tryz.zeroCells92.toList.set 256 v).toArray
theorem rp_zero : Tryz.zeroCells92.toList = List.replicate 257 (Value.slice none 0 0) := by kernel_rfl
theorem rp_set (n : Nat) (a v : Value) : (List.replicate (n + 1) a).set n v = List.replicate n a ++ [v] := by
  induction n with
  | zero => rfl
  | succ n ih => rw [List.replicate_succ, List.set_cons_succ, ih]; rfl
theorem rpZ_is (v : Value) : rpZ v = ((List.replicate 256 (Value.slice none 0 0)) ++ [v]).toArray := by
  unfold rpZ
  rw [rp_zero, rp_set]
theorem rpZ_size (v : Value) : (rpZ v).size = 257 := by rw [rpZ_is, List.size_toArray, List.length_append, List.length_replicate]; rfl
theorem rp_new (W : World) (o : Obj) (v : Value) (hv : v.oneCell' = true) :
    (storeCells ⟨W.heap.size + 1, 0, none⟩ (Tryz.zeroCells92.toList.set 256 v) 0).run Tryz.prog ((W.alloc o).alloc (.cells Tryz.zeroCells92 92)) = .ok () ((W.alloc o).alloc (.cells (rpZ v) 92)) := by
  have h := run_storeCells_new (P := Tryz.prog) (W.alloc o) 92 Tryz.zeroCells92 (rpZ v) (by rw [rpZ_size]; kernel_rfl) (by rw [rpZ_size]; kernel_rfl) (by
    rw [rpZ_is]
    simp only [List.all_toArray, List.all_append, List.all_replicate, List.all_cons, List.all_nil, hv, Bool.and_true]
    rfl)
  have e : (rpZ v).toList = Tryz.zeroCells92.toList.set 256 v := rfl
  rw [e] at h
  simpa using h

/-- All but one block is as it was. -/
structure Stp (W W' : World) (g : Nat) : Prop where
  os : W'.os = W.os
  tape : W'.tape = W.tape
  output : W'.output = W.output
  size : W.heap.size ≤ W'.heap.size
  block : ∀ k, k < W.heap.size → k ≠ g → W'.heap[k]? = W.heap[k]?
theorem Stp.below {w W W' : World} {g : Nat} (s : Stp W W' g) (h : Below w.heap.size w W) (hg : w.heap.size ≤ g) : Below w.heap.size w W' :=
  h.trans ⟨s.os, s.tape, s.output, s.size, fun k hk => s.block k (Nat.lt_of_lt_of_le hk h.size) (by omega)⟩
theorem Stp.row {W W' : World} {g k : Nat} {o : Obj} (s : Stp W W' g) (h : W.heap[k]? = some o) (hk : k ≠ g) : W'.heap[k]? = some o :=
  (s.block k (Array.getElem?_eq_some_iff.1 h).1 hk).trans h
theorem Stp.cell {W W' : World} {g : Nat} {a : Addr} {v : Value} (s : Stp W W' g) (h : W.cell? a = some v) (hk : a.block ≠ g) : W'.cell? a = some v := by
  have hb := World.block_lt_of_cell? _ _ h
  rw [← h]
  unfold World.cell?
  rw [s.block a.block hb hk]
/-- One text more in a list that has room. -/
theorem rp_app (W : World) (T : Nat) (cur : Array Value) (hT : W.heap[T]? = some (.cells cur 9 (0, 0))) (n : Nat) (hn : n < 2) (hsz : cur.size = 2) (x : Value) (b : ByteArray) :
    ∃ W3, (Builtin.append_ #[52, 52] 52 #[.slice (some ⟨T, 0, none⟩) n 2, .slice (some ⟨W.heap.size + 1, 0, none⟩) 1 1]).run Tryz.prog ((W.alloc (.cells #[x] 5)).alloc (.cells #[.string b] 9)) = .ok (.slice (some ⟨T, 0, none⟩) (n + 1) 2) W3 ∧
      W3.heap[T]? = some (.cells (cur.setIfInBounds n (.string b)) 9 (0, 0)) ∧ Stp W W3 T := by
  have hTl : T < W.heap.size := (Array.getElem?_eq_some_iff.1 hT).1
  obtain ⟨i, hi, he⟩ := Option.map_eq_some_iff.1 (show (Tryz.prog.info? 9).map (fun i => i.size) = some 1 by kernel_rfl)
  have hT2 : ((W.alloc (.cells #[x] 5)).alloc (.cells #[.string b] 9)).heap[T]? = some (.cells cur 9 (0, 0)) := blk_alloc (blk_alloc hT _) _
  have hN : ((W.alloc (.cells #[x] 5)).alloc (.cells #[.string b] 9)).heap[W.heap.size + 1]? = some (.cells #[.string b] 9 (0, 0)) := by
    have h := heap_alloc_last (W.alloc (.cells #[x] 5)) (.cells #[.string b] 9)
    rw [World.size_alloc] at h
    exact h
  have h := run_append_room (P := Tryz.prog) ((W.alloc (.cells #[x] 5)).alloc (.cells #[.string b] 9)) 52 52 9 i Tryz.underlying52 hi T n 2 cur hT2
    ⟨W.heap.size + 1, 0, none⟩ 1 1 [.string b] (by rw [he]; rfl) (fun j u hj => by
      cases j with
      | zero =>
        obtain rfl := Option.some.inj hj
        exact (blk_cell hN 0)
      | succ j => cases hj) (by intro u hu; rw [List.mem_singleton.1 hu]; rfl) (by omega) (by rw [he, hsz]; simp only [List.length_cons, List.length_nil]; omega)
  refine ⟨_, h, ?_, ?_⟩
  · rw [setRow_heap _ T cur _ _ _ hT2, he, Nat.mul_one]
    have e : (cur.toList.take n ++ [Value.string b] ++ cur.toList.drop (n + [Value.string b].length)).toArray = cur.setIfInBounds n (.string b) := by
      apply Array.toList_inj.1
      rw [Array.toList_setIfInBounds, List.set_eq_take_append_cons_drop, if_pos (by rw [Array.length_toList]; omega)]
      simp
    rw [e]
  · refine ⟨rfl, rfl, rfl, by rw [setRow_size, World.size_alloc, World.size_alloc]; omega, fun k hk hkT => ?_⟩
    rw [setRow_other _ T k _ hkT, Below.heap_alloc _ _ _ (by rw [World.size_alloc]; omega), Below.heap_alloc _ _ _ hk]
/-- A text as bytes: a new row. -/
theorem rp_conv (W : World) (s : ByteArray) : ∃ W4 c, (convert 9 22 (.string s)).run Tryz.prog W = .ok (.slice (some ⟨W.heap.size, 0, none⟩) s.size c) W4 ∧ (∀ j, j < s.size → W4.cell? ⟨W.heap.size, j, none⟩ = some (.int .u8 (s.data.toList.getD j 0).toNat)) ∧
    W4.heap.size = W.heap.size + 1 ∧ ∀ g, Stp W W4 g := by
  refine ⟨_, _, Lib.run_convert_string_bytes W 9 22 5 s Tryz.underlying9 Tryz.underlying22 Tryz.underlying5, fun j hj => Lib.bytesWorld_cell W _ s j hj, Lib.bytesWorld_size W _ s, fun g => ⟨rfl, rfl, rfl, by rw [Lib.bytesWorld_size]; omega, fun k hk _ => Lib.bytesWorld_at_old W _ s k hk⟩⟩
/-- A new byte's row, as a text. -/
theorem rp_char (W : World) (b : UInt8) : (convert 22 9 (.slice (some ⟨W.heap.size, 0, none⟩) 1 1)).run Tryz.prog (W.alloc (.cells #[.int .u8 (b.toNat : Int)] 5)) = .ok (.string ⟨#[b]⟩) (W.alloc (.cells #[.int .u8 (b.toNat : Int)] 5)) :=
  run_convert_bytes_back (W.alloc (.cells #[.int .u8 (b.toNat : Int)] 5)) 22 9 5 ⟨W.heap.size, 0, none⟩ 1 [b] Tryz.underlying22 Tryz.underlying5 Tryz.underlying9 (fun j hj => by
    cases j with
    | zero => exact blk_cell (heap_alloc_last W _) 0
    | succ j => exact absurd hj (by simp))
theorem Stp.set {W W' : World} {g : Nat} (s : Stp W W' g) (i : Nat) (v : Value) : Stp W (W'.setCell ⟨g, i, none⟩ v) g :=
  ⟨s.os, s.tape, s.output, by simpa [World.setCell] using s.size, fun k hk hkg => (Below.heap_setCell W' ⟨g, i, none⟩ v k hkg).trans (s.block k hk hkg)⟩

/-- A table, and the texts that it replaces: what stands where, behind so many rounds (of the last text first). -/
def RpAt (w : World) (T R : Nat) (kk : Nat) (W : World) : Prop :=
  Below w.heap.size w W ∧ w.heap.size ≤ T ∧ w.heap.size ≤ R ∧ T ≠ R ∧
  if kk = 0 then W.heap[T]? = some (.cells #[.string ⟨#[]⟩, .string ⟨#[]⟩] 9 (0, 0)) ∧ W.heap[R]? = some (.cells (rpZ (.slice (some ⟨T, 0, none⟩) 0 2)) 92 (0, 0))
  else if kk = 1 then W.heap[T]? = some (.cells #[.string ⟨#[92]⟩, .string ⟨#[]⟩] 9 (0, 0)) ∧ ∃ Y cy, w.heap.size ≤ Y ∧ W.heap[R]? = some (.cells ((rpZ (.slice (some ⟨T, 0, none⟩) 1 2)).setIfInBounds 92 (.slice (some ⟨Y, 0, none⟩) 2 cy)) 92 (0, 0)) ∧
    W.cell? ⟨Y, 0, none⟩ = some (.int .u8 92) ∧ W.cell? ⟨Y, 1, none⟩ = some (.int .u8 92)
  else W.heap[T]? = some (.cells #[.string ⟨#[92]⟩, .string ⟨#[34]⟩] 9 (0, 0)) ∧ ∃ Y cy X cx, w.heap.size ≤ Y ∧ w.heap.size ≤ X ∧ W.heap[R]? = some (.cells (((rpZ (.slice (some ⟨T, 0, none⟩) 2 2)).setIfInBounds 92 (.slice (some ⟨Y, 0, none⟩) 2 cy)).setIfInBounds 34 (.slice (some ⟨X, 0, none⟩) 2 cx)) 92 (0, 0)) ∧
    W.cell? ⟨Y, 0, none⟩ = some (.int .u8 92) ∧ W.cell? ⟨Y, 1, none⟩ = some (.int .u8 92) ∧ W.cell? ⟨X, 0, none⟩ = some (.int .u8 92) ∧ W.cell? ⟨X, 1, none⟩ = some (.int .u8 34)
theorem rpZ_at (v : Value) (i : Nat) (h : i < 256) : (rpZ v)[i]? = some (Value.slice none 0 0) := by
  rw [rpZ_is, List.getElem?_toArray, List.getElem?_append_left (by rw [List.length_replicate]; exact h), List.getElem?_replicate, if_pos h]
theorem rpZ_last (v : Value) : (rpZ v)[256]? = some v := by
  rw [rpZ_is, List.getElem?_toArray, List.getElem?_append_right (by rw [List.length_replicate]; exact Nat.le_refl _), List.length_replicate]
  rfl

theorem rp_append_event {P : Program} {ops : Array Oper} {Q : Exit → Act → World → Prop} {rest : List Oper} {o : Oper} {a : Act} {W W3 : World} (s x : Operand) (t : TypeId) {v1 v2 v3 : Value} (hrun : (Builtin.append_ #[t, t] o.type #[v1, v2]).run P W = .ok v3 W3)
    (hg : o.guard = none) (hop : o.op = Op.call { callee := Callee.builtin Builtin.append, args := #[s, x], argTypes := #[t, t] }) (hs : a.eval s = v1) (hx : a.eval x = v2) (h : wpList P ops Q rest (a.put o.dst v3) W3) : wpList P ops Q (o :: rest) a W := by
  refine Kd.event_run hg ?_ h
  simp [execOp, hop, resolve, invoke, builtin, hs, hx, hrun, Result.andThen]
theorem rpZ_again (a b : Value) : (rpZ a).setIfInBounds 256 b = rpZ b := by
  apply Array.toList_inj.1
  rw [Array.toList_setIfInBounds, rpZ_is, rpZ_is, List.toList_toArray, List.toList_toArray, List.set_append_right _ _ (by rw [List.length_replicate]; exact Nat.le_refl _), List.length_replicate]
  rfl

set_option maxRecDepth 100000 in
set_option maxHeartbeats 8000000 in
theorem rp_build (g B C : Nat) (x0 x1 x2 x3 : Value) (w : World) (hg : w.heap[g]? = some (.cells #[x0, x1, x2, x3, .slice (some ⟨B, 0, none⟩) 4 C] 68 (0, 0)))
    (h0 : w.cell? ⟨B, 0, none⟩ = some (.string ⟨#[34]⟩)) (h1 : w.cell? ⟨B, 1, none⟩ = some (.string ⟨#[92, 34]⟩)) (h2 : w.cell? ⟨B, 2, none⟩ = some (.string ⟨#[92]⟩)) (h3 : w.cell? ⟨B, 3, none⟩ = some (.string ⟨#[92, 92]⟩)) :
    Calls Tryz.prog 62 #[.pointer (some ⟨g, 0, none⟩)] w fun e w' => ∃ T R, e = .returned (.iface 93 (.pointer (some ⟨R, 0, none⟩))) ∧ RpAt w T R 2 w' := by
  have HG := Aside0.mk hg
  have hmk : ∀ W : World, (Instr.makeSlice 52 (.int .i64 0) (.int .i64 2)).run Tryz.prog W = .ok (.slice (some ⟨W.heap.size, 0, none⟩) 0 2) (W.alloc (.cells #[.string ⟨#[]⟩, .string ⟨#[]⟩] 9)) := fun W => by
    obtain ⟨i, hi, he⟩ := Option.map_eq_some_iff.1 (show (Tryz.prog.info? 9).map (fun i => (i.zero, i.size, i.bytes)) = some (some (.string ⟨#[]⟩), 1, 16) by kernel_rfl)
    simp only [Prod.mk.injEq] at he
    obtain ⟨e1, e2, e3⟩ := he
    have h := run_make W 52 9 i (.string ⟨#[]⟩) Tryz.underlying52 hi e1 .i64 .i64 0 2 (by decide) (by decide) (by rw [e3]; decide) (by decide)
    rw [e2] at h
    have e : madeCells (Value.string ⟨#[]⟩).cells ((2 : Int).toNat * 1) = #[.string ⟨#[]⟩, .string ⟨#[]⟩] := by kernel_rfl
    rw [e] at h
    exact h
  have hnw : ∀ (W : World) (o : Obj) (T : Addr) (n m : Nat), _ := fun W o T n m => rp_new W o (.slice (some T) n m) rfl
  have hnil : ∀ W : World, (binOp .eql 22 (.slice none 0 0) (.slice none 0 0)).run Tryz.prog W = .ok (.bool true) W := fun W => by kernel_rfl
  have e92 : ∀ h, ((⟨#[92]⟩ : ByteArray)[0]'h).toNat = 92 := fun _ => rfl
  have e34 : ∀ h, ((⟨#[34]⟩ : ByteArray)[0]'h).toNat = 34 := fun _ => rfl
  have c4 : w.cell? ⟨g, 4, none⟩ = some (.slice (some ⟨B, 0, none⟩) 4 C) := bc HG 4
  go_enter Tryz.func62, Tryz.ntmps62
  go_wp2
  go_loopg [5, 4] 2 (fun gg v5 v4 wr => ∃ kk : Nat, kk ≤ 2 ∧ 2 - kk ≤ gg ∧ v5 = .int .i64 (2 * kk : Int) ∧ v4 = .bool (decide (kk = 0)) ∧ wr = w)
  case atStart => exact ⟨0, by omega, by omega, rfl, rfl, rfl⟩
  case round =>
    obtain ⟨kk, hk, hgg, rfl, rfl, hw⟩ := hrel
    obtain rfl : w = wr := hw.symm
    have hkk : kk = 0 ∨ kk = 1 ∨ kk = 2 := by omega
    rcases hkk with rfl | rfl | rfl
    · go_wp2
      go_roundg 1
      case measure => omega
      case rel => exact ⟨1, by omega, by omega, rfl, rfl, rfl⟩
    · go_wp2
      go_roundg 0
      case measure => omega
      case rel => exact ⟨2, by omega, by omega, rfl, rfl, rfl⟩
    · go_wp2
      go_loopg [12] 2 (fun gg v12 wr => ∃ kk : Nat, kk ≤ 2 ∧ 2 - kk ≤ gg ∧ v12 = .int .i64 (2 - 2 * (kk : Int)) ∧ Aside0 (RpAt w w.heap.size (w.heap.size + 1) kk wr))
      case atStart =>
        refine ⟨0, by omega, by omega, rfl, ⟨?_, Nat.le_refl _, by omega, by omega, ?_⟩⟩
        · exact below_alloc (below_alloc (Below.refl _ _) _) _
        · rw [if_pos rfl]
          refine ⟨blk_alloc (heap_alloc_last w _) _, ?_⟩
          have h := heap_alloc_last (w.alloc (.cells #[.string ⟨#[]⟩, .string ⟨#[]⟩] 9)) (.cells (rpZ (.slice (some ⟨w.heap.size, 0, none⟩) 0 2)) 92)
          rw [World.size_alloc] at h
          exact h
      case round =>
        obtain ⟨kk, hk, hgg, rfl, HR⟩ := hrel
        have hkk : kk = 0 ∨ kk = 1 ∨ kk = 2 := by omega
        rcases hkk with rfl | rfl | rfl
        · obtain ⟨hB, hT, hR, hTR, hq⟩ := HR.out
          rw [if_pos rfl] at hq
          obtain ⟨hqT, hqR⟩ := hq
          have b2 := (hB.cell (World.block_lt_of_cell? _ _ h2)).trans h2
          have b3 := (hB.cell (World.block_lt_of_cell? _ _ h3)).trans h3
          have r92 : wr.cell? ⟨w.heap.size + 1, 92, none⟩ = some (.slice none 0 0) := (blk_cell hqR 92).trans (rpZ_at _ 92 (by decide))
          have r256 : wr.cell? ⟨w.heap.size + 1, 256, none⟩ = some (.slice (some ⟨w.heap.size, 0, none⟩) 0 2) := (blk_cell hqR 256).trans (rpZ_last _)
          obtain ⟨W3, happ, hT3, hS3⟩ := rp_app wr w.heap.size _ hqT 0 (by decide) rfl (.int .u8 92) ⟨#[92]⟩
          have hch : (convert 22 9 (.slice (some ⟨wr.heap.size, 0, none⟩) 1 1)).run Tryz.prog (wr.alloc (.cells #[.int .u8 92] 5)) = .ok (.string ⟨#[92]⟩) (wr.alloc (.cells #[.int .u8 92] 5)) := rp_char wr 92
          have hR3 := hS3.row hqR hTR.symm
          have q256 : W3.cell? ⟨w.heap.size + 1, 256, none⟩ = some (.slice (some ⟨w.heap.size, 0, none⟩) 0 2) := (blk_cell hR3 256).trans (rpZ_last _)
          have z256 := blk_frozen hR3 256
          obtain ⟨W4, c4, hcv, hcc, hsz, hS4⟩ := rp_conv (W3.setCell ⟨w.heap.size + 1, 256, none⟩ (.slice (some ⟨w.heap.size, 0, none⟩) 1 2)) ⟨#[92, 92]⟩
          have hR4 : W4.heap[w.heap.size + 1]? = some (.cells (rpZ (.slice (some ⟨w.heap.size, 0, none⟩) 1 2)) 92 (0, 0)) := (hS4 w.heap.size).row (blk_put hR3 256 _ (rpZ_again _ _)) hTR.symm
          have q92 : W4.cell? ⟨w.heap.size + 1, 92, none⟩ = some (.slice none 0 0) := (blk_cell hR4 92).trans (rpZ_at _ 92 (by decide))
          have z92 := blk_frozen hR4 92
          have HK := Aside0.mk (And.intro hqT (And.intro hR3 (And.intro hT3 (And.intro hS3 (And.intro hcc (And.intro hsz (And.intro hS4 hR4)))))))
          clear hqT hR3 hT3 hS3 hcc hsz hS4 hR4 hqR
          have HP := Aside0.mk happ
          clear happ
          go_wp2_with ((with_reducible refine gate_dst (N := 124) rfl ?_); (refine rp_append_event (.tmp 119) (.tmp 123) 52 HP.out rfl rfl rfl rfl ?_))
          go_wp2
          go_roundg 1
          case measure => omega
          case rel =>
            obtain ⟨hqT, hR3, hT3, hS3, hcc, hsz, hS4, hR4⟩ := HK.out
            have hs3 : (W3.setCell ⟨w.heap.size + 1, 256, none⟩ (.slice (some ⟨w.heap.size, 0, none⟩) 1 2)).heap.size = W3.heap.size := by simp [World.setCell]
            rw [hs3] at hcc hsz
            have hRl : w.heap.size + 1 < W3.heap.size := (Array.getElem?_eq_some_iff.1 hR3).1
            have cY : ∀ j x, W4.cell? ⟨W3.heap.size, j, none⟩ = some x → (W4.setCell ⟨w.heap.size + 1, 92, none⟩ (.slice (some ⟨W3.heap.size, 0, none⟩) 2 c4)).cell? ⟨W3.heap.size, j, none⟩ = some x := fun j x h =>
              (World.cell?_setCell_other W4 ⟨w.heap.size + 1, 92, none⟩ ⟨W3.heap.size, j, none⟩ _ (by intro e; injection e with e1; omega)).trans h
            refine ⟨1, by omega, by omega, rfl, ⟨below_set ((hS4 w.heap.size).below (below_set (hS3.below hB hT) hR) hT) hR, hT, hR, hTR, ?_⟩⟩
            rw [if_neg (by decide), if_pos rfl]
            exact ⟨blk_far ((hS4 (w.heap.size + 1)).row (blk_far hT3 hTR _) hTR) hTR _, W3.heap.size, c4, by omega, blk_put hR4 92 _ rfl, cY 0 _ (hcc 0 (by decide)), cY 1 _ (hcc 1 (by decide))⟩
        · obtain ⟨hB, hT, hR, hTR, hq⟩ := HR.out
          rw [if_neg (by decide), if_pos rfl] at hq
          obtain ⟨hqT, Y, cy, hYb, hqR, hY0, hY1⟩ := hq
          have b0 := (hB.cell (World.block_lt_of_cell? _ _ h0)).trans h0
          have b1 := (hB.cell (World.block_lt_of_cell? _ _ h1)).trans h1
          have zR : ∀ i v u, ((rpZ v).setIfInBounds 92 u)[i]? = if i = 92 then some u else (rpZ v)[i]? := fun i v u => by
            rw [Array.getElem?_setIfInBounds, rpZ_size]
            by_cases e : i = 92
            · rw [if_pos e.symm, if_pos e, if_pos (by decide)]
            · rw [if_neg (fun x => e x.symm), if_neg e]
          have r34 : wr.cell? ⟨w.heap.size + 1, 34, none⟩ = some (.slice none 0 0) := (blk_cell hqR 34).trans ((zR _ _ _).trans ((if_neg (by decide)).trans (rpZ_at _ 34 (by decide))))
          have r256 : wr.cell? ⟨w.heap.size + 1, 256, none⟩ = some (.slice (some ⟨w.heap.size, 0, none⟩) 1 2) := (blk_cell hqR 256).trans ((zR _ _ _).trans ((if_neg (by decide)).trans (rpZ_last _)))
          obtain ⟨W3, happ, hT3, hS3⟩ := rp_app wr w.heap.size _ hqT 1 (by decide) rfl (.int .u8 34) ⟨#[34]⟩
          have hch : (convert 22 9 (.slice (some ⟨wr.heap.size, 0, none⟩) 1 1)).run Tryz.prog (wr.alloc (.cells #[.int .u8 34] 5)) = .ok (.string ⟨#[34]⟩) (wr.alloc (.cells #[.int .u8 34] 5)) := rp_char wr 34
          have hR3 := hS3.row hqR hTR.symm
          have q256 : W3.cell? ⟨w.heap.size + 1, 256, none⟩ = some (.slice (some ⟨w.heap.size, 0, none⟩) 1 2) := (blk_cell hR3 256).trans ((zR _ _ _).trans ((if_neg (by decide)).trans (rpZ_last _)))
          have z256 := blk_frozen hR3 256
          obtain ⟨W4, c4, hcv, hcc, hsz, hS4⟩ := rp_conv (W3.setCell ⟨w.heap.size + 1, 256, none⟩ (.slice (some ⟨w.heap.size, 0, none⟩) 2 2)) ⟨#[92, 34]⟩
          have hR4 : W4.heap[w.heap.size + 1]? = some (.cells ((rpZ (.slice (some ⟨w.heap.size, 0, none⟩) 2 2)).setIfInBounds 92 (.slice (some ⟨Y, 0, none⟩) 2 cy)) 92 (0, 0)) :=
            (hS4 w.heap.size).row (blk_put hR3 256 _ (by rw [Array.setIfInBounds_comm _ _ (by decide), rpZ_again])) hTR.symm
          have q34 : W4.cell? ⟨w.heap.size + 1, 34, none⟩ = some (.slice none 0 0) := (blk_cell hR4 34).trans ((zR _ _ _).trans ((if_neg (by decide)).trans (rpZ_at _ 34 (by decide))))
          have z34 := blk_frozen hR4 34
          have HK := Aside0.mk (And.intro hqT (And.intro hR3 (And.intro hT3 (And.intro hS3 (And.intro hcc (And.intro hsz (And.intro hS4 (And.intro hR4 (And.intro hqR (And.intro hY0 hY1))))))))))
          clear hqT hR3 hT3 hS3 hcc hsz hS4 hR4 hqR hY0 hY1
          have HP := Aside0.mk happ
          clear happ
          go_wp2_with ((with_reducible refine gate_dst (N := 124) rfl ?_); (refine rp_append_event (.tmp 119) (.tmp 123) 52 HP.out rfl rfl rfl rfl ?_))
          go_wp2
          go_roundg 0
          case measure => omega
          case rel =>
            obtain ⟨hqT, hR3, hT3, hS3, hcc, hsz, hS4, hR4, hqR, hY0, hY1⟩ := HK.out
            have hs3 : (W3.setCell ⟨w.heap.size + 1, 256, none⟩ (.slice (some ⟨w.heap.size, 0, none⟩) 2 2)).heap.size = W3.heap.size := by simp [World.setCell]
            rw [hs3] at hcc hsz
            have hRl : w.heap.size + 1 < W3.heap.size := (Array.getElem?_eq_some_iff.1 hR3).1
            have cX : ∀ B2 j x, B2 ≠ w.heap.size + 1 → W4.cell? ⟨B2, j, none⟩ = some x → (W4.setCell ⟨w.heap.size + 1, 34, none⟩ (.slice (some ⟨W3.heap.size, 0, none⟩) 2 c4)).cell? ⟨B2, j, none⟩ = some x := fun B2 j x hne h =>
              (World.cell?_setCell_other W4 ⟨w.heap.size + 1, 34, none⟩ ⟨B2, j, none⟩ _ (by intro e; injection e with e1; omega)).trans h
            have hYT : Y ≠ w.heap.size := fun e => by
              rw [e, blk_cell hqT 0] at hY0
              cases hY0
            have hYR : Y ≠ w.heap.size + 1 := fun e => by
              rw [e, blk_cell hqR 0, zR, if_neg (by decide), rpZ_at _ 0 (by decide)] at hY0
              cases hY0
            have cY : ∀ j x, wr.cell? ⟨Y, j, none⟩ = some x → W4.cell? ⟨Y, j, none⟩ = some x := fun j x h =>
              (hS4 w.heap.size).cell ((World.cell?_setCell_other W3 ⟨w.heap.size + 1, 256, none⟩ ⟨Y, j, none⟩ _ (by intro e; injection e with e1; omega)).trans (hS3.cell h hYT)) hYT
            refine ⟨2, by omega, by omega, rfl, ⟨below_set ((hS4 w.heap.size).below (below_set (hS3.below hB hT) hR) hT) hR, hT, hR, hTR, ?_⟩⟩
            rw [if_neg (by decide), if_neg (by decide)]
            exact ⟨blk_far ((hS4 (w.heap.size + 1)).row (blk_far hT3 hTR _) hTR) hTR _, Y, cy, W3.heap.size, c4, hYb, by omega, blk_put hR4 34 _ rfl, cX Y 0 _ hYR (cY 0 _ hY0), cX Y 1 _ hYR (cY 1 _ hY1), cX _ 0 _ (by omega) (hcc 0 (by decide)), cX _ 1 _ (by omega) (hcc 1 (by decide))⟩
        · go_wp2
          go_ret
          exact ⟨w.heap.size, w.heap.size + 1, rfl, HR.out⟩
/-- A table as it is in the end, in blocks from B0 on. -/
def RpTab (B0 T R : Nat) (W : World) : Prop :=
  B0 ≤ T ∧ B0 ≤ R ∧ W.heap[T]? = some (.cells #[.string ⟨#[92]⟩, .string ⟨#[34]⟩] 9 (0, 0)) ∧ ∃ Y cy X cx, B0 ≤ Y ∧ B0 ≤ X ∧ W.heap[R]? = some (.cells (((rpZ (.slice (some ⟨T, 0, none⟩) 2 2)).setIfInBounds 92 (.slice (some ⟨Y, 0, none⟩) 2 cy)).setIfInBounds 34 (.slice (some ⟨X, 0, none⟩) 2 cx)) 92 (0, 0)) ∧
    W.cell? ⟨Y, 0, none⟩ = some (.int .u8 92) ∧ W.cell? ⟨Y, 1, none⟩ = some (.int .u8 92) ∧ W.cell? ⟨X, 0, none⟩ = some (.int .u8 92) ∧ W.cell? ⟨X, 1, none⟩ = some (.int .u8 34)
theorem RpAt.tab {w W : World} {T R : Nat} (h : RpAt w T R 2 W) : RpTab w.heap.size T R W := by
  obtain ⟨-, hT, hR, -, hq⟩ := h
  rw [if_neg (by decide), if_neg (by decide)] at hq
  obtain ⟨q1, Y, cy, X, cx, q2, q3, q4, q5⟩ := hq
  exact ⟨hT, hR, q1, Y, cy, X, cx, q2, q3, q4, q5⟩
theorem RpTab.keep {B0 T R : Nat} {W W' : World} (h : RpTab B0 T R W) (hk : ∀ k, B0 ≤ k → k < W.heap.size → W'.heap[k]? = W.heap[k]?) : RpTab B0 T R W' := by
  obtain ⟨hT, hR, q1, Y, cy, X, cx, hY, hX, q2, y0, y1, x0, x1⟩ := h
  have row : ∀ k o, B0 ≤ k → W.heap[k]? = some o → W'.heap[k]? = some o := fun k o hb hh => (hk k hb (Array.getElem?_eq_some_iff.1 hh).1).trans hh
  have cell : ∀ k j v, B0 ≤ k → W.cell? ⟨k, j, none⟩ = some v → W'.cell? ⟨k, j, none⟩ = some v := fun k j v hb hh => by
    have hl := World.block_lt_of_cell? _ _ hh
    rw [← hh]
    unfold World.cell?
    rw [hk k hb hl]
  exact ⟨hT, hR, row _ _ hT q1, Y, cy, X, cx, hY, hX, row _ _ hR q2, cell _ _ _ hY y0, cell _ _ _ hY y1, cell _ _ _ hX x0, cell _ _ _ hX x1⟩
end Go.Proofs.YtpgpjgdcfhodgaaGreatDoor.P
