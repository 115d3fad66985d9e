/- Functions of the Go program as Lean functions, and proofs about them, merged out of this session's texts by its program bundle.py; conditions: those that each theorem states. -/
import Derived.Deep.RegionLaw
import Derived.Handed
import Derived.HandedShaped
import Derived.Laws.BitsLemmas
import Derived.Laws.BytesArg
import Derived.Laws.Externs
import Derived.Laws.IdiomCopy
import Derived.Lib.AppendStr
import Derived.Lib.BufferMore
import Derived.Lib.Builder
import Derived.Lib.ConvBytes
import Derived.Lib.Hide
import Derived.Lib.LaidTab
import Derived.Lib.Strings
import Derived.Lib.UnsafeStr
import Derived.MakeChecks
import Derived.Shelf.Vars
import Derived.Test.YtfbgpjhnjdhpcaaDoorP0
import Derived.Test.YtfbgpjhnjdhpcaaDoorPimplChunkereat
import Derived.Test.YtfbgpjhnjdhpcaaDoorPspecChunked
import Derived.Test.YtfbgpjhnjdhpcaaDoorPspecChunkerOk
import Derived.Test.YtfbgpjhnjdhpcaaDoorPspecHex
import Derived.Test.YtfbgpjhnjdhpcaaDoorPspecl1Below
import Derived.Test.YtfbgpjhnjdhpcaaDoorPspecl1Byte
import Derived.Test.YtfbgpjhnjdhpcaaDoorPspecl1DrawText
import Derived.Test.YtfbgpjhnjdhpcaaDoorPspecl1In
import Derived.Test.YtfbgpjhnjdhpcaaDoorPspecl1New
import Derived.Test.YtfbgpjhnjdhpcaaDoorPspecl1Once
import Derived.Test.YtfbgpjhnjdhpcaaDoorPspecl5DrawParts
import Derived.Test.YtfbgpjhnjdhpcaaDoorPspecl5Eat
import Derived.Test.YtfbgpjhnjdhpcaaDoorShelf
import Derived.Test.YtfbgpjhnjdhpcaaDoorXA
import Derived.Test.YtfbgpjhnjdhpcaaDoorXW
namespace Go.Proofs.YtfbgpjhnjdhpcaaDoor.RowAid
open Go
variable {H : Type} {enc : TypeId × Value → H}
theorem handed_both {a : Assume} {C : Checked} {os : Os} {f : FuncId} {fn : Func} {s : ChangeSpec} {conds : List PathCond} {apart fresh handsOn again : Bool} {X : World → Array Value → Prop}
    (hX : ∀ (w w' : World) (args : Array Value), w.heap = w'.heap → X w args → X w' args)
    (own : ownKnob C.prog.godebug = none) (started : os.Started) (noInit : C.prog.inits.idxOf? f = none) (hfn : C.prog.funcs[f]? = some fn)
    (witness : ∃ (w : World) (tape : Tape) (i : Input), w.os = os ∧ (w.forCall tape i).Shaped C.prog ∧ i.vars = [] ∧ Input.okWide C.prog (w.forCall tape i) .any w.heap.size f i ∧
      ((s.pre enc C.prog fn conds apart (w.forCall tape i).memory i.args ∧ X (w.forCall tape i).memory i.args) ∧ sizedMet enc C.prog fn (OpenSpec.ofChange s) apart (w.forCall tape i).memory i.args) ∧ a.holds C.prog (lone (Frame.enter C.prog f i.args .normal) [] (w.forCall tape i)))
    (contract : ∀ (W : World) (base : Nat) (args : Array Value) (ds gs : List (DataW H)) (before : List MemPlace),
      (∀ (j : Nat) t v, fn.params[j]? = some t → args[j]? = some v → Value.okWide C.prog W .any base t v) →
      DataW.Whole enc C.prog fn.params.toList s.vars apart W args.toList ds gs before →
      conds.all (PathCond.test C.prog ⟨fn.params.toList, ds, s.plain.varTypes C.prog, gs⟩) = true →
      (DataW.weightsEach C.prog (fn.params.toList ++ s.plain.varTypes C.prog) (ds ++ gs)).all (· ≤ reachBytes) = true → X W args → W.ShapedOpen C.prog →
      a.holds C.prog (lone (Frame.enter C.prog f args .normal) [] W) →
      Calls C.prog f args W fun e W' => ∃ v, e = .returned v ∧ s.post enc C.prog fn apart fresh handsOn again W args v W') :
    ReturnsInHanded a C os f .any (fun w args => (s.pre enc C.prog fn conds apart w args ∧ X w args) ∧ sizedMet enc C.prog fn (OpenSpec.ofChange s) apart w args) (s.post enc C.prog fn apart fresh handsOn again) := by
  refine returnsInHanded_of_calls own started noInit witness ?_
  intro w tape i _ hsh _ hok hpre hholds
  obtain ⟨_, _, _, fn', hfn', _, _, _, _, hval⟩ := hok
  have e : fn' = fn := Option.some.inj (hfn'.symm.trans hfn)
  subst e
  obtain ⟨⟨⟨ds, gs, before, hw, hc⟩, hx⟩, hz⟩ := hpre
  have hw' := DataW.Whole.of_heap (w' := w.forCall tape i) (by rfl) hw
  refine (contract (w.forCall tape i) w.heap.size i.args ds gs before hval hw' hc (hz.weights hw) (hX _ _ _ (by rfl) hx) hsh hholds).mono fun e W' ⟨v, he, hp⟩ => ?_
  subst he
  exact ChangeSpec.post_blind hp
end Go.Proofs.YtfbgpjhnjdhpcaaDoor.RowAid
namespace Go.Proofs.YtfbgpjhnjdhpcaaDoor.RowAid
open Go

/-- What a list lays a variable with. -/
def laysAs (laid : List (String × DataW Unit)) (name : String) : Option (DataW Unit) :=
  match laid with
  | [] => none
  | x :: r => if x.1 = name then some x.2 else laysAs r name
theorem tabIs_mem {P : Program} {W : World} {name : String} {k : IntKind} {zs : List Int} {g : Nat} {t e : TypeId} {n : Nat}
    (hg : P.globalNamed name = some g) (hty : (P.globals[g]?).map (·.type) = some t) (ht : P.underlying t = some (.array n e)) (he : P.underlying e = some (.int k)) (hce : P.cellsOf e = 1) (hct : P.cellsOf t = n) :
    ∀ (laid : List (String × DataW Unit)) (ps : List MemPlace), DataW.LaidVars P W laid ps → laysAs laid name = some (Lib.tabData k zs) → Lib.TabIs P W name k zs := by
  intro laid
  induction laid with
  | nil => intro ps _ h; cases h
  | cons x r ih =>
    intro ps hl hm
    obtain ⟨nm, d⟩ := x
    obtain ⟨g', t', cs, fuel, p, q, hg', ht', hvar, hd, hr, _⟩ := hl
    unfold laysAs at hm
    by_cases hn : nm = name
    · subst hn
      rw [if_pos rfl] at hm
      obtain rfl : d = Lib.tabData k zs := Option.some.inj hm
      obtain rfl := Option.some.inj (hg.symm.trans hg')
      obtain rfl := Option.some.inj (hty.symm.trans ht')
      unfold Lib.TabIs
      rw [hvar, ← Lib.cells_of_tab ht he hce hct hd]
    · rw [if_neg hn] at hm
      exact ih q hr hm
theorem xw_of {m : Nat} {W : World} (hS : W.ShapedOpen Tryd.prog) (laid : List (String × DataW Unit)) (hL : laidMetH Tryd.prog laid W) (hp : (laid.all fun x => x.2.handleName?.isNone) = true)
    (h10 : m / 2 % 2 = 1 → laysAs laid "internal/strconv.uint64pow10" = some (Lib.tabData .u64 Lib.pow10Tab)) (htz : m / 4 % 2 = 1 → laysAs laid "math/bits.deBruijn64tab" = some (Lib.tabData .u8 P.deBruijn64Tab)) : P.XW m W := by
  rw [MakeChecks.laidMetH_plain _ _ _ hp] at hL
  obtain ⟨ps, hv, _⟩ := hL
  unfold P.XW
  refine ⟨fun _ => cell_of_shapedOpen_int (zero := #[.int .i64 0]) (t := 3) hS (of_decide_eq_true (by kernel_rfl)) (by kernel_rfl) rfl (by kernel_rfl) (by kernel_rfl) Tryd.underlying3, ?_⟩
  refine ⟨fun h => tabIs_mem (g := 3) (n := 20) (by kernel_rfl) rfl (by kernel_rfl) Tryd.underlying97 (by kernel_rfl) (by kernel_rfl) laid ps hv (h10 h), ?_⟩
  refine ⟨fun h => tabIs_mem (g := 7) (n := 64) (by kernel_rfl) rfl (by kernel_rfl) Tryd.underlying5 (by kernel_rfl) (by kernel_rfl) laid ps hv (htz h), ?_⟩
  trivial
end Go.Proofs.YtfbgpjhnjdhpcaaDoor.RowAid
namespace Go.Proofs.YtfbgpjhnjdhpcaaDoor.P
set_option linter.unusedVariables false
set_option linter.unusedSimpArgs false
open Go.RowKit Go.Lib Go.Proofs.YtfbgpjhnjdhpcaaDoorW.PrintWords Go.Proofs.YtfbgpjhnjdhpcaaDoorW.PrintLast Go.Proofs.YtfbgpjhnjdhpcaaDoorW.PrintMore

/-- A builder that the call has made, holding bytes. -/
abbrev Bld (B b : Nat) (l : List UInt8) (w : World) : Prop := Lib.IsBuilder 62 5 B b (Lib.byteCells l) w
theorem bld_size : (Tryd.prog.info? 62).map (·.size) = some 2 := by kernel_rfl
theorem bld_lies : liesAt Tryd.prog Tryd.prog.depth 62 (2 / Tryd.prog.cellsOf 62) 0 62 1 = true := by kernel_rfl
theorem byte_info : (Tryd.prog.info? 5).map (fun i => (i.zero, i.size, i.bytes)) = some (some (.int .u8 0), 1, 1) := by kernel_rfl

set_option maxHeartbeats 1000000 in
set_option maxRecDepth 100000 in
theorem builder_check_used (b : Nat) (w : World) (h0 : w.cell? ⟨b, 0, none⟩ = some (.pointer (some ⟨b, 0, none⟩))) :
    Calls Tryd.prog 72 #[.pointer (some ⟨b, 0, none⟩)] w fun e w' => e = .returned (.tuple #[]) ∧ w' = w := by
  obtain ⟨j, hj, _⟩ := Option.map_eq_some_iff.1 bld_size
  go_enter Tryd.func72, Tryd.ntmps72
  go_wp2
  rw [Lib.run_neq_ptr_same w _ Tryd.underlying60 hj]
  go_wp2
  go_end0
  exact ⟨rfl, rfl⟩
set_option maxHeartbeats 1000000 in
set_option maxRecDepth 100000 in
theorem builder_check_fresh (b : Nat) (w : World) (h0 : w.cell? ⟨b, 0, none⟩ = some (.pointer none)) (hsh : w.shape? b = some (62, 2)) (hfz : w.frozen? ⟨b, 0, none⟩ = false) :
    Calls Tryd.prog 72 #[.pointer (some ⟨b, 0, none⟩)] w fun e w' => e = .returned (.tuple #[]) ∧ w' = w.setCell ⟨b, 0, none⟩ (.pointer (some ⟨b, 0, none⟩)) := by
  obtain ⟨j, hj, hjs⟩ := Option.map_eq_some_iff.1 bld_size
  go_enter Tryd.func72, Tryd.ntmps72
  go_wp2
  rw [Lib.run_to_unsafe w ⟨b, 0, none⟩ Tryd.underlying60 Tryd.underlying93 hj (by rw [hjs]; decide) hsh (Nat.zero_lt_succ 1)]
  simp only [Result.andThen]
  rw [Oper.upon_value]
  go_wp2
  rw [run_callFunc_extern Tryd.func88 (by kernel_rfl) (by kernel_rfl) (by kernel_rfl) (e := Extern.AbiNoEscape.same) (by kernel_rfl)]
  rw [Lib.run_noEscape]
  simp only [Result.andThen]
  rw [Oper.upon_value]
  go_wp2
  rw [Lib.run_from_unsafe w ⟨b, 0, none⟩ Tryd.underlying93 Tryd.underlying60 hj hsh bld_lies]
  simp only [Result.andThen]
  rw [Oper.upon_value]
  go_wp2
  go_end0
  exact ⟨rfl, rfl⟩
theorem builder_check (B b : Nat) (bs : List Value) (w : World) (h : Lib.IsBuilder 62 5 B b bs w) :
    Calls Tryd.prog 72 #[.pointer (some ⟨b, 0, none⟩)] w fun e w' => e = .returned (.tuple #[]) ∧ (Lib.BuilderAt 62 5 B b (.pointer (some ⟨b, 0, none⟩)) bs w' ∧ Below B w w') := by
  rcases h with h | h
  · refine (builder_check_fresh b w h.cell0 h.shape h.frozen0).mono ?_
    rintro e w' ⟨rfl, rfl⟩
    exact ⟨rfl, h.used _, (Below.refl B w).setCell (p := ⟨b, 0, none⟩) h.1 _⟩
  · refine (builder_check_used b w h.cell0).mono ?_
    rintro e w' ⟨rfl, rfl⟩
    exact ⟨rfl, h, Below.refl B _⟩
set_option maxHeartbeats 2000000 in
set_option maxRecDepth 100000 in
theorem builder_write (B b : Nat) (l : List UInt8) (s : ByteArray) (w : World) (h : Bld B b l w) (hlen : l.length + s.size ≤ 140737488355328) (hBw : B ≤ w.heap.size) :
    Calls Tryd.prog 50 #[.pointer (some ⟨b, 0, none⟩), .string s] w fun e w' => e = .returned (.tuple #[.int .i64 s.size, .nilIface]) ∧ (Bld B b (l ++ s.data.toList) w' ∧ Below B w w') := by
  obtain ⟨i0, hi, hzz⟩ := Option.map_eq_some_iff.1 byte_info
  simp only [Prod.mk.injEq] at hzz
  obtain ⟨hz0, hz1, hz2⟩ := hzz
  have hbl : (Lib.byteCells l).length = l.length := Lib.byteCells_length l
  have hc := builder_check B b (Lib.byteCells l) w h
  clear h
  go_enter Tryd.func50, Tryd.ntmps50
  go_wp2_with (go_at_call 72; refine hc.mono ?_)
  rintro e w1 ⟨rfl, h1, hb1⟩
  obtain ⟨hB, v, hbk, hown, hne⟩ := h1
  have c0 : w1.cell? ⟨b, 0, none⟩ = some (.pointer (some ⟨b, 0, none⟩)) := by rw [Lib.cell_of_heap hbk]; rfl
  have c1 : w1.cell? ⟨b, 1, none⟩ = some v := by rw [Lib.cell_of_heap hbk]; rfl
  go_wp2_with (at_builtin; refine Lib.wpList_append_own_string _ rfl _ _ 22 9 rfl B 5 i0 Tryd.underlying22 Tryd.underlying9 hi hz0 hz1 hz2 _ _ _ rfl hown s rfl ?c3 ?c4 ?c5 ?_)
  case c3 => unfold maxLen; omega
  case c4 => omega
  case c5 => have := hb1.size; omega
  intro v' w2 hown' hgrow _
  have hlt : b < w1.heap.size := by
    rcases Nat.lt_or_ge b w1.heap.size with h' | h'
    · exact h'
    · simp [Array.getElem?_eq_none h'] at hbk
  have hb2 : w2.heap[b]? = some (.cells #[.pointer (some ⟨b, 0, none⟩), v] 62 (0, 0)) := by
    rw [hgrow.block b hlt (fun e => hne e.symm)]
    exact hbk
  have d0 : w2.cell? ⟨b, 0, none⟩ = some (.pointer (some ⟨b, 0, none⟩)) := by rw [Lib.cell_of_heap hb2]; rfl
  have d1 : w2.cell? ⟨b, 1, none⟩ = some v := by rw [Lib.cell_of_heap hb2]; rfl
  have f1 : w2.frozen? ⟨b, 1, none⟩ = false := Lib.frozen_of_heap hb2 1
  obtain ⟨ao, n', cap, rfl⟩ : ∃ ao n' cap, v' = .slice ao n' cap := by
    rcases hown'.2 with ⟨hv, _⟩ | ⟨g, cap, cur, hv, _⟩
    · exact ⟨_, _, _, hv⟩
    · exact ⟨_, _, _, hv⟩
  go_wp2
  go_ret2
  refine ⟨rfl, .inr ?_, ?_⟩
  · rw [Lib.byteCells_append, ← Lib.strCells_eq]
    exact Lib.BuilderAt.put (T := 62) (e := 5) hB hb2 (bs' := Lib.byteCells l ++ Lib.strCells s) (by simpa [Lib.strCells_length, Lib.byteCells_length] using hown') (by decide)
  · exact (hb1.grown hgrow (by have := hb1.size; omega) (fun k hk => (hown.lt k hk).1)).setCell (p := ⟨b, 1, none⟩) hB _
theorem bld_alloc {B b : Nat} {l : List UInt8} {w : World} (h : Bld B b l w) (o : Obj) : Bld B b l (w.alloc o) := by
  have hk : ∀ p, Lib.BuilderAt 62 5 B b p (Lib.byteCells l) w → Lib.BuilderAt 62 5 B b p (Lib.byteCells l) (w.alloc o) := by
    rintro p ⟨hB, v, hb, hown, hne⟩
    refine ⟨hB, v, ?_, hown.alloc o, hne⟩
    rw [Lib.alloc_old w o b (Lib.BuilderAt.lt ⟨hB, v, hb, hown, hne⟩)]
    exact hb
  exact h.imp (hk _) (hk _)
theorem bld_drew {B b : Nat} {l : List UInt8} {w : World} (h : Bld B b l w) : Bld B b l w.drew := h
theorem bld_below {B b : Nat} {l : List UInt8} {w w' : World} (h : Bld B b l w) (hb : Below w.heap.size w w') : Bld B b l w' := by
  have hk : ∀ p, Lib.BuilderAt 62 5 B b p (Lib.byteCells l) w → Lib.BuilderAt 62 5 B b p (Lib.byteCells l) w' := by
    rintro p ⟨hB, v, hbk, hown, hne⟩
    refine ⟨hB, v, ?_, own_move hown (fun k hk => hb.block k (hown.lt k hk).2), hne⟩
    rw [hb.block b (Lib.BuilderAt.lt ⟨hB, v, hbk, hown, hne⟩)]
    exact hbk
  exact h.imp (hk _) (hk _)
set_option maxHeartbeats 2000000 in
theorem tz16 (w : World) (ht : Lib.TabIs Tryd.prog w "math/bits.deBruijn64tab" .u8 deBruijn64Tab) :
    Calls Tryd.prog 119 #[.int .u64 16] w fun e w' => e = .returned (.int .i64 4) ∧ w' = w := by
  have hc : w.cell? ⟨7, 15, none⟩ = some (.int .u8 4) := (ht.cell (g := 7) (by kernel_rfl) 15 (by decide)).trans rfl
  have h1 : IntKind.u64.wrap (-16) = 18446744073709551600 := by decide
  have h2 : Go.bits .and .u64 16 18446744073709551600 = 16 := by decide +kernel
  have h3 : IntKind.u64.wrap (16 * 285870213051353865) = 4573923408821661840 := by decide
  go_enter Tryd.func119, Tryd.ntmps119
  go_wp2
  go_ret
  exact ⟨rfl, rfl⟩
def digs36 : ByteArray := ⟨#[48, 49, 50, 51, 52, 53, 54, 55, 56, 57, 97, 98, 99, 100, 101, 102, 103, 104, 105, 106, 107, 108, 109, 110, 111, 112, 113, 114, 115, 116, 117, 118, 119, 120, 121, 122]⟩
/-- The cells of the row of digits behind k rounds. -/
def hxAt (n : Nat) (k j : Nat) : Int := if 65 - k ≤ j then bt digs36 ((n / 16 ^ (64 - j) % 16 : Nat) : Int) else 0
def HexCells (w wr : World) (n k : Nat) : Prop :=
  (∀ j, j < 65 → wr.cell? ⟨w.heap.size, j, none⟩ = some (.int .u8 (hxAt n k j))) ∧ (∀ j, j < 65 → wr.frozen? ⟨w.heap.size, j, none⟩ = false) ∧ Below w.heap.size w wr
theorem HexCells.start (w : World) (n : Nat) (t : TypeId) : HexCells w (w.alloc (.cells (Array.replicate 65 (.int .u8 0)) t)) n 0 := by
  refine ⟨fun j hj => ?_, fun j hj => ?_, below_alloc (Below.refl _ _) _⟩
  · rw [World.cell?_alloc_mark]
    unfold hxAt
    rw [if_neg (by omega)]
    simp [hj]
  · have hb : (w.alloc (.cells (Array.replicate 65 (.int .u8 0)) t)).heap[w.heap.size]? = some (.cells (Array.replicate 65 (.int .u8 0)) t (0, 0)) := blk_new w _
    exact Lib.frozen_of_heap hb j
theorem HexCells.put {w wr : World} {n k : Nat} (h : HexCells w wr n k) (hk : k < 65) (c : Int) (e : c = bt digs36 ((n / 16 ^ k % 16 : Nat) : Int)) : HexCells w (wr.setCell ⟨w.heap.size, 64 - k, none⟩ (.int .u8 c)) n (k + 1) :=
  ⟨fun j hj => by
    by_cases h1 : j = 64 - k
    · subst h1
      rw [World.cell?_setCell_same _ _ _ (h.1 _ hj)]
      unfold hxAt
      rw [if_pos (by omega), e, show 64 - (64 - k) = k by omega]
    · rw [World.cell?_setCell_other _ _ _ _ (by intro e2; injection e2 with _ e3; exact h1 e3.symm), h.1 j hj]
      unfold hxAt
      by_cases h2 : 65 - k ≤ j
      · rw [if_pos h2, if_pos (by omega)]
      · rw [if_neg h2, if_neg (by omega)],
   fun j hj => by rw [World.frozen?_setCell]; exact h.2.1 j hj, h.2.2.setCell (Nat.le_refl _) _⟩
/-- The hexadecimal digits of a number, the first ahead. -/
def hexL (n : Nat) : List Int := if h : n < 16 then [bt digs36 (n : Int)] else hexL (n / 16) ++ [bt digs36 ((n % 16 : Nat) : Int)]
termination_by n
decreasing_by omega
theorem hexL_row (n : Nat) : ∀ k, 16 ^ k ≤ n ∨ k = 0 → n < 16 ^ (k + 1) → hexL n = (List.range (k + 1)).map fun t => bt digs36 ((n / 16 ^ (k - t) % 16 : Nat) : Int) := by
  induction n using Nat.strongRecOn with
  | _ n ih =>
    intro k h1 h2
    by_cases h : n < 16
    · have hk : k = 0 := by
        rcases h1 with h1 | h1
        · rcases Nat.eq_zero_or_pos k with h0 | h0
          · exact h0
          · have : 16 ^ 1 ≤ 16 ^ k := Nat.pow_le_pow_right (by decide) h0
            omega
        · exact h1
      subst hk
      rw [hexL, dif_pos h]
      simp
      rw [show (n : Int) % 16 = (n : Int) by omega]
    · obtain ⟨m, rfl⟩ : ∃ m, k = m + 1 := ⟨k - 1, by
        rcases Nat.eq_zero_or_pos k with h0 | h0
        · subst h0; simp at h2; omega
        · omega⟩
      rw [hexL, dif_neg h, ih (n / 16) (by omega) m (by
        rcases h1 with h1 | h1
        · rw [Nat.pow_succ] at h1; exact .inl (by omega)
        · omega) (by rw [Nat.pow_succ] at h2; omega), List.range_succ (n := m + 1), List.map_append]
      congr 1
      · refine List.map_congr_left fun t ht => ?_
        have ht' : t < m + 1 := List.mem_range.1 ht
        rw [show m + 1 - t = (m - t) + 1 by omega, Nat.pow_succ, Nat.mul_comm, ← Nat.div_div_eq_div_mul]
      · simp
theorem HexCells.row {w wr : World} {n k : Nat} (h : HexCells w wr n (k + 1)) (hk : k < 65) (h1 : 16 ^ k ≤ n ∨ k = 0) (h2 : n < 16 ^ (k + 1)) (j : Nat) (hj : j < k + 1) :
    wr.cell? ⟨w.heap.size, 64 - k + j, none⟩ = some (.int .u8 ((hexL n).getD j 0)) := by
  rw [h.1 _ (by omega), hexL_row n k h1 h2]
  unfold hxAt
  rw [if_pos (by omega), List.getD_eq_getElem?_getD, List.getElem?_map, List.getElem?_range (by omega)]
  simp
  rw [show 64 - (64 - k + j) = k - j by omega]
theorem bt_elem (s : ByteArray) (m : Nat) (h : m < s.size) : ((s[m]'h).toNat : Int) = bt s (m : Int) := by
  unfold bt
  have h1 : m < s.data.toList.length := by rw [Array.length_toList]; exact h
  simp [List.getD_eq_getElem?_getD, h]
  first | rfl | (rw [Array.getElem?_eq_getElem h]; rfl) | skip
theorem u64_and15 (x : Int) (h0 : 0 ≤ x) (h1 : x < 18446744073709551616) : Go.bits .and .u64 x 15 = x % 16 :=
  bits_mask .u64 64 (by decide) (fun n a b => by rw [IntKind.wrap_u64]; omega) 4 (by decide) x h0 (by omega)
theorem i64_and : Go.bits .and .i64 16 15 = 0 := by decide +kernel

theorem slice65 (W : World) (B i : Nat) (h : i ≤ 64) : (Instr.sliceAt 121 (.pointer (some ⟨B, 0, none⟩)) (some (.int .i64 (i : Int))) none none).run Tryd.prog W = .ok (.slice (some ⟨B, i, none⟩) (65 - i) (65 - i)) W := by
  have hal : Tryd.prog.arrayLen 121 = 65 := by kernel_rfl
  have hel : Tryd.prog.elem 121 = 5 := by kernel_rfl
  rw [run_sliceAt_array_l (P := Tryd.prog) W 121 ⟨B, 0, none⟩ (by kernel_rfl) .i64 (i : Int) (by omega) (by rw [hal]; omega), hal, hel]
  have hs : (sizeOf 5).run Tryd.prog W = .ok 1 W := by kernel_rfl
  rw [hs]
  simp only [Result.andThen, Int.toNat_natCast, slicedAt, Nat.mul_one]
  rw [if_neg (by omega)]
  simp [Addr.add]
  exact fun e => e.symm
set_option maxHeartbeats 8000000 in
set_option maxRecDepth 100000 in
theorem formatBits16 (n : Nat) (hn : n < 1152921504606846976) (w : World) (ht : Lib.TabIs Tryd.prog w "math/bits.deBruijn64tab" .u8 deBruijn64Tab) :
    Calls Tryd.prog 105 #[.slice none 0 0, .int .u64 n, .int .i64 16, .bool false, .bool false] w fun e w' => e = .returned (.tuple #[.slice none 0 0, .string (strOfNums (hexL n))]) ∧ Below w.heap.size w w' := by
  have htz : ∀ W, Below w.heap.size w W → Calls Tryd.prog 119 #[.int .u64 16] W fun e w' => e = .returned (.int .i64 4) ∧ w' = W := fun W hW => tz16 W (Go.Joins.tab_stays (g := 7) (by kernel_rfl) ht hW (Nat.le_refl _))
  have hand := i64_and
  have HT := Lib.hid htz
  clear htz ht
  have S0 := Lib.hid (HexCells.start w n 121)
  go_enter Tryd.func105, Tryd.ntmps105
  go_wp2_with (first | (go_at_call 119; refine (HT.out _ (below_alloc (Below.refl _ _) _)).mono ?_; rintro e w1 ⟨rfl, rfl⟩) | go_in)
  go_loopw [1, 13] (fun vu vi wr => ∃ (i k u : Nat), k ≤ 15 ∧ i + k = 64 ∧ vu = .int .u64 u ∧ vi = .int .i64 ((i : Int) + 1) ∧ Hid (u = n / 16 ^ k) ∧ Hid (16 ^ k ≤ n ∨ k = 0) ∧ Aside (HexCells w wr n k)) (fun vu _ _ => (intOf vu).toNat)
  case atStart => exact ⟨64, 0, n, by omega, by omega, rfl, rfl, Lib.hid (by simp), Lib.hid (.inr rfl), S0.out⟩
  case round =>
    obtain ⟨i, k, u, hk, hik, rfl, rfl, HU, HK, A⟩ := hrel
    have hu0 : (0 : Int) ≤ (u : Int) := by omega
    have hub : u < 1152921504606846976 := by rw [HU.out]; exact Nat.lt_of_le_of_lt (Nat.div_le_self _ _) hn
    have hi65 : (i : Int) < 65 := by omega
    have hcell := A.out.1 i (by omega)
    have hfro := A.out.2.1 i (by omega)
    by_cases hlt : 16 ≤ u
    · have hltz : (u : Int) ≥ 16 := by omega
      have hand2 := u64_and15 (u : Int) hu0 (by omega)
      have hr0 : 0 ≤ (u : Int) % 16 := by omega
      have hr1 : (u : Int) % 16 < 36 := by omega
      have hk14 : k < 15 := by
        rcases Nat.lt_or_ge k 15 with h | h
        · exact h
        · exfalso
          have e := HU.out
          have h1 : 16 ^ 15 ≤ 16 ^ k := Nat.pow_le_pow_right (by decide) h
          have h2 : n / 16 ^ k ≤ n / 16 ^ 15 := Nat.div_le_div_left h1 (by decide)
          have h3 : n / 16 ^ 15 < 16 := by omega
          omega
      have hput := A.out.put (k := k) (by omega) (((digs36[u % 16]'(Nat.lt_of_lt_of_le (Nat.mod_lt u (by decide)) (by decide : 16 ≤ digs36.size))).toNat : Nat) : Int) (by rw [bt_elem, ← HU.out])
      rw [show 64 - k = i by omega] at hput
      have HP := Lib.hid hput
      clear hput
      go_wp2
      go_roundw
      case rel => exact ⟨i - 1, k + 1, u / 16, by omega, by omega, by go_num, by go_num, Lib.hid (by rw [HU.out, Nat.pow_succ, Nat.div_div_eq_div_mul]), Lib.hid (.inl (by
        have e := HU.out
        rw [Nat.pow_succ]
        have h1 : 16 ≤ n / 16 ^ k := by rw [← e]; exact hlt
        have h2 := (Nat.le_div_iff_mul_le (Nat.pow_pos (by decide))).1 h1
        rw [Nat.mul_comm]
        exact h2)), HP.out⟩
      case measure => simp [intOf]; omega
    · have hltz : ¬ (u : Int) ≥ 16 := by omega
      have hu36 : (u : Int) < 36 := by omega
      have hk2 : n < 16 ^ (k + 1) := by
        have e := HU.out
        rw [Nat.pow_succ]
        have h1 : n / 16 ^ k < 16 := by rw [← e]; omega
        have h2 := (Nat.div_lt_iff_lt_mul (Nat.pow_pos (by decide))).1 h1
        rw [Nat.mul_comm]
        exact h2
      have hput := A.out.put (k := k) (by omega) (((digs36[u]'(Nat.lt_of_lt_of_le (by omega : u < 16) (by decide : 16 ≤ digs36.size))).toNat : Nat) : Int) (by rw [bt_elem, ← HU.out, show u % 16 = u by omega])
      rw [show 64 - k = i by omega] at hput
      have hrow := fun j hj => hput.row (by omega) HK.out hk2 j hj
      rw [show 64 - k = i by omega] at hrow
      have hlen : (hexL n).length = 65 - i := by rw [hexL_row n k HK.out hk2, List.length_map, List.length_range]; omega
      have kb := fun cap => run_convert_bytes_arg (P := Tryd.prog) _ 22 5 Tryd.underlying22 Tryd.underlying5 w.heap.size i (65 - i) cap (hexL n) hlen (fun j hj => hrow j (by omega)) 9 Tryd.underlying9
      have HB := Lib.hid hput.2.2
      unfold digs36 at kb
      have hsl := fun W => slice65 W w.heap.size i (by omega)
      clear hrow hput hlen hk2 HT S0
      go_wp2
      go_ret2
      exact ⟨rfl, HB.out⟩
end Go.Proofs.YtfbgpjhnjdhpcaaDoor.P
namespace Go.Proofs.YtfbgpjhnjdhpcaaDoor.P
set_option linter.unusedVariables false
set_option linter.unusedSimpArgs false
open Go.RowKit Go.Proofs.YtfbgpjhnjdhpcaaDoorW.PrintWords Go.Proofs.YtfbgpjhnjdhpcaaDoorW.PrintLast Go.Proofs.YtfbgpjhnjdhpcaaDoorW.PrintMore

set_option maxHeartbeats 2000000 in
theorem internal_FormatInt16 (n : Nat) (hn : n < 1152921504606846976) (w : World) (ht : Lib.TabIs Tryd.prog w "math/bits.deBruijn64tab" .u8 deBruijn64Tab) :
    Calls Tryd.prog 89 #[.int .i64 n, .int .i64 16] w fun e w' => e = .returned (.string (strOfNums (hexL n))) ∧ Below w.heap.size w w' := by
  have hc := formatBits16 n hn w ht
  have hw : IntKind.u64.wrap (n : Int) = (n : Int) := by rw [IntKind.wrap_u64]; omega
  have h0 : ¬ (n : Int) < 0 := by omega
  generalize strOfNums (hexL n) = s at hc ⊢
  go_enter Tryd.func89, Tryd.ntmps89
  go_wp2_with (go_at_call 105; refine hc.mono ?_; rintro e w1 ⟨rfl, hb⟩)
  go_ret
  exact ⟨rfl, hb⟩
theorem FormatInt16 (n : Nat) (hn : n < 1152921504606846976) (w : World) (ht : Lib.TabIs Tryd.prog w "math/bits.deBruijn64tab" .u8 deBruijn64Tab) :
    Calls Tryd.prog 73 #[.int .i64 n, .int .i64 16] w fun e w' => e = .returned (.string (strOfNums (hexL n))) ∧ Below w.heap.size w w' := by
  have hc := internal_FormatInt16 n hn w ht
  generalize strOfNums (hexL n) = s at hc ⊢
  go_enter Tryd.func73, Tryd.ntmps73
  go_wp2_with (go_at_call 89; refine hc.mono ?_; rintro e w1 ⟨rfl, hb⟩)
  go_ret
  exact ⟨rfl, hb⟩
def strconv_FormatInt.f (a0 a1 : Int) : Option ByteArray :=
  if a1 = 16 ∧ 0 ≤ a0 ∧ a0 < 1152921504606846976 then some (strOfNums (hexL a0.toNat)) else
  if a1 = 10 ∧ -9223372036854775808 ≤ a0 ∧ a0 ≤ 9223372036854775807 then some ⟨(Lib.itoa a0).toArray⟩ else none
theorem strconv_FormatInt.calls (a0 a1 : Int) (r : ByteArray) (w : World) (hX : XW 6 w) (h : strconv_FormatInt.f a0 a1 = some r) :
    Calls Tryd.prog 73 #[.int .i64 a0, .int .i64 a1] w fun e w' => e = .returned (.string r) ∧ Below w.heap.size w w' := by
  unfold strconv_FormatInt.f at h
  split at h
  · rename_i hc
    obtain ⟨rfl, h0, h1⟩ := hc
    obtain rfl := Option.some.inj h
    have := FormatInt16 a0.toNat (by omega) w (hX.tz rfl)
    rw [show ((a0.toNat : Nat) : Int) = a0 by omega] at this
    exact this
  split at h
  · rename_i hc
    obtain ⟨rfl, h0, h1⟩ := hc
    obtain rfl := Option.some.inj h
    refine (Tryd.strconv_FormatInt_10 a0 h0 h1 w (hX.pow10 rfl)).mono ?_
    rintro e w' ⟨rfl, k, os, rfl⟩
    exact ⟨rfl, below_grow k os⟩
  · cases h
end Go.Proofs.YtfbgpjhnjdhpcaaDoor.P
namespace Go.Proofs.YtfbgpjhnjdhpcaaDoor.P
open Go.RowKit Go.Proofs.YtfbgpjhnjdhpcaaDoorW.PrintWords Go.Proofs.YtfbgpjhnjdhpcaaDoorW.PrintLast Go.Proofs.YtfbgpjhnjdhpcaaDoorW.PrintMore
attribute [local go_sem] max2_int min2_int max_two min_two max_three min_three max_four min_four   -- for this text's walks alone
set_option linter.unusedVariables false
set_option linter.unusedSimpArgs false

/-! ### impl_within: function 60 -/
def impl_within.f (a0 : Int) (a1 : Int) (a2 : Int) : Option (Bool) := if a0 ≥ a1 then (some (decide (a0 ≤ a2))) else (some false)
set_option maxHeartbeats 8000000 in
set_option maxRecDepth 100000 in
theorem impl_within.calls (a0 : Int) (a1 : Int) (a2 : Int) (r : Bool) (w : World) (h : impl_within.f a0 a1 a2 = some r) :
  Calls Tryd.prog 60 #[.int .i64 a0, .int .i64 a1, .int .i64 a2] w fun e w' => e = .returned (.bool r) ∧ Drawn0 w w' := by
 have H : (if a0 ≥ a1 then (some (decide (a0 ≤ a2))) else (some false)) = some r := h
 clear h
 by_cases c4 : a0 ≥ a1
 ·
  rw [if_pos c4] at H
  have c4b0 : decide (a1 ≤ a0) = true := decide_eq_true c4
  clear c4
  obtain rfl := Option.some.inj H
  go_enter Tryd.func60, Tryd.ntmps60
  go_wp2
  go_ret
  exact ⟨by first | rfl | (simp; done) | (simp [*]; done), by repeat (first | exact Drawn0.refl _ | apply Drawn0.step)⟩
 ·
  rw [if_neg c4] at H
  have c4b0 : decide (a1 ≤ a0) = false := decide_eq_false c4
  clear c4
  obtain rfl := Option.some.inj H
  go_enter Tryd.func60, Tryd.ntmps60
  go_wp2
  go_ret
  exact ⟨by first | rfl | (simp; done) | (simp [*]; done), by repeat (first | exact Drawn0.refl _ | apply Drawn0.step)⟩
/-! ### impl_Hex: function 51 -/
def impl_Hex.f (a0 : Int) : Option (ByteArray) := (impl_within.f a0 0 4503599627370496).bind fun t101 => (if t101 = true then ((strconv_FormatInt.f a0 16).bind fun t102 => (some t102)) else (some (⟨#[]⟩ : ByteArray)))
set_option maxHeartbeats 8000000 in
set_option maxRecDepth 100000 in
theorem impl_Hex.calls (a0 : Int) (r : ByteArray) (w : World) (hX : XW 6 w) (h : impl_Hex.f a0 = some r) :
  Calls Tryd.prog 51 #[.int .i64 a0] w fun e w' => e = .returned (.string r) ∧ Below w.heap.size w w' := by
 have HB := Aside0.mk (Below.refl w.heap.size w)
 have H : ((impl_within.f a0 0 4503599627370496).bind fun t101 => (if t101 = true then ((strconv_FormatInt.f a0 16).bind fun t102 => (some t102)) else (some (⟨#[]⟩ : ByteArray)))) = some r := h
 clear h
 obtain ⟨t101, A20, H⟩ := Option.bind_eq_some_iff.mp H
 try dsimp only at H
 have A2 := Aside0.mk A20
 clear A20
 by_cases c3 : t101 = true
 ·
  subst c3
  rw [if_pos rfl] at H
  replace H := Option.bind_eq_some_iff.mp H
  obtain ⟨t102, A40, H⟩ := H
  replace H : (some t102) = some r := H
  have A4 := Aside0.mk A40
  clear A40
  obtain rfl := Option.some.inj H
  go_enter Tryd.func51, Tryd.ntmps51
  go_wp2_with (first | ((with_reducible refine gate_callee (f := 60) rfl ?_); refine goesL_ (some 4) rfl rfl Tryd.func60 (by kernel_rfl) rfl #[.int .i64 a0, .int .i64 0, .int .i64 4503599627370496] rfl mc ?_; (with_reducible refine (impl_within.calls a0 0 4503599627370496 true _ A2.out).mono ?_); rintro e w' ⟨rfl, ⟨nd, rfl⟩⟩; refine ⟨_, rfl, ?_⟩) | ((with_reducible refine gate_callee (f := 73) rfl ?_); refine goesL_ (some 7) rfl rfl Tryd.func73 (by kernel_rfl) rfl #[.int .i64 a0, .int .i64 16] rfl mc ?_; (with_reducible refine (strconv_FormatInt.calls a0 16 t102 _ ?side1 A4.out).mono ?_); (case side1 => exact XW.to (XW.stays hX bh) (by decide)); rintro e w5 ⟨rfl, hb⟩; refine ⟨_, rfl, ?_⟩; replace HB := Aside0.mk (below_step bh hb); (try clear hb); (try clear hb2); (try clear hk); (try clear hi)))
  go_ret
  exact ⟨er, bh⟩
 ·
  replace c3 := Bool.eq_false_iff.mpr c3
  subst c3
  have H1 : (some (⟨#[]⟩ : ByteArray)) = some r := by rw [if_neg (show ¬ (false = true) by decide)] at H; exact H
  clear H
  have H := H1
  clear H1
  obtain rfl := Option.some.inj H
  go_enter Tryd.func51, Tryd.ntmps51
  go_wp2_with (first | ((with_reducible refine gate_callee (f := 60) rfl ?_); refine goesL_ (some 4) rfl rfl Tryd.func60 (by kernel_rfl) rfl #[.int .i64 a0, .int .i64 0, .int .i64 4503599627370496] rfl mc ?_; (with_reducible refine (impl_within.calls a0 0 4503599627370496 false _ A2.out).mono ?_); rintro e w' ⟨rfl, ⟨nd, rfl⟩⟩; refine ⟨_, rfl, ?_⟩))
  go_ret
  exact ⟨er, bh⟩
end Go.Proofs.YtfbgpjhnjdhpcaaDoor.P
namespace Go.Proofs.YtfbgpjhnjdhpcaaDoor.P
set_option linter.unusedVariables false
set_option linter.unusedSimpArgs false
open Go.RowKit Go.Lib Go.Proofs.YtfbgpjhnjdhpcaaDoorW.PrintWords Go.Proofs.YtfbgpjhnjdhpcaaDoorW.PrintLast Go.Proofs.YtfbgpjhnjdhpcaaDoorW.PrintMore
attribute [local go_sem] max2_int min2_int max_two min_two max_three min_three max_four min_four

def chunkL (p : ByteArray) : List UInt8 := if p.size = 0 then [] else (strOfNums (hexL p.size)).data.toList ++ [13, 10] ++ p.data.toList ++ [13, 10]
def chunksL (l : List ByteArray) : List UInt8 := l.flatMap chunkL
def sizes (l : List ByteArray) : Nat := (l.map ByteArray.size).sum
def impl_Chunked.f (l0 : List ByteArray) : Option ByteArray :=
  if sizes l0 > 4611686018427387904 then none else if l0.length > 100 then some ⟨#[]⟩ else if sizes l0 > 4000 then some ⟨#[]⟩ else some ⟨(chunksL l0 ++ [48, 13, 10, 13, 10]).toArray⟩
theorem hexL_le (d : Nat) : ∀ n : Nat, n < 16 ^ (d + 1) → (hexL n).length ≤ d + 1 := by
  induction d with
  | zero => intro n h; rw [hexL, dif_pos (by simpa using h)]; simp
  | succ d ih =>
    intro n h
    rw [hexL]
    by_cases h2 : n < 16
    · rw [dif_pos h2]; simp
    · rw [dif_neg h2, List.length_append, List.length_singleton]
      have := ih (n / 16) (by rw [Nat.pow_succ] at h; omega)
      omega
theorem nums_size (l : List Int) : (strOfNums l).size = l.length := by
  show (strOfNums l).data.size = _
  rw [← Array.length_toList, strOfNums_data, List.length_map]
theorem chunkL_le (p : ByteArray) (h : p.size ≤ 4000) : (chunkL p).length ≤ p.size + 8 := by
  unfold chunkL
  split
  · exact Nat.zero_le _
  · have h1 := hexL_le 3 p.size (by omega)
    have h2 := nums_size (hexL p.size)
    simp only [List.length_append, List.length_cons, List.length_nil, Array.length_toList]
    show (strOfNums (hexL p.size)).size + 2 + p.size + 2 ≤ _
    omega
theorem sizes_take (l : List ByteArray) (k : Nat) (h : k < l.length) : sizes (l.take (k + 1)) = sizes (l.take k) + (l[k]'h).size := by
  unfold sizes
  rw [List.take_add_one, List.getElem?_eq_getElem h, List.map_append, List.sum_append]
  simp
theorem sizes_le (l : List ByteArray) (k : Nat) : sizes (l.take k) ≤ sizes l := by
  have : sizes l = sizes (l.take k) + sizes (l.drop k) := by
    unfold sizes
    rw [← List.sum_append, ← List.map_append, List.take_append_drop]
  omega
theorem chunksL_take (l : List ByteArray) (k : Nat) (h : k < l.length) : chunksL (l.take (k + 1)) = chunksL (l.take k) ++ chunkL (l[k]'h) := by
  unfold chunksL
  rw [List.take_add_one, List.getElem?_eq_getElem h, List.flatMap_append]
  simp
theorem chunksL_le (l : List ByteArray) (h : sizes l ≤ 4000) : (chunksL l).length ≤ sizes l + 8 * l.length := by
  induction l with
  | nil => exact Nat.zero_le _
  | cons a l ih =>
    have h1 : sizes (a :: l) = a.size + sizes l := by simp [sizes]
    have h2 : chunksL (a :: l) = chunkL a ++ chunksL l := by simp [chunksL]
    have h3 := chunkL_le a (by omega)
    have h4 := ih (by omega)
    rw [h2, List.length_append, List.length_cons]
    omega
theorem hex_of_size (n : Nat) (h : n ≤ 4000) : impl_Hex.f (n : Int) = some (strOfNums (hexL n)) := by
  unfold impl_Hex.f impl_within.f
  rw [if_pos (by omega)]
  simp only [Option.bind_some]
  rw [if_pos (decide_eq_true (by omega))]
  unfold strconv_FormatInt.f
  rw [if_pos ⟨rfl, by omega, by omega⟩, Int.toNat_natCast]
  rfl
theorem chunk_data (p : ByteArray) (h : p.size ≠ 0) : (strOfNums (hexL p.size) ++ (⟨#[13, 10]⟩ : ByteArray) ++ p ++ (⟨#[13, 10]⟩ : ByteArray)).data.toList = chunkL p := by
  unfold chunkL
  rw [if_neg h]
  simp [ByteArray.data_append]
theorem rd_text (l : List ByteArray) (k : Nat) (h : k < l.length) : rdOf ByteArray.empty l (k : Int) = l[k]'h := by
  simp [rdOf, List.getD_eq_getElem?_getD, h]

set_option maxHeartbeats 8000000 in
set_option maxRecDepth 100000 in
theorem impl_Chunked.calls (A0 : Option Addr) (c0 : Nat) (l0 : List ByteArray) (r : ByteArray) (w : World) (hX : XW 6 w) (hr0 : Kd.C Kd.string w A0 l0.length l0) (hc0 : l0.length ≤ c0) (h : impl_Chunked.f l0 = some r) :
    Calls Tryd.prog 20 #[.slice A0 l0.length c0] w fun e w' => e = .returned (.string r) ∧ Below w.heap.size w w' := by
  have HB := Aside0.mk (Below.refl w.heap.size w)
  have BN := Aside0.mk (Lib.fresh_isBuilder 62 5 w)
  have hbound : ¬ sizes l0 > 4611686018427387904 := fun c => by unfold impl_Chunked.f at h; rw [if_pos c] at h; cases h
  have HH := Aside0.mk h
  clear h
  by_cases hlen : l0.length > 100
  · have h := HH.out
    unfold impl_Chunked.f at h
    rw [if_neg hbound, if_pos hlen] at h
    obtain rfl := Option.some.inj h
    clear h HH
    have h1 : decide ((100 : Int) < (l0.length : Int)) = true := decide_eq_true (by omega)
    have h2 : decide (100 < l0.length) = true := decide_eq_true hlen
    have HR0 := Aside0.mk hr0
    clear hr0
    go_enter Tryd.func20, Tryd.ntmps20
    go_wp2
    go_ret
    exact ⟨rfl, by repeat (first | exact HB.out | apply below_alloc | refine below_set ?_ (Nat.le_refl _))⟩
  have h1 : decide ((100 : Int) < (l0.length : Int)) = false := decide_eq_false (by omega)
  have h2 : decide (100 < l0.length) = false := decide_eq_false hlen
  have HR0 := Aside0.mk hr0
  have HX := Aside0.mk hX
  clear hr0 hX
  go_enter Tryd.func20, Tryd.ntmps20
  go_wp2
  go_loopg [4, 13] l0.length (fun gg v4 v13 wr => ∃ kk : Nat, kk ≤ l0.length ∧ l0.length - kk ≤ gg ∧ v13 = .int .i64 kk ∧ v4 = .int .i64 (sizes (l0.take kk)) ∧ sizes (l0.take kk) ≤ 4000 ∧ Aside0 (Bld w.heap.size w.heap.size (chunksL (l0.take kk)) wr) ∧ Aside0 (Below w.heap.size w wr))
  case atStart => exact ⟨0, Nat.zero_le _, by omega, rfl, rfl, Nat.zero_le _, ⟨BN.out⟩, ⟨below_alloc HB.out _⟩⟩
  case round =>
    clear HB BN
    obtain ⟨kk, hkk, hg, rfl, rfl, hs4, BL, HB⟩ := hrel
    by_cases hlt : kk < l0.length
    · have hltz : (kk : Int) < (l0.length : Int) := by omega
      have h0z : (0 : Int) ≤ (kk : Int) := by omega
      obtain ⟨ad, e, hx0⟩ := Kd.at_string HR0.out (kk : Int) h0z hltz
      subst e
      rw [rd_text l0 kk hlt] at hx0
      simp only [Int.toNat_natCast] at hx0
      have TF := Aside0.mk (chunksL_take l0 kk hlt)
      have TS := Aside0.mk (sizes_take l0 kk hlt)
      have SL := Aside0.mk (sizes_le l0 (kk + 1))
      have CL := Aside0.mk (chunksL_le (l0.take kk) hs4)
      have LT := Aside0.mk (List.length_take_le kk l0)
      generalize l0[kk]'hlt = x0 at hx0 TF TS
      replace hx0 := (HB.out.cell (World.block_lt_of_cell? w _ hx0)).trans hx0
      generalize sizes (l0.take kk) = sk at hs4 TS CL ⊢
      have hxs : sk + x0.size ≤ 4611686018427387904 := by
        have := SL.out
        rw [TS.out] at this
        omega
      have hsum : wrap64 ((sk : Int) + (x0.size : Int)) = ((sk + x0.size : Nat) : Int) := by unfold wrap64; omega
      by_cases hbig : sk + x0.size > 4000
      · have hb1 : decide ((4000 : Int) < ((sk + x0.size : Nat) : Int)) = true := decide_eq_true (by omega)
        have hb2 : decide (4000 < sk + x0.size) = true := decide_eq_true hbig
        have hb3 : decide ((4000 : Int) < (sk : Int) + (x0.size : Int)) = true := decide_eq_true (by omega)
        have hbz := SL.out
        rw [TS.out] at hbz
        have h := HH.out
        unfold impl_Chunked.f at h
        rw [if_neg hbound, if_neg hlen, if_pos (by omega)] at h
        obtain rfl := Option.some.inj h
        clear h HH
        go_wp2
        go_ret
        exact ⟨rfl, HB.out⟩
      · have hb1 : decide ((4000 : Int) < ((sk + x0.size : Nat) : Int)) = false := decide_eq_false (by omega)
        have hb2 : decide (4000 < sk + x0.size) = false := decide_eq_false hbig
        have hb3 : decide ((4000 : Int) < (sk : Int) + (x0.size : Int)) = false := decide_eq_false (by omega)
        generalize chunksL (l0.take kk) = xs at BL TF CL
        by_cases hz : x0.size = 0
        · have e0 : x0 = (⟨#[]⟩ : ByteArray) := by
            obtain ⟨⟨l⟩⟩ := x0
            cases l with
            | nil => rfl
            | cons a l => exact absurd hz (by simp [ByteArray.size])
          have hc0 : chunkL x0 = [] := by unfold chunkL; rw [if_pos hz]
          have hi : x0.toList.isEmpty = true := by rw [e0, ByteArray.toList_eq]; rfl
          have TF2 := TF.out
          rw [hc0, List.append_nil] at TF2
          have BL2 := BL
          rw [← TF2] at BL2
          have TS2 := Aside0.mk TS.out
          clear TF TF2 BL
          go_wp2
          go_roundg (l0.length - (kk + 1))
          case measure => omega
          case rel => exact ⟨kk + 1, by omega, by omega, by go_num, by rw [TS2.out, hz]; rfl, by rw [TS2.out]; omega, BL2, HB⟩
        · have hi : x0.toList.isEmpty = false := by
            rw [ByteArray.toList_eq]
            cases hl : x0.data.toList with
            | nil => exact absurd (show x0.size = 0 by show x0.data.size = 0; rw [← Array.length_toList, hl]; rfl) hz
            | cons a l => rfl
          have HX1 := Aside0.mk (XW.stays HX.out HB.out)
          have CX := Aside0.mk (impl_Hex.calls (x0.size : Int) (strOfNums (hexL x0.size)) wr HX1.out (hex_of_size x0.size (by omega)))
          have LD := Aside0.mk (chunk_data x0 hz)
          have hhl := hexL_le 3 x0.size (by omega)
          have hhs := nums_size (hexL x0.size)
          generalize strOfNums (hexL x0.size) = hs at CX LD hhs
          have s1 : ¬ 9223372036854775807 < hs.size + 2 := by omega
          have s2 : ¬ 9223372036854775807 < (hs ++ (⟨#[13, 10]⟩ : ByteArray)).size + x0.size := by
            rw [ByteArray.size_append, show (⟨#[13, 10]⟩ : ByteArray).size = 2 from rfl]; omega
          have s3 : ¬ 9223372036854775807 < (hs ++ (⟨#[13, 10]⟩ : ByteArray) ++ x0).size + 2 := by
            rw [ByteArray.size_append, ByteArray.size_append, show (⟨#[13, 10]⟩ : ByteArray).size = 2 from rfl]; omega
          have s1n : (9223372036854775807 < hs.size + 2) = False := eq_false s1
          have s2n : (9223372036854775807 < hs.size + 2 + x0.size) = False := eq_false (by omega)
          have s3n : (9223372036854775807 < hs.size + 2 + x0.size + 2) = False := eq_false (by omega)
          have hlb := LT.out
          have hcc := CL.out
          have hwsz : (hs ++ (⟨#[13, 10]⟩ : ByteArray) ++ x0 ++ (⟨#[13, 10]⟩ : ByteArray)).size = hs.size + 2 + x0.size + 2 := by
            rw [ByteArray.size_append, ByteArray.size_append, ByteArray.size_append, show (⟨#[13, 10]⟩ : ByteArray).size = 2 from rfl]
          have hcf := fun W (hb : Below wr.heap.size wr W) => builder_write w.heap.size w.heap.size xs (hs ++ (⟨#[13, 10]⟩ : ByteArray) ++ x0 ++ (⟨#[13, 10]⟩ : ByteArray)) W (bld_below BL.out hb) (by rw [hwsz]; omega) (Nat.le_trans HB.out.size hb.size)
          rw [LD.out, ← TF.out] at hcf
          have CF := Aside0.mk hcf
          clear hcf hhl hhs hwsz hlb hcc
          go_wp2_with (first
            | (go_at_call 51; refine CX.out.mono ?_; rintro e w4 ⟨rfl, hb4⟩; have HB4 := Aside0.mk hb4; clear hb4)
            | (go_at_call 50; refine (CF.out _ HB4.out).mono ?_; rintro e w5 ⟨rfl, hbl5, hb5⟩; have BL5 := Aside0.mk hbl5; have HB5 := Aside0.mk ((below_then HB.out HB.out.size HB4.out).trans hb5); clear hbl5 hb5))
          go_roundg (l0.length - (kk + 1))
          case measure => omega
          case rel => exact ⟨kk + 1, by omega, by omega, by go_num, by rw [TS.out, Int.natCast_add], by rw [TS.out]; omega, BL5, HB5⟩
    · have hltz : ¬ (kk : Int) < (l0.length : Int) := by omega
      have : kk = l0.length := by omega
      subst this
      have hO := BL.out
      rw [List.take_length] at hO hs4
      have h := HH.out
      unfold impl_Chunked.f at h
      rw [if_neg hbound, if_neg hlen, if_neg (by omega)] at h
      obtain rfl := Option.some.inj h
      clear h HH
      have hcl := chunksL_le l0 hs4
      have hcs := Tryd.Builder_String_any w.heap.size w.heap.size (chunksL l0) _ hO HB.out.size
      have hsz : (⟨(chunksL l0).toArray⟩ : ByteArray).size = (chunksL l0).length := by show (chunksL l0).toArray.size = _; simp
      have s0 : ¬ 9223372036854775807 < (⟨(chunksL l0).toArray⟩ : ByteArray).size + 1 := by omega
      have s0n : (9223372036854775807 < (⟨(chunksL l0).toArray⟩ : ByteArray).size + 1) = False := eq_false s0
      have s1 : ¬ 9223372036854775807 < ((⟨(chunksL l0).toArray⟩ : ByteArray) ++ (⟨#[48]⟩ : ByteArray)).size + 2 := by
        rw [ByteArray.size_append, show (⟨#[48]⟩ : ByteArray).size = 1 from rfl]; omega
      have s1n : (9223372036854775807 < (⟨(chunksL l0).toArray⟩ : ByteArray).size + 1 + 2) = False := eq_false (by omega)
      have s2 : ¬ 9223372036854775807 < ((⟨(chunksL l0).toArray⟩ : ByteArray) ++ (⟨#[48]⟩ : ByteArray) ++ (⟨#[13, 10]⟩ : ByteArray)).size + 2 := by
        rw [ByteArray.size_append, ByteArray.size_append, show (⟨#[48]⟩ : ByteArray).size = 1 from rfl, show (⟨#[13, 10]⟩ : ByteArray).size = 2 from rfl]; omega
      have s2n : (9223372036854775807 < (⟨(chunksL l0).toArray⟩ : ByteArray).size + 1 + 2 + 2) = False := eq_false (by omega)
      go_wp2_with (go_at_call 52; refine hcs.mono ?_; rintro e w5 ⟨rfl, hb5⟩)
      go_ret
      have hfin : ((⟨(chunksL l0).toArray⟩ : ByteArray) ++ (⟨#[48]⟩ : ByteArray) ++ (⟨#[13, 10]⟩ : ByteArray) ++ (⟨#[13, 10]⟩ : ByteArray)) = ⟨(chunksL l0 ++ [48, 13, 10, 13, 10]).toArray⟩ := by
        apply ByteArray.ext
        simp [ByteArray.data_append]
      exact ⟨by rw [← hfin]; rfl, HB.out.trans hb5⟩
end Go.Proofs.YtfbgpjhnjdhpcaaDoor.P
namespace Go.Proofs.YtfbgpjhnjdhpcaaDoor.P
open Go.RowKit Go.Proofs.YtfbgpjhnjdhpcaaDoorW.PrintWords Go.Proofs.YtfbgpjhnjdhpcaaDoorW.PrintLast Go.Proofs.YtfbgpjhnjdhpcaaDoorW.PrintMore
attribute [local go_sem] max2_int min2_int max_two min_two max_three min_three max_four min_four   -- for this text's walks alone
set_option linter.unusedVariables false
set_option linter.unusedSimpArgs false

/-! ### impl_Chunker_eatAll: function 54 -/
def impl_Chunker_eatAll.l0 : Nat → ByteArray → Int → Int → Int → ByteArray → ByteArray → Option (Int × Int × ByteArray × ByteArray × Int)
 | 0, _, _, _, _, _, _ => none
 | k + 1, x1, x6, x102000, x102001, x102002, x102003 => if x6 < (x1.size : Int) then (if x102000 = 8 then (some (x102000, x102001, x102002, x102003, x6)) else (if x102000 = 9 then (some (x102000, x102001, x102002, x102003, x6)) else (if 0 ≤ x6 then ((impl_Chunker_eat.f k x102000 x102001 x102002 x102003 (bt x1 x6)).bind fun bt103 => (impl_Chunker_eatAll.l0 k x1 (wrap64 (x6 + 1)) bt103.1 bt103.2.1 bt103.2.2.1 bt103.2.2.2)) else (none)))) else (some (x102000, x102001, x102002, x102003, x6))
def impl_Chunker_eatAll.f (k : Nat) (a0_0 : Int) (a0_1 : Int) (a0_2 : ByteArray) (a0_3 : ByteArray) (a1 : ByteArray) : Option (Int × Int × ByteArray × ByteArray × Int) := impl_Chunker_eatAll.l0 k a1 0 a0_0 a0_1 a0_2 a0_3
theorem impl_Chunker_eatAll.mono_l : ∀ k, (∀ y0 y1 y2 y3 y4 y5, LeO (impl_Chunker_eatAll.l0 k y0 y1 y2 y3 y4 y5) (impl_Chunker_eatAll.l0 (k + 1) y0 y1 y2 y3 y4 y5))
 | 0 => fun _ _ _ _ _ _ r h => by simp [impl_Chunker_eatAll.l0] at h
 | k + 1 => by
  have ih0 := impl_Chunker_eatAll.mono_l k
  ·
   intro y0 y1 y2 y3 y4 y5
   unfold impl_Chunker_eatAll.l0
   repeat' first
   | (with_reducible exact ih0 _ _ _ _ _ _)
   | (with_reducible exact impl_Chunker_eat.mono _ _ _ _ _ _)
   | (with_reducible exact LeO.refl _)
   | (with_reducible exact LeO.none _)
   | (with_reducible refine LeO.ite ?_ ?_)
   | (with_reducible refine LeO.bind ?_ (fun _ => ?_))
   | exact ih0 _ _ _ _ _ _
   | exact impl_Chunker_eat.mono _ _ _ _ _ _
   | exact LeO.none _
   | refine LeO.ite ?_ ?_
   | refine LeO.bind ?_ (fun _ => ?_)
theorem impl_Chunker_eatAll.mono : ∀ a0 a1 a2 a3 a4 k, LeO (impl_Chunker_eatAll.f k a0 a1 a2 a3 a4) (impl_Chunker_eatAll.f (k + 1) a0 a1 a2 a3 a4) := by
 intro a0 a1 a2 a3 a4 k
 have ih0 := impl_Chunker_eatAll.mono_l k
 unfold impl_Chunker_eatAll.f
 repeat' first
   | (with_reducible exact ih0 _ _ _ _ _ _)
   | (with_reducible exact impl_Chunker_eat.mono _ _ _ _ _ _)
   | (with_reducible exact LeO.refl _)
   | (with_reducible exact LeO.none _)
   | (with_reducible refine LeO.ite ?_ ?_)
   | (with_reducible refine LeO.bind ?_ (fun _ => ?_))
   | exact ih0 _ _ _ _ _ _
   | exact impl_Chunker_eat.mono _ _ _ _ _ _
   | exact LeO.none _
   | refine LeO.ite ?_ ?_
   | refine LeO.bind ?_ (fun _ => ?_)
set_option maxHeartbeats 8000000 in
set_option maxRecDepth 100000 in
theorem impl_Chunker_eatAll.calls (k : Nat) (a0_0 : Int) (a0_1 : Int) (a0_2 : ByteArray) (a0_3 : ByteArray) (a1 : ByteArray) (r1 : Int) (r2 : Int) (r3 : ByteArray) (r4 : ByteArray) (r5 : Int) (w : World) (h : impl_Chunker_eatAll.f k a0_0 a0_1 a0_2 a0_3 a1 = some (r1, r2, r3, r4, r5)) :
  Calls Tryd.prog 54 #[.agg #[.int .i64 a0_0, .int .i64 a0_1, .string a0_2, .string a0_3], .string a1] w fun e w' => e = .returned (.tuple #[.agg #[.int .i64 r1, .int .i64 r2, .string r3, .string r4], .int .i64 r5]) ∧ Below w.heap.size w w' := by
 have hu35 := Tryd.underlying35
 have HB := Aside0.mk (Below.refl w.heap.size w)
 have H : (impl_Chunker_eatAll.l0 k a1 0 a0_0 a0_1 a0_2 a0_3) = some (r1, r2, r3, r4, r5) := h
 clear h
 have H' := Aside0.mk H
 clear H
 go_enter Tryd.func54, Tryd.ntmps54
 go_wp2_with (first | ((with_reducible refine gate_dst (N := 2) rfl ?_); refine bx 2 #[.int .i64 a0_0, .int .i64 a0_1, .string a0_2, .string a0_3] 35 ?_; intro gb101 hg w3 hbox hb; have BK101 := Aside0.mk (hbox); have GW101 := Aside0.mk (bz hg); have GE101 := Aside0.mk (bz hg); replace HB := Aside0.mk (below_step bh hb); clear hb hbox hg) | ((with_reducible refine gate_dst (N := 4) rfl ?_); refine bx 4 #[.int .i64 0, .int .i64 0, .string (⟨#[]⟩ : ByteArray), .string (⟨#[]⟩ : ByteArray)] 35 ?_; intro gb102 hg w4 hbox hb; have BK102 := Aside0.mk (hbox); have GW102 := Aside0.mk (bz hg); have GE102 := Aside0.mk (bz hg); have NB101_102 := Aside0.mk ((nl (o := .cells #[.int .i64 a0_0, .int .i64 a0_1, .string a0_2, .string a0_3] 35 (0, 0)) hg bk : gb101 ≠ gb102)); have NB102_101 := Aside0.mk ((ng (o := .cells #[.int .i64 a0_0, .int .i64 a0_1, .string a0_2, .string a0_3] 35 (0, 0)) hg bk : gb102 ≠ gb101)); replace BK101 := Aside0.mk (blk_below (g := gb101) (o := .cells #[.int .i64 a0_0, .int .i64 a0_1, .string a0_2, .string a0_3] 35 (0, 0)) bk hb); replace HB := Aside0.mk (below_step bh hb); clear hb hbox hg))
 go_loopg [6] k (fun kq v6 w' => ∃ (x6_1 : Int) (x102000_1 : Int) (x102001_1 : Int) (x102002_1 : ByteArray) (x102003_1 : ByteArray), v6 = .int .i64 x6_1 ∧ Aside0 (impl_Chunker_eatAll.l0 kq a1 x6_1 x102000_1 x102001_1 x102002_1 x102003_1 = some (r1, r2, r3, r4, r5)) ∧ Aside0 (kq ≤ k) ∧ Aside0 (w'.heap[gb101]? = some (.cells #[.int .i64 x102000_1, .int .i64 x102001_1, .string x102002_1, .string x102003_1] 35 (0, 0))) ∧ Aside0 (w'.heap[gb102]? = some (.cells #[.int .i64 0, .int .i64 0, .string (⟨#[]⟩ : ByteArray), .string (⟨#[]⟩ : ByteArray)] 35 (0, 0))) ∧ Aside0 (Below w.heap.size w w'))
 case atStart => exact ⟨(0), (a0_0), (a0_1), (a0_2), (a0_3), (by first | rfl | (simp; done) | (simp [*]; done)), H', ⟨Nat.le_refl _⟩, ⟨by (with_reducible repeat (first | refine blk_drewN ?_ _ | refine blk_drew ?_ | refine blk_alloc ?_ _)); exact BK101.out⟩, ⟨by (with_reducible repeat (first | refine blk_drewN ?_ _ | refine blk_drew ?_ | refine blk_alloc ?_ _)); exact BK102.out⟩, ⟨bh⟩⟩
 case round =>
  clear H'
  try clear p2
  obtain ⟨x6_1, x102000_1, x102001_1, x102002_1, x102003_1, rfl, HA, HK1, BK101, BK102, HB⟩ := hrel
  cases gk with
  | zero => exact absurd HA.out (by simp [impl_Chunker_eatAll.l0])
  | succ k1 =>
   have H := HA.out
   clear HA
   simp only [impl_Chunker_eatAll.l0] at H
   by_cases c5 : x6_1 < (a1.size : Int)
   ·
    rw [if_pos c5] at H
    have c5b0 : decide (x6_1 < (a1.size : Int)) = true := decide_eq_true c5
    clear c5
    by_cases c6 : x102000_1 = 8
    ·
     rw [if_pos c6] at H
     have c6b0 : (x102000_1 == 8) = true := beq_iff_eq.mpr c6
     have c6b1 : (x102000_1 != 8) = false := bne_eq_false_iff_eq.mpr c6
     clear c6
     simp only [Option.some.injEq, Prod.mk.injEq] at H
     obtain ⟨rfl, rfl, rfl, rfl, rfl⟩ := H
     have hnb7 := NB101_102.out
     have hnc7 := NB102_101.out
     have hcz8_0 : wr.cell? ⟨gb101, 0, none⟩ = some (.int .i64 x102000_1) := bc BK101 0
     have hcz8_1 : wr.cell? ⟨gb101, 1, none⟩ = some (.int .i64 x102001_1) := bc BK101 1
     have hcz8_2 : wr.cell? ⟨gb101, 2, none⟩ = some (.string x102002_1) := bc BK101 2
     have hcz8_3 : wr.cell? ⟨gb101, 3, none⟩ = some (.string x102003_1) := bc BK101 3
     have hfz8_0 := blk_frozen BK101.out 0
     have hfz8_1 := blk_frozen BK101.out 1
     have hfz8_2 := blk_frozen BK101.out 2
     have hfz8_3 := blk_frozen BK101.out 3
     have hcz9_0 : wr.cell? ⟨gb102, 0, none⟩ = some (.int .i64 0) := bc BK102 0
     have hcz9_1 : wr.cell? ⟨gb102, 1, none⟩ = some (.int .i64 0) := bc BK102 1
     have hcz9_2 : wr.cell? ⟨gb102, 2, none⟩ = some (.string (⟨#[]⟩ : ByteArray)) := bc BK102 2
     have hcz9_3 : wr.cell? ⟨gb102, 3, none⟩ = some (.string (⟨#[]⟩ : ByteArray)) := bc BK102 3
     have hfz9_0 := blk_frozen BK102.out 0
     have hfz9_1 := blk_frozen BK102.out 1
     have hfz9_2 := blk_frozen BK102.out 2
     have hfz9_3 := blk_frozen BK102.out 3
     go_wp2
     refine bodyPost_ret (results_ct rfl _ _ gb102 35 #[.int .i64 x102000_1, .int .i64 x102001_1, .string x102002_1, .string x102003_1] (0, 0) _ rfl bkp Tryd.underlying35 rfl (by kernel_rfl)) rfl ?_
     exact ⟨er, bh⟩
    ·
     rw [if_neg c6] at H
     have c6b0 : (x102000_1 == 8) = false := beq_eq_false_iff_ne.mpr c6
     have c6b1 : (x102000_1 != 8) = true := bne_iff_ne.mpr c6
     by_cases c10 : x102000_1 = 9
     ·
      rw [if_pos c10] at H
      have c10b0 : (x102000_1 == 9) = true := beq_iff_eq.mpr c10
      have c10b1 : (x102000_1 != 9) = false := bne_eq_false_iff_eq.mpr c10
      clear c10
      simp only [Option.some.injEq, Prod.mk.injEq] at H
      obtain ⟨rfl, rfl, rfl, rfl, rfl⟩ := H
      have hnb11 := NB101_102.out
      have hnc11 := NB102_101.out
      have hcz12_0 : wr.cell? ⟨gb101, 0, none⟩ = some (.int .i64 x102000_1) := bc BK101 0
      have hcz12_1 : wr.cell? ⟨gb101, 1, none⟩ = some (.int .i64 x102001_1) := bc BK101 1
      have hcz12_2 : wr.cell? ⟨gb101, 2, none⟩ = some (.string x102002_1) := bc BK101 2
      have hcz12_3 : wr.cell? ⟨gb101, 3, none⟩ = some (.string x102003_1) := bc BK101 3
      have hfz12_0 := blk_frozen BK101.out 0
      have hfz12_1 := blk_frozen BK101.out 1
      have hfz12_2 := blk_frozen BK101.out 2
      have hfz12_3 := blk_frozen BK101.out 3
      have hcz13_0 : wr.cell? ⟨gb102, 0, none⟩ = some (.int .i64 0) := bc BK102 0
      have hcz13_1 : wr.cell? ⟨gb102, 1, none⟩ = some (.int .i64 0) := bc BK102 1
      have hcz13_2 : wr.cell? ⟨gb102, 2, none⟩ = some (.string (⟨#[]⟩ : ByteArray)) := bc BK102 2
      have hcz13_3 : wr.cell? ⟨gb102, 3, none⟩ = some (.string (⟨#[]⟩ : ByteArray)) := bc BK102 3
      have hfz13_0 := blk_frozen BK102.out 0
      have hfz13_1 := blk_frozen BK102.out 1
      have hfz13_2 := blk_frozen BK102.out 2
      have hfz13_3 := blk_frozen BK102.out 3
      go_wp2
      refine bodyPost_ret (results_ct rfl _ _ gb102 35 #[.int .i64 x102000_1, .int .i64 x102001_1, .string x102002_1, .string x102003_1] (0, 0) _ rfl bkp Tryd.underlying35 rfl (by kernel_rfl)) rfl ?_
      exact ⟨er, bh⟩
     ·
      rw [if_neg c10] at H
      have c10b0 : (x102000_1 == 9) = false := beq_eq_false_iff_ne.mpr c10
      have c10b1 : (x102000_1 != 9) = true := bne_iff_ne.mpr c10
      by_cases c14 : 0 ≤ x6_1
      ·
       rw [if_pos c14] at H
       have c14b0 : decide (0 ≤ x6_1) = true := decide_eq_true c14
       clear c14
       obtain ⟨⟨t103, t104, t105, t106⟩, A160, H⟩ := Option.bind_eq_some_iff.mp H
       try dsimp only at H
       have A16 := Aside0.mk A160
       clear A160
       have H' := Aside0.mk H
       clear H
       have hnb17 := NB101_102.out
       have hnc17 := NB102_101.out
       have hcz18_0 : wr.cell? ⟨gb101, 0, none⟩ = some (.int .i64 x102000_1) := bc BK101 0
       have hcz18_1 : wr.cell? ⟨gb101, 1, none⟩ = some (.int .i64 x102001_1) := bc BK101 1
       have hcz18_2 : wr.cell? ⟨gb101, 2, none⟩ = some (.string x102002_1) := bc BK101 2
       have hcz18_3 : wr.cell? ⟨gb101, 3, none⟩ = some (.string x102003_1) := bc BK101 3
       have hfz18_0 := blk_frozen BK101.out 0
       have hfz18_1 := blk_frozen BK101.out 1
       have hfz18_2 := blk_frozen BK101.out 2
       have hfz18_3 := blk_frozen BK101.out 3
       try go_wp2
       replace BK101 := Aside0.mk (blk_drew BK101.out)
       replace BK102 := Aside0.mk (blk_drew BK102.out)
       replace HB := Aside0.mk (below_drew1 HB.out)
       have p15 : 0 ≤ (x6_1 : Int) := of_decide_eq_true (by first | (with_reducible assumption) | assumption)
       have q15 : x6_1 < (a1.size : Int) := of_decide_eq_true (by first | (with_reducible assumption) | assumption)
       have hx15 := bt_at a1 x6_1
       replace p15 := eq_true p15
       replace q15 := eq_true q15
       refine start_ (n := 6) (S := fun w' => w'.cell? ⟨gb101, 0, none⟩ = some (.int .i64 x102000_1) ∧ w'.cell? ⟨gb101, 1, none⟩ = some (.int .i64 x102001_1) ∧ w'.cell? ⟨gb101, 2, none⟩ = some (.string x102002_1) ∧ w'.cell? ⟨gb101, 3, none⟩ = some (.string x102003_1)) (ds := [5]) #[false, false, false, false, false, false] (by kernel_rfl) rfl rfl ⟨bc BK101 0, bc BK101 1, bc BK101 2, bc BK101 3⟩ (fun hHeld => ?_)
       generalize wr.drew = w19 at BK101 BK102 HB hHeld ⊢
       refine pure_ (i := 1) (N := some 22) (v := ?_) (a' := ?_) #[false, true, false, false, false, false] rfl rfl (by kernel_rfl) (fun _ _ _ h => h) (Or.inl ⟨by rfl, ?_⟩) ?_ ?_
       rotate_left
       ·
        intro w'
        go_simp
        with_reducible rfl
       rotate_left
       ·
        simp only [Act.put, List.setIfInBounds_toArray, List.set_cons_zero, List.set_cons_succ, i64_w, i32_w]
        rfl
       refine pure_ (i := 2) (N := some 23) (v := ?_) (a' := ?_) #[false, true, true, false, false, false] rfl rfl (by kernel_rfl) (fun _ _ _ h => h) (Or.inl ⟨by rfl, ?_⟩) ?_ ?_
       rotate_left
       ·
        intro w'
        go_simp
        with_reducible rfl
       rotate_left
       ·
        simp only [Act.put, List.setIfInBounds_toArray, List.set_cons_zero, List.set_cons_succ, i64_w, i32_w]
        rfl
       refine take_ (i := 0) (N := some 21) (v := ?_) (a' := ?_) #[true, true, true, false, false, false] rfl rfl (by kernel_rfl) (fun _ _ _ h => h) (Or.inl ⟨by rfl, ?_⟩) hHeld ?_ ?_
       rotate_left
       ·
        rintro w' ⟨s0, s1, s2, s3⟩
        go_simp
        with_reducible rfl
       rotate_left
       ·
        simp only [Act.put, List.setIfInBounds_toArray, List.set_cons_zero, List.set_cons_succ, i64_w, i32_w]
        rfl
       refine take_ (i := 3) (N := some 24) (v := ?_) (a' := ?_) #[true, true, true, true, false, false] rfl rfl (by kernel_rfl) (fun _ _ _ h => h) (Or.inl ⟨by rfl, ?_⟩) hHeld ?_ ?_
       rotate_left
       ·
        rintro w' ⟨s0, s1, s2, s3⟩
        go_simp
        with_reducible rfl
       rotate_left
       ·
        simp only [Act.put, List.setIfInBounds_toArray, List.set_cons_zero, List.set_cons_succ, i64_w, i32_w]
        rfl
       refine one_ (i := 4) (N := some 25) #[true, true, true, true, true, false] rfl rfl (by kernel_rfl) (by decide) (fun K hK => ?_)
       refine gs Tryd.func58 #[.agg #[.int .i64 x102000_1, .int .i64 x102001_1, .string x102002_1, .string x102003_1], .int .u8 (bt a1 x6_1)] ?_
       with_reducible refine (impl_Chunker_eat.calls k1 x102000_1 x102001_1 x102002_1 x102003_1 (bt a1 x6_1) t103 t104 t105 t106 _ A16.out).mono ?_
       rintro e w20 ⟨rfl, hb⟩
       refine ⟨_, rfl, ?_⟩
       replace BK101 := Aside0.mk (blk_below (g := gb101) (o := .cells #[.int .i64 x102000_1, .int .i64 x102001_1, .string x102002_1, .string x102003_1] 35 (0, 0)) bk hb)
       replace BK102 := Aside0.mk (blk_below (g := gb102) (o := .cells #[.int .i64 0, .int .i64 0, .string (⟨#[]⟩ : ByteArray), .string (⟨#[]⟩ : ByteArray)] 35 (0, 0)) bk hb)
       replace HB := Aside0.mk (below_step bh hb)
       (try clear hb)
       (try clear hb2)
       (try clear hk)
       (try clear hi)
       refine hK.out _ _ ⟨bc BK101 0, bc BK101 1, bc BK101 2, bc BK101 3⟩ (fun hHeld => ?_)
       clear hK K
       refine nm 25 ?_
       refine last_ (i := 5) (N := none) #[true, true, true, true, true, true] rfl rfl (by kernel_rfl) (by decide) (fun K hK => ?_)
       have hs21 : w20.cell? ⟨gb101, 0, none⟩ = some (.int .i64 x102000_1) := bc BK101 0
       have hfs21 := blk_frozen BK101.out 0
       have hns21_1 := NB102_101.out
       have hms21_1 := NB101_102.out
       have hs22 : w20.cell? ⟨gb101, 1, none⟩ = some (.int .i64 x102001_1) := bc BK101 1
       have hfs22 := blk_frozen BK101.out 1
       have hns22_1 := NB102_101.out
       have hms22_1 := NB101_102.out
       have hs23 : w20.cell? ⟨gb101, 2, none⟩ = some (.string x102002_1) := bc BK101 2
       have hfs23 := blk_frozen BK101.out 2
       have hns23_1 := NB102_101.out
       have hms23_1 := NB101_102.out
       have hs24 : w20.cell? ⟨gb101, 3, none⟩ = some (.string x102003_1) := bc BK101 3
       have hfs24 := blk_frozen BK101.out 3
       have hns24_1 := NB102_101.out
       have hms24_1 := NB101_102.out
       refine skip_ (w1 := ?_) (by rfl) rfl ?_ ?_
       rotate_left
       ·
        go_simp
        rfl
       refine hK.out _ _ ?_
       clear hK K
       refine done_ (by kernel_rfl) ?_
       try go_wp2
       go_roundg k1
       case measure => have := HK1.out; omega
       case rel => exact ⟨(wrap64 (x6_1 + 1)), (t103), (t104), (t105), (t106), (by first | rfl | (simp; done) | (simp [*]; done)), H', ⟨by have := HK1.out; omega⟩, ⟨by (with_reducible repeat (first | refine blk_drewN ?_ _ | refine blk_drew ?_ | refine blk_alloc ?_ _)); refine blk_put (cs := #[.int .i64 t103, .int .i64 t104, .string t105, .string x102003_1]) ?_ 3 _ rfl; (with_reducible repeat (first | refine blk_drewN ?_ _ | refine blk_drew ?_ | refine blk_alloc ?_ _)); refine blk_put (cs := #[.int .i64 t103, .int .i64 t104, .string x102002_1, .string x102003_1]) ?_ 2 _ rfl; (with_reducible repeat (first | refine blk_drewN ?_ _ | refine blk_drew ?_ | refine blk_alloc ?_ _)); refine blk_put (cs := #[.int .i64 t103, .int .i64 x102001_1, .string x102002_1, .string x102003_1]) ?_ 1 _ rfl; (with_reducible repeat (first | refine blk_drewN ?_ _ | refine blk_drew ?_ | refine blk_alloc ?_ _)); refine blk_put (cs := #[.int .i64 x102000_1, .int .i64 x102001_1, .string x102002_1, .string x102003_1]) ?_ 0 _ rfl; (with_reducible repeat (first | refine blk_drewN ?_ _ | refine blk_drew ?_ | refine blk_alloc ?_ _)); exact BK101.out⟩, ⟨by (with_reducible repeat (first | refine blk_drewN ?_ _ | refine blk_drew ?_ | refine blk_alloc ?_ _)); refine blk_far ?_ NB102_101.out _; (with_reducible repeat (first | refine blk_drewN ?_ _ | refine blk_drew ?_ | refine blk_alloc ?_ _)); refine blk_far ?_ NB102_101.out _; (with_reducible repeat (first | refine blk_drewN ?_ _ | refine blk_drew ?_ | refine blk_alloc ?_ _)); refine blk_far ?_ NB102_101.out _; (with_reducible repeat (first | refine blk_drewN ?_ _ | refine blk_drew ?_ | refine blk_alloc ?_ _)); refine blk_far ?_ NB102_101.out _; (with_reducible repeat (first | refine blk_drewN ?_ _ | refine blk_drew ?_ | refine blk_alloc ?_ _)); exact BK102.out⟩, ⟨bh⟩⟩
      ·
       rw [if_neg c14] at H
       exact absurd H (by simp)
   ·
    rw [if_neg c5] at H
    have c5b0 : decide (x6_1 < (a1.size : Int)) = false := decide_eq_false c5
    clear c5
    simp only [Option.some.injEq, Prod.mk.injEq] at H
    obtain ⟨rfl, rfl, rfl, rfl, rfl⟩ := H
    have hnb25 := NB101_102.out
    have hnc25 := NB102_101.out
    have hcz26_0 : wr.cell? ⟨gb101, 0, none⟩ = some (.int .i64 x102000_1) := bc BK101 0
    have hcz26_1 : wr.cell? ⟨gb101, 1, none⟩ = some (.int .i64 x102001_1) := bc BK101 1
    have hcz26_2 : wr.cell? ⟨gb101, 2, none⟩ = some (.string x102002_1) := bc BK101 2
    have hcz26_3 : wr.cell? ⟨gb101, 3, none⟩ = some (.string x102003_1) := bc BK101 3
    have hfz26_0 := blk_frozen BK101.out 0
    have hfz26_1 := blk_frozen BK101.out 1
    have hfz26_2 := blk_frozen BK101.out 2
    have hfz26_3 := blk_frozen BK101.out 3
    have hcz27_0 : wr.cell? ⟨gb102, 0, none⟩ = some (.int .i64 0) := bc BK102 0
    have hcz27_1 : wr.cell? ⟨gb102, 1, none⟩ = some (.int .i64 0) := bc BK102 1
    have hcz27_2 : wr.cell? ⟨gb102, 2, none⟩ = some (.string (⟨#[]⟩ : ByteArray)) := bc BK102 2
    have hcz27_3 : wr.cell? ⟨gb102, 3, none⟩ = some (.string (⟨#[]⟩ : ByteArray)) := bc BK102 3
    have hfz27_0 := blk_frozen BK102.out 0
    have hfz27_1 := blk_frozen BK102.out 1
    have hfz27_2 := blk_frozen BK102.out 2
    have hfz27_3 := blk_frozen BK102.out 3
    go_wp2
    refine bodyPost_ret (results_ct rfl _ _ gb102 35 #[.int .i64 x102000_1, .int .i64 x102001_1, .string x102002_1, .string x102003_1] (0, 0) _ rfl bkp Tryd.underlying35 rfl (by kernel_rfl)) rfl ?_
    exact ⟨er, bh⟩
/-! ### impl_Unchunked: function 22 -/
def impl_Unchunked.f (k : Nat) (a0 : ByteArray) : Option (ByteArray × Int × Bool) := (impl_Chunker_eatAll.f k 1 0 (⟨#[]⟩ : ByteArray) (⟨#[]⟩ : ByteArray) a0).bind fun bt101 => (if bt101.1 = 8 then (some (bt101.2.2.2.1, bt101.2.2.2.2, true)) else (some ((⟨#[]⟩ : ByteArray), 0, false)))
theorem impl_Unchunked.mono : ∀ a0 k, LeO (impl_Unchunked.f k a0) (impl_Unchunked.f (k + 1) a0) := by
 intro a0 k
 unfold impl_Unchunked.f
 repeat' first
   | (with_reducible exact impl_Chunker_eatAll.mono _ _ _ _ _ _)
   | (with_reducible exact LeO.refl _)
   | (with_reducible exact LeO.none _)
   | (with_reducible refine LeO.ite ?_ ?_)
   | (with_reducible refine LeO.bind ?_ (fun _ => ?_))
   | exact impl_Chunker_eatAll.mono _ _ _ _ _ _
   | exact LeO.none _
   | refine LeO.ite ?_ ?_
   | refine LeO.bind ?_ (fun _ => ?_)
set_option maxHeartbeats 8000000 in
set_option maxRecDepth 100000 in
theorem impl_Unchunked.calls (k : Nat) (a0 : ByteArray) (r1 : ByteArray) (r2 : Int) (r3 : Bool) (w : World) (h : impl_Unchunked.f k a0 = some (r1, r2, r3)) :
  Calls Tryd.prog 22 #[.string a0] w fun e w' => e = .returned (.tuple #[.string r1, .int .i64 r2, .bool r3]) ∧ Below w.heap.size w w' := by
 have hu35 := Tryd.underlying35
 have HB := Aside0.mk (Below.refl w.heap.size w)
 have H : ((impl_Chunker_eatAll.f k 1 0 (⟨#[]⟩ : ByteArray) (⟨#[]⟩ : ByteArray) a0).bind fun bt101 => (if bt101.1 = 8 then (some (bt101.2.2.2.1, bt101.2.2.2.2, true)) else (some ((⟨#[]⟩ : ByteArray), 0, false)))) = some (r1, r2, r3) := h
 clear h
 obtain ⟨⟨t101, t102, t103, t104, t105⟩, A20, H⟩ := Option.bind_eq_some_iff.mp H
 try dsimp only at H
 have A2 := Aside0.mk A20
 clear A20
 by_cases c3 : t101 = 8
 ·
  rw [if_pos c3] at H
  have c3b0 : (t101 == 8) = true := beq_iff_eq.mpr c3
  have c3b1 : (t101 != 8) = false := bne_eq_false_iff_eq.mpr c3
  clear c3
  simp only [Option.some.injEq, Prod.mk.injEq] at H
  obtain ⟨rfl, rfl, rfl⟩ := H
  go_enter Tryd.func22, Tryd.ntmps22
  go_wp2_with (first | ((with_reducible refine gate_callee (f := 54) rfl ?_); refine goesL_ (some 10) rfl rfl Tryd.func54 (by kernel_rfl) rfl #[.agg #[.int .i64 1, .int .i64 0, .string (⟨#[]⟩ : ByteArray), .string (⟨#[]⟩ : ByteArray)], .string a0] rfl mc ?_; (with_reducible refine (impl_Chunker_eatAll.calls k 1 0 (⟨#[]⟩ : ByteArray) (⟨#[]⟩ : ByteArray) a0 t101 t102 t103 t104 t105 _ A2.out).mono ?_); rintro e w4 ⟨rfl, hb⟩; refine ⟨_, rfl, ?_⟩; replace HB := Aside0.mk (below_step bh hb); (try clear hb); (try clear hb2); (try clear hk); (try clear hi)) | ((with_reducible refine gate_dst (N := 5) rfl ?_); refine bx 5 #[.int .i64 0, .int .i64 0, .string (⟨#[]⟩ : ByteArray), .string (⟨#[]⟩ : ByteArray)] 35 ?_; intro gb106 hg w5 hbox hb; have BK106 := Aside0.mk (hbox); have GW106 := Aside0.mk (bz hg); have GE106 := Aside0.mk (bz hg); replace HB := Aside0.mk (below_step bh hb); clear hb hbox hg; have hcz6_0 : w5.cell? ⟨gb106, 0, none⟩ = some (.int .i64 0) := bc BK106 0; have hcz6_1 : w5.cell? ⟨gb106, 1, none⟩ = some (.int .i64 0) := bc BK106 1; have hcz6_2 : w5.cell? ⟨gb106, 2, none⟩ = some (.string (⟨#[]⟩ : ByteArray)) := bc BK106 2; have hcz6_3 : w5.cell? ⟨gb106, 3, none⟩ = some (.string (⟨#[]⟩ : ByteArray)) := bc BK106 3; have hfz6_0 := blk_frozen BK106.out 0; have hfz6_1 := blk_frozen BK106.out 1; have hfz6_2 := blk_frozen BK106.out 2; have hfz6_3 := blk_frozen BK106.out 3))
  go_ret3
  exact ⟨er, bh⟩
 ·
  rw [if_neg c3] at H
  have c3b0 : (t101 == 8) = false := beq_eq_false_iff_ne.mpr c3
  have c3b1 : (t101 != 8) = true := bne_iff_ne.mpr c3
  simp only [Option.some.injEq, Prod.mk.injEq] at H
  obtain ⟨rfl, rfl, rfl⟩ := H
  go_enter Tryd.func22, Tryd.ntmps22
  go_wp2_with (first | ((with_reducible refine gate_callee (f := 54) rfl ?_); refine goesL_ (some 10) rfl rfl Tryd.func54 (by kernel_rfl) rfl #[.agg #[.int .i64 1, .int .i64 0, .string (⟨#[]⟩ : ByteArray), .string (⟨#[]⟩ : ByteArray)], .string a0] rfl mc ?_; (with_reducible refine (impl_Chunker_eatAll.calls k 1 0 (⟨#[]⟩ : ByteArray) (⟨#[]⟩ : ByteArray) a0 t101 t102 t103 t104 t105 _ A2.out).mono ?_); rintro e w7 ⟨rfl, hb⟩; refine ⟨_, rfl, ?_⟩; replace HB := Aside0.mk (below_step bh hb); (try clear hb); (try clear hb2); (try clear hk); (try clear hi)) | ((with_reducible refine gate_dst (N := 5) rfl ?_); refine bx 5 #[.int .i64 0, .int .i64 0, .string (⟨#[]⟩ : ByteArray), .string (⟨#[]⟩ : ByteArray)] 35 ?_; intro gb106 hg w8 hbox hb; have BK106 := Aside0.mk (hbox); have GW106 := Aside0.mk (bz hg); have GE106 := Aside0.mk (bz hg); replace HB := Aside0.mk (below_step bh hb); clear hb hbox hg; have hcz9_0 : w8.cell? ⟨gb106, 0, none⟩ = some (.int .i64 0) := bc BK106 0; have hcz9_1 : w8.cell? ⟨gb106, 1, none⟩ = some (.int .i64 0) := bc BK106 1; have hcz9_2 : w8.cell? ⟨gb106, 2, none⟩ = some (.string (⟨#[]⟩ : ByteArray)) := bc BK106 2; have hcz9_3 : w8.cell? ⟨gb106, 3, none⟩ = some (.string (⟨#[]⟩ : ByteArray)) := bc BK106 3; have hfz9_0 := blk_frozen BK106.out 0; have hfz9_1 := blk_frozen BK106.out 1; have hfz9_2 := blk_frozen BK106.out 2; have hfz9_3 := blk_frozen BK106.out 3))
  go_ret3
  exact ⟨er, bh⟩
/-! ### laws_big: function 6 -/
def laws_big.f (l0 : List Int) : Option (Bool) := some (decide ((l0.length : Int) > 4096))
set_option maxHeartbeats 8000000 in
set_option maxRecDepth 100000 in
theorem laws_big.calls (A0 : Option Addr) (c0 : Nat) (l0 : List Int) (r : Bool) (w : World) (hr0 : Kd.C (Kd.int .u8) w A0 l0.length l0) (hc0 : l0.length ≤ c0) (h : laws_big.f l0 = some r) :
  Calls Tryd.prog 6 #[.slice A0 l0.length c0] w fun e w' => e = .returned (.bool r) ∧ Drawn0 w w' := by
 have HR0 := Aside0.mk hr0
 have HC0 := Aside0.mk hc0
 clear hr0 hc0
 have H : (some (decide ((l0.length : Int) > 4096))) = some r := h
 clear h
 obtain rfl := Option.some.inj H
 go_enter Tryd.func6, Tryd.ntmps6
 go_wp2
 go_ret
 exact ⟨by first | rfl | (simp; done) | (simp [*]; done), by repeat (first | exact Drawn0.refl _ | apply Drawn0.step)⟩
/-! ### laws_pick: function 25 -/
def laws_pick.l0 : Nat → List Int → Int → Int → Int → Int → Option (Int)
 | 0, _, _, _, _, _ => none
 | k + 1, x0, x1, x2, x7, x8 => if x8 < (x0.length : Int) then (if 0 ≤ x8 then (laws_pick.l0 k x0 x1 x2 (Int.tmod (wrap64 ((wrap64 ((wrap64 (x7 * 113)) + (wrap64 (rd x0 x8)))) + x1)) 1000003) (wrap64 (x8 + 1))) else (none)) else (if x2 = 0 then (none) else (some (Int.tmod x7 x2)))
def laws_pick.f (k : Nat) (l0 : List Int) (a1 : Int) (a2 : Int) : Option (Int) := laws_pick.l0 k l0 a1 a2 (wrap64 ((l0.length : Int) + (wrap64 (7919 * a1)))) 0
theorem laws_pick.mono_l : ∀ k, (∀ y0 y1 y2 y3 y4, LeO (laws_pick.l0 k y0 y1 y2 y3 y4) (laws_pick.l0 (k + 1) y0 y1 y2 y3 y4))
 | 0 => fun _ _ _ _ _ r h => by simp [laws_pick.l0] at h
 | k + 1 => by
  have ih0 := laws_pick.mono_l k
  ·
   intro y0 y1 y2 y3 y4
   unfold laws_pick.l0
   repeat' first
   | (with_reducible exact ih0 _ _ _ _ _)
   | (with_reducible exact LeO.refl _)
   | (with_reducible exact LeO.none _)
   | (with_reducible refine LeO.ite ?_ ?_)
   | (with_reducible refine LeO.bind ?_ (fun _ => ?_))
   | exact ih0 _ _ _ _ _
   | exact LeO.none _
   | refine LeO.ite ?_ ?_
   | refine LeO.bind ?_ (fun _ => ?_)
theorem laws_pick.mono : ∀ a0 a1 a2 k, LeO (laws_pick.f k a0 a1 a2) (laws_pick.f (k + 1) a0 a1 a2) := by
 intro a0 a1 a2 k
 have ih0 := laws_pick.mono_l k
 unfold laws_pick.f
 repeat' first
   | (with_reducible exact ih0 _ _ _ _ _)
   | (with_reducible exact LeO.refl _)
   | (with_reducible exact LeO.none _)
   | (with_reducible refine LeO.ite ?_ ?_)
   | (with_reducible refine LeO.bind ?_ (fun _ => ?_))
   | exact ih0 _ _ _ _ _
   | exact LeO.none _
   | refine LeO.ite ?_ ?_
   | refine LeO.bind ?_ (fun _ => ?_)
set_option maxHeartbeats 8000000 in
set_option maxRecDepth 100000 in
theorem laws_pick.calls (k : Nat) (A0 : Option Addr) (c0 : Nat) (l0 : List Int) (a1 : Int) (a2 : Int) (r : Int) (w : World) (hr0 : Kd.C (Kd.int .u8) w A0 l0.length l0) (hc0 : l0.length ≤ c0) (h : laws_pick.f k l0 a1 a2 = some r) :
  Calls Tryd.prog 25 #[.slice A0 l0.length c0, .int .i64 a1, .int .i64 a2] w fun e w' => e = .returned (.int .i64 r) ∧ Drawn0 w w' := by
 have HR0 := Aside0.mk hr0
 have HC0 := Aside0.mk hc0
 clear hr0 hc0
 have H : (laws_pick.l0 k l0 a1 a2 (wrap64 ((l0.length : Int) + (wrap64 (7919 * a1)))) 0) = some r := h
 clear h
 have H' := Aside0.mk H
 clear H
 go_enter Tryd.func25, Tryd.ntmps25
 go_wp2
 go_loopg [7, 8] k (fun kq v7 v8 w' => ∃ (x7_1 : Int) (x8_1 : Int), v7 = .int .i64 x7_1 ∧ v8 = .int .i64 x8_1 ∧ Aside0 (laws_pick.l0 kq l0 a1 a2 x7_1 x8_1 = some r) ∧ Aside0 (kq ≤ k) ∧ Drawn0 w w')
 case atStart => exact ⟨(wrap64 ((l0.length : Int) + (wrap64 (7919 * a1)))), (0), (by first | rfl | (simp; done) | (simp [*]; done)), (by first | rfl | (simp; done) | (simp [*]; done)), H', ⟨Nat.le_refl _⟩, by repeat (first | exact Drawn0.refl _ | apply Drawn0.step)⟩
 case round =>
  clear H'
  try clear c2
  try clear p2
  obtain ⟨x7_1, x8_1, rfl, rfl, HA, HK1, ⟨m1, rfl⟩⟩ := hrel
  cases gk with
  | zero => exact absurd HA.out (by simp [laws_pick.l0])
  | succ k1 =>
   have H := HA.out
   clear HA
   simp only [laws_pick.l0] at H
   by_cases c4 : x8_1 < (l0.length : Int)
   ·
    rw [if_pos c4] at H
    have c4b0 : decide (x8_1 < (l0.length : Int)) = true := decide_eq_true c4
    clear c4
    by_cases c5 : 0 ≤ x8_1
    ·
     rw [if_pos c5] at H
     have c5b0 : decide (0 ≤ x8_1) = true := decide_eq_true c5
     clear c5
     have H' := Aside0.mk H
     clear H
     have p101 : 0 ≤ (x8_1 : Int) := of_decide_eq_true (by first | (with_reducible assumption) | assumption)
     have q101 : x8_1 < (l0.length : Int) := of_decide_eq_true (by first | (with_reducible assumption) | assumption)
     obtain ⟨ad101, e101, hx101_0⟩ := Kd.at_int HR0.out x8_1 p101 q101
     cases e101
     replace p101 := eq_true p101
     replace q101 := eq_true q101
     go_wp2
     go_roundg k1
     case measure => have := HK1.out; omega
     case rel => exact ⟨(Int.tmod (wrap64 ((wrap64 ((wrap64 (x7_1 * 113)) + (wrap64 (rd l0 x8_1)))) + a1)) 1000003), (wrap64 (x8_1 + 1)), (by first | rfl | (simp; done) | (simp [*]; done)), (by first | rfl | (simp; done) | (simp [*]; done)), H', ⟨by have := HK1.out; omega⟩, by repeat (first | exact Drawn0.refl _ | apply Drawn0.step)⟩
    ·
     rw [if_neg c5] at H
     exact absurd H (by simp)
   ·
    rw [if_neg c4] at H
    have c4b0 : decide (x8_1 < (l0.length : Int)) = false := decide_eq_false c4
    clear c4
    by_cases c6 : a2 = 0
    ·
     rw [if_pos c6] at H
     exact absurd H (by simp)
    ·
     rw [if_neg c6] at H
     have c6b0 : (a2 == 0) = false := beq_eq_false_iff_ne.mpr c6
     have c6b1 : (a2 != 0) = true := bne_iff_ne.mpr c6
     obtain rfl := Option.some.inj H
     go_wp2
     go_ret
     exact ⟨by first | rfl | (simp; done) | (simp [*]; done), by repeat (first | exact Drawn0.refl _ | apply Drawn0.step)⟩
/-! ### spec_DrawChunked: function 19 -/
def spec_DrawChunked.f (k : Nat) (l0 : List Int) : Option (List ByteArray) := (spec_l1New.f k l0).bind fun bt101 => ((spec_l5DrawParts.f k bt101.1 bt101.2.1 bt101.2.2).bind fun bt105 => (some bt105.1))
theorem spec_DrawChunked.mono : ∀ a0 k, LeO (spec_DrawChunked.f k a0) (spec_DrawChunked.f (k + 1) a0) := by
 intro a0 k
 unfold spec_DrawChunked.f
 repeat' first
   | (with_reducible exact spec_l1New.mono _ _)
   | (with_reducible exact spec_l5DrawParts.mono _ _ _ _)
   | (with_reducible exact LeO.refl _)
   | (with_reducible exact LeO.none _)
   | (with_reducible refine LeO.ite ?_ ?_)
   | (with_reducible refine LeO.bind ?_ (fun _ => ?_))
   | exact spec_l1New.mono _ _
   | exact spec_l5DrawParts.mono _ _ _ _
   | exact LeO.none _
   | refine LeO.ite ?_ ?_
   | refine LeO.bind ?_ (fun _ => ?_)
set_option maxHeartbeats 8000000 in
set_option maxRecDepth 100000 in
theorem spec_DrawChunked.calls (k : Nat) (A0 : Option Addr) (c0 : Nat) (l0 : List Int) (r : List ByteArray) (w : World) (hr0 : Kd.C (Kd.int .u8) w A0 l0.length l0) (hc0 : l0.length ≤ c0) (h : spec_DrawChunked.f k l0 = some r) :
  Calls Tryd.prog 19 #[.slice A0 l0.length c0] w fun e w' => ∃ v0_ : Value, e = .returned (v0_) ∧ Kd.R Kd.string 9 w' w.heap.size (fun _ => True) v0_ r ∧ Below w.heap.size w w' := by
 have HR0 := Aside0.mk hr0
 have HC0 := Aside0.mk hc0
 clear hr0 hc0
 have HB := Aside0.mk (Below.refl w.heap.size w)
 have H : ((spec_l1New.f k l0).bind fun bt101 => ((spec_l5DrawParts.f k bt101.1 bt101.2.1 bt101.2.2).bind fun bt105 => (some bt105.1))) = some r := h
 clear h
 obtain ⟨⟨t101, t102, t103⟩, A20, H⟩ := Option.bind_eq_some_iff.mp H
 try dsimp only at H
 have A2 := Aside0.mk A20
 clear A20
 replace H := Option.bind_eq_some_iff.mp H
 obtain ⟨⟨t105, t108, t109⟩, A30, H⟩ := H
 replace H : (some t105) = some r := H
 have A3 := Aside0.mk A30
 clear A30
 obtain rfl := Option.some.inj H
 go_enter Tryd.func19, Tryd.ntmps19
 go_wp2_with (first | ((with_reducible refine gate_callee (f := 34) rfl ?_); refine goesL_ (some 5) rfl rfl Tryd.func34 (by kernel_rfl) rfl #[.slice A0 l0.length c0] rfl mc ?_; (with_reducible refine (spec_l1New.calls k _ _ l0 t101 t102 t103 w _ ?side1 ?side2 ?side3 A2.out).mono ?_); (case side1 => repeat (first | (with_reducible first | exact HB.out | apply below_alloc | apply pw_below_drewN | apply below_drew1) | exact HB.out)); (case side2 => exact HR0.out); (case side3 => exact HC0.out); rintro e w4 ⟨g104, rfl, hi, hb, hb2⟩; refine ⟨_, rfl, ?_⟩; have HI104 := Aside0.mk (hi); replace HB := Aside0.mk (hb); (try clear hb); (try clear hb2); (try clear hk); (try clear hi)) | ((with_reducible refine gate_callee (f := 49) rfl ?_); refine goesL_ (some 7) rfl rfl Tryd.func49 (by kernel_rfl) rfl #[.pointer (some ⟨g104, 0, none⟩)] rfl mc ?_; (with_reducible refine (spec_l5DrawParts.calls k g104 t101 t102 t103 t105 t108 t109 w _ ?side1 ?side2 A3.out).mono ?_); (case side1 => repeat (first | (with_reducible first | exact HI104.out | apply IsS76.alloc | apply IsS76.drewN | apply IsS76.drew | apply IsS76.set_1 | apply IsS76.set_2) | exact HI104.out)); (case side2 => repeat (first | (with_reducible first | exact HB.out | apply below_alloc | apply pw_below_drewN | apply below_drew1 | refine below_set ?_ (IsS76.ge HI104.out)) | exact HB.out)); rintro e w5 ⟨v106, rfl, ho0, hi, hb, hk⟩; refine ⟨_, rfl, ?_⟩; have HO107 := Aside0.mk (Kd.R_lower ho0 (below_size (by repeat (first | (with_reducible first | exact HB.out | apply below_alloc | apply pw_below_drewN | apply below_drew1 | refine below_set ?_ (IsS76.ge HI104.out)) | exact HB.out)))); replace HI104 := Aside0.mk (hi); replace HB := Aside0.mk (hb); (try clear hb); (try clear hb2); (try clear hk); (try clear hi); (try clear ho0)))
 go_ret
 exact ⟨_, er, by (with_reducible repeat (first | apply Kd.R_alloc | apply Kd.R_drewN | apply Kd.R_drew)); exact HO107.out, by repeat (first | (with_reducible first | exact HB.out | apply below_alloc | apply pw_below_drewN | apply below_drew1 | refine below_set ?_ (IsS76.ge HI104.out)) | exact HB.out)⟩
end Go.Proofs.YtfbgpjhnjdhpcaaDoor.P
namespace Go.Proofs.YtfbgpjhnjdhpcaaDoor.P
set_option linter.unusedVariables false
set_option linter.unusedSimpArgs false
open Go.RowKit Go.Lib Go.Proofs.YtfbgpjhnjdhpcaaDoorW.PrintWords Go.Proofs.YtfbgpjhnjdhpcaaDoorW.PrintLast Go.Proofs.YtfbgpjhnjdhpcaaDoorW.PrintMore
attribute [local go_sem] max2_int min2_int max_two min_two max_three min_three max_four min_four

/-- A row of bytes that the call may read, write and cut: one that it made, or a conversion's, which is stamped behind its end. -/
def BRow (b0 : Nat) (W : World) (v : Value) (xs : List Int) : Prop :=
  xs.length ≤ 140737488355328 ∧ ∃ A cap, v = .slice A xs.length cap ∧ xs.length ≤ cap ∧
    (0 < xs.length → ∃ B cur fz, A = some ⟨B, 0, none⟩ ∧ b0 ≤ B ∧ W.heap[B]? = some (.cells cur 5 fz) ∧ (fz = (0, 0) ∨ cur.size ≤ fz.1) ∧ ∀ (i : Nat) (x : Int), xs[i]? = some x → cur[i]? = some (.int .u8 x))
section
variable {b0 : Nat} {W W' : World} {v : Value} {xs : List Int}
theorem BRow.le (h : BRow b0 W v xs) : xs.length ≤ 140737488355328 := h.1
theorem BRow.slice (h : BRow b0 W v xs) : ∃ A c, v = .slice A xs.length c ∧ xs.length ≤ c := by
  obtain ⟨_, A, c, e, hc, _⟩ := h
  exact ⟨A, c, e, hc⟩
theorem BRow.move (h : BRow b0 W v xs) (hm : ∀ k cur fz, v.ownBlock = some k → b0 ≤ k → W.heap[k]? = some (.cells cur 5 fz) → W'.heap[k]? = W.heap[k]?) : BRow b0 W' v xs := by
  obtain ⟨hl, A, cap, rfl, hc, hr⟩ := h
  refine ⟨hl, A, cap, rfl, hc, fun hn => ?_⟩
  obtain ⟨B, cur, fz, rfl, hB, hh, hf, hx⟩ := hr hn
  exact ⟨B, cur, fz, rfl, hB, (hm B cur fz (by simp [Value.ownBlock]) hB hh).trans hh, hf, hx⟩
theorem BRow.below (h : BRow b0 W v xs) (hb : Below W.heap.size W W') : BRow b0 W' v xs := h.move fun k cur fz _ _ hh => hb.block k (blk_lt hh)
theorem BRow.grown {row : Option Nat} (h : BRow b0 W v xs) (hg : W.grownBy W' row) (hne : ∀ k, v.ownBlock = some k → some k ≠ row) : BRow b0 W' v xs := h.move fun k cur fz hk _ hh => hg.block k (blk_lt hh) (hne k hk)
theorem BRow.keep {w0 : World} {g : Nat} {f0 : List Int} {f1 f2 : Int} (h : BRow b0 W v xs) (hI : IsS76 w0 W g f0 f1 f2) (hk : KeepBut W W' g none) : BRow b0 W' v xs :=
  h.move fun k cur fz _ _ hh => hk.2 k (blk_lt hh) (fun e => IsS76.ne_blk hI hh (by decide) e.symm) (by simp)
theorem BRow.of_R {ok : Nat → Prop} (h : (Kd.int .u8).R 5 W b0 ok v xs) (hl : xs.length ≤ 140737488355328) : BRow b0 W v xs := by
  have ho := Kd.own_of_R h
  rcases ho.2 with ⟨rfl, hn⟩ | ⟨B, cap, cur, rfl, hB, hh, hc, _, hs, ht⟩
  · refine ⟨hl, none, 0, by rw [hn], by omega, fun h0 => absurd hn (by omega)⟩
  · refine ⟨hl, _, cap, rfl, hc, fun _ => ⟨B, cur, (0, 0), rfl, hB, hh, .inl rfl, fun i x hx => ?_⟩⟩
    have hi := (List.getElem?_eq_some_iff.1 hx).1
    have h1 : (encs (Value.int .u8) xs)[i]? = some (.int .u8 x) := by simp [encs, hx]
    rw [← ht, List.getElem?_take_of_lt (by omega), Array.getElem?_toList] at h1
    exact h1
theorem BRow.cell {A : Option Addr} {n c : Nat} (h : BRow b0 W (.slice A n c) xs) (i : Int) (h0 : 0 ≤ i) (hi : i < n) :
    ∃ B, A = some ⟨B, 0, none⟩ ∧ b0 ≤ B ∧ B < W.heap.size ∧ W.cell? ⟨B, i.toNat, none⟩ = some (.int .u8 (rdOf 0 xs i)) ∧ W.frozen? ⟨B, i.toNat, none⟩ = false ∧ ∃ cur fz, W.heap[B]? = some (.cells cur 5 fz) := by
  obtain ⟨hl, A2, cap, e, hc, hr⟩ := h
  injection e with e1 e2 e3
  subst e1 e2 e3
  obtain ⟨B, cur, fz, rfl, hB, hh, hf, hx⟩ := hr (by omega)
  have hlt : i.toNat < xs.length := by omega
  have hcu := hx i.toNat _ (List.getElem?_eq_getElem hlt)
  have hrd : rdOf 0 xs i = xs[i.toNat] := by simp [rdOf, List.getD_eq_getElem?_getD, hlt]
  have hsz : i.toNat < cur.size := (Array.getElem?_eq_some_iff.1 hcu).1
  refine ⟨B, rfl, hB, blk_lt hh, by rw [cell_of_row W B i.toNat cur _ fz hh, hrd]; exact hcu, ?_, cur, fz, hh⟩
  obtain ⟨lo, hi2⟩ := fz
  simp only [World.frozen?, hh, Bool.and_eq_false_iff, decide_eq_false_iff_not]
  rcases hf with hf | hf
  · right
    have : hi2 = 0 := by injection hf
    omega
  · left
    simp only at hf
    omega
theorem BRow.set {B n c : Nat} (h : BRow b0 W (.slice (some ⟨B, 0, none⟩) n c) xs) (i : Int) (x : Int) : BRow b0 (W.setCell ⟨B, i.toNat, none⟩ (.int .u8 x)) (.slice (some ⟨B, 0, none⟩) n c) (xs.set i.toNat x) := by
  obtain ⟨hl, A2, cap, e, hc, hr⟩ := h
  injection e with e1 e2 e3
  subst e1 e2 e3
  refine ⟨by rw [List.length_set]; exact hl, _, _, by rw [List.length_set], by rw [List.length_set]; exact hc, fun hn => ?_⟩
  rw [List.length_set] at hn
  obtain ⟨B2, cur, fz, e, hB, hh, hf, hx⟩ := hr hn
  have : B = B2 := by injection e with e; injection e
  subst this
  refine ⟨B, cur.setIfInBounds i.toNat (.int .u8 x), fz, rfl, hB, _root_.Go.Lib.heap_setCell_same hh _, by rw [Array.size_setIfInBounds]; exact hf, fun j y hy => ?_⟩
  rw [List.getElem?_set] at hy
  by_cases hj : i.toNat = j
  · rw [if_pos hj] at hy
    subst hj
    by_cases hlt : i.toNat < xs.length
    · rw [if_pos hlt] at hy
      obtain rfl := Option.some.inj hy
      have hcu := hx i.toNat _ (List.getElem?_eq_getElem hlt)
      have hsz : i.toNat < cur.size := (Array.getElem?_eq_some_iff.1 hcu).1
      rw [Array.getElem?_setIfInBounds_self_of_lt hsz]
    · rw [if_neg hlt] at hy
      cases hy
  · rw [if_neg hj] at hy
    rw [Array.getElem?_setIfInBounds_ne hj]
    exact hx j y hy
theorem BRow.take {A : Option Addr} {n c m : Nat} (h : BRow b0 W (.slice A n c) xs) (hm : m ≤ n) : BRow b0 W (.slice A m c) (xs.take m) := by
  obtain ⟨hl, A2, cap, e, hc, hr⟩ := h
  injection e with e1 e2 e3
  subst e1 e2 e3
  have hlt : (xs.take m).length = m := by rw [List.length_take]; omega
  refine ⟨by omega, _, _, by rw [hlt], by omega, fun hn => ?_⟩
  obtain ⟨B, cur, fz, rfl, hB, hh, hf, hx⟩ := hr (by omega)
  refine ⟨B, cur, fz, rfl, hB, hh, hf, fun i x hi => hx i x ?_⟩
  have hlt2 := (List.getElem?_eq_some_iff.1 hi).1
  rw [List.getElem?_take_of_lt (by omega)] at hi
  exact hi
theorem BRow.reads {A : Option Addr} {n c : Nat} (h : BRow b0 W (.slice A n c) xs) : n = xs.length ∧ n ≤ c ∧ Kd.C (Kd.int .u8) W A xs.length xs := by
  have h2 := h
  obtain ⟨hl, A2, cap, e, hc, hr⟩ := h2
  injection e with e1 e2 e3
  subst e1 e2 e3
  refine ⟨rfl, hc, Kd.C_of_reads (enc := Value.int .u8) (d := (0 : Int)) (h1 := fun _ => rfl) ⟨rfl, by omega, fun hn => ?_⟩⟩
  obtain ⟨B, cur, fz, rfl, hB, hh, hf, hx⟩ := hr hn
  refine ⟨_, rfl, fun j hj => ?_⟩
  have ha : (⟨B, 0, none⟩ : Addr).add j = ⟨B, j, none⟩ := by unfold Addr.add; split <;> simp_all
  rw [ha, cell_of_row W B j cur _ fz hh, hx j _ (List.getElem?_eq_getElem hj)]
  simp [List.getD_eq_getElem?_getD, hj]
end
theorem BRow.conv (b0 : Nat) (W : World) (s : ByteArray) (hb : b0 ≤ W.heap.size) (hs : s.size ≤ 140737488355328) : BRow b0 (Lib.bytesWorld W 5 s) (.slice (some ⟨W.heap.size, 0, none⟩) s.size (grownCap W s.size 0 5)) (bytesOf s) := by
  have hl := bytesOf_length s
  refine ⟨by omega, _, _, by rw [hl], by rw [hl]; exact grownCap_ge _ _ _ _, fun hn => ⟨W.heap.size, Lib.bytesCells W 5 s, _, rfl, hb, Lib.bytesWorld_at_new W _ s, .inr (Nat.le_refl _), fun i x hx => ?_⟩⟩
  have hi := (List.getElem?_eq_some_iff.1 hx).1
  have hi2 : i < s.size := by omega
  unfold bytesOf at hx
  unfold Lib.bytesCells
  rw [Array.getElem?_append_left (by simpa using hi2)]
  simp only [List.getElem?_map, Option.map_eq_some_iff] at hx
  obtain ⟨y, hy, rfl⟩ := hx
  simp only [Array.getElem?_toList] at hy
  simp [hy]
end Go.Proofs.YtfbgpjhnjdhpcaaDoor.P
namespace Go.Proofs.YtfbgpjhnjdhpcaaDoor.P
set_option linter.unusedVariables false
set_option linter.unusedSimpArgs false
open Go.RowKit Go.Lib Go.Proofs.YtfbgpjhnjdhpcaaDoorW.PrintWords Go.Proofs.YtfbgpjhnjdhpcaaDoorW.PrintLast Go.Proofs.YtfbgpjhnjdhpcaaDoorW.PrintMore
attribute [local go_sem] max2_int min2_int max_two min_two max_three min_three max_four min_four

def bendL (s : ByteArray) (b : List Int) : Nat → List Int → Int → Int → Int → Option (ByteArray × Int × Int)
  | 0, _, _, _, _ => none
  | k + 1, x, n, i, h =>
    if n > 0 ∧ 0 < x.length then
      (spec_l1Below.f b i h (x.length : Int)).bind fun r1 => (spec_l1Below.f b r1.2.1 r1.2.2 4).bind fun r2 =>
        if 0 ≤ r1.1 ∧ r1.1 < (x.length : Int) ∧ x.length < 1000000000 then
          if r2.1 = 0 then (spec_l1Below.f b r2.2.1 r2.2.2 (s.size : Int)).bind fun r3 => if 0 ≤ r3.1 ∧ r3.1 < (s.size : Int) then bendL s b k (x.set r1.1.toNat (bt s r3.1)) (wrap64 (n - 1)) r3.2.1 r3.2.2 else none
          else if r2.1 = 1 then bendL s b k (x.take r1.1.toNat) (wrap64 (n - 1)) r2.2.1 r2.2.2
          else if r2.1 = 2 then bendL s b k (x.take r1.1.toNat ++ x.drop (r1.1 + 1).toNat) (wrap64 (n - 1)) r2.2.1 r2.2.2
          else if r2.1 = 3 then (spec_l1Below.f b r2.2.1 r2.2.2 (s.size : Int)).bind fun r3 => if 0 ≤ r3.1 ∧ r3.1 < (s.size : Int) then bendL s b k (x.take r1.1.toNat ++ [bt s r3.1] ++ x.drop r1.1.toNat) (wrap64 (n - 1)) r3.2.1 r3.2.2 else none
          else bendL s b k x (wrap64 (n - 1)) r2.2.1 r2.2.2
        else none
    else some (strOfNums x, i, h)
theorem bendL_mono (s : ByteArray) (b : List Int) : ∀ (k : Nat) (x : List Int) (n i h : Int), LeO (bendL s b k x n i h) (bendL s b (k + 1) x n i h) := by
  intro k
  induction k with
  | zero => intro x n i h; exact LeO.none _
  | succ k ih =>
    intro x n i h
    rw [bendL, bendL]
    refine LeO.ite (LeO.bind (LeO.refl _) fun r1 => LeO.bind (LeO.refl _) fun r2 => LeO.ite ?_ (LeO.none _)) (LeO.refl _)
    refine LeO.ite (LeO.bind (LeO.refl _) fun r3 => LeO.ite (ih _ _ _ _) (LeO.none _)) (LeO.ite (ih _ _ _ _) (LeO.ite (ih _ _ _ _) (LeO.ite (LeO.bind (LeO.refl _) fun r3 => LeO.ite (ih _ _ _ _) (LeO.none _)) (ih _ _ _ _))))
def spec_l1Bend.f (k : Nat) (s0_0 : List Int) (s0_1 : Int) (s0_2 : Int) (a1 : ByteArray) (a2 : ByteArray) : Option (ByteArray × Int × Int) :=
  if a1.size < 1000000000 then (spec_l1Below.f s0_0 s0_1 s0_2 3).bind fun r => bendL a2 s0_0 k (bytesOf a1) r.1 r.2.1 r.2.2 else none
theorem spec_l1Bend.mono : ∀ a0 a1 a2 a3 a4 k, LeO (spec_l1Bend.f k a0 a1 a2 a3 a4) (spec_l1Bend.f (k + 1) a0 a1 a2 a3 a4) := by
  intro a0 a1 a2 a3 a4 k
  unfold spec_l1Bend.f
  exact LeO.ite (LeO.bind (LeO.refl _) fun r => bendL_mono _ _ _ _ _ _ _) (LeO.none _)

/-- What stands at a round: the cursor, the world of the caller, the row. -/
def BendAt (w0 w : World) (g : Nat) (b : List Int) (i h : Int) (v : Value) (x : List Int) (W : World) : Prop :=
  IsS76 w0 W g b i h ∧ KeepBut w W g none ∧ Below w0.heap.size w0 W ∧ BRow w.heap.size W v x
section
variable {w0 w W W' : World} {g : Nat} {b x : List Int} {i h : Int} {v : Value}
theorem BendAt.below (q : BendAt w0 w g b i h v x W) (hb : Below W.heap.size W W') (hL : w0.heap.size ≤ w.heap.size) : BendAt w0 w g b i h v x W' :=
  ⟨IsS76.below q.1 hb, KeepBut.trans q.2.1 (KeepBut.of_below hb g none) (.inl rfl), below_weaken q.2.2.1 (Nat.le_trans hL q.2.1.1) hb, q.2.2.2.below hb⟩
theorem bend_below (q : BendAt w0 w g b i h v x W) (n t i2 h2 : Int) (A : spec_l1Below.f b i h n = some (t, i2, h2)) :
    Calls Tryd.prog 36 #[.pointer (some ⟨g, 0, none⟩), .int .i64 n] W fun e W' => e = .returned (.int .i64 t) ∧ BendAt w0 w g b i2 h2 v x W' ∧ KeepBut W W' g none :=
  (spec_l1Below.calls g b i h n t i2 h2 w0 W q.1 q.2.2.1 A).mono fun e W' ⟨he, hi, hb, hk⟩ => ⟨he, ⟨hi, KeepBut.trans q.2.1 hk (.inl rfl), hb, q.2.2.2.keep q.1 hk⟩, hk⟩
theorem BendAt.store {B n c : Nat} (q : BendAt w0 w g b i h (.slice (some ⟨B, 0, none⟩) n c) x W) (hL : w0.heap.size ≤ w.heap.size) (hB : w.heap.size ≤ B) (hcur : ∃ cur fz, W.heap[B]? = some (.cells cur 5 fz)) (j : Int) (y : Int) :
    BendAt w0 w g b i h (.slice (some ⟨B, 0, none⟩) n c) (x.set j.toNat y) (W.setCell ⟨B, j.toNat, none⟩ (.int .u8 y)) := by
  obtain ⟨cur, fz, hh⟩ := hcur
  refine ⟨IsS76.far q.1 (IsS76.ne_blk q.1 hh (by decide)) _, ⟨by simpa [World.setCell] using q.2.1.1, fun k hk hg hr => ?_⟩, below_set q.2.2.1 (Nat.le_trans hL hB), q.2.2.2.set j y⟩
  exact (Below.heap_setCell W ⟨B, j.toNat, none⟩ _ k (by show k ≠ B; omega)).trans (q.2.1.2 k hk hg hr)
theorem BendAt.cell {B n c : Nat} (q : BendAt w0 w g b i h (.slice (some ⟨B, 0, none⟩) n c) x W) (j : Int) (h0 : 0 ≤ j) (h1 : j < n) :
    w.heap.size ≤ B ∧ W.cell? ⟨B, j.toNat, none⟩ = some (.int .u8 (rdOf 0 x j)) ∧ W.frozen? ⟨B, j.toNat, none⟩ = false ∧ ∃ cur fz, W.heap[B]? = some (.cells cur 5 fz) := by
  obtain ⟨B2, e, hB, _, hc, hf, hcur⟩ := q.2.2.2.cell j h0 h1
  have : B = B2 := by injection e with e; injection e
  subst this
  exact ⟨hB, hc, hf, hcur⟩
theorem BendAt.take {A : Option Addr} {n c m : Nat} (q : BendAt w0 w g b i h (.slice A n c) x W) (hm : m ≤ n) : BendAt w0 w g b i h (.slice A m c) (x.take m) W := ⟨q.1, q.2.1, q.2.2.1, q.2.2.2.take hm⟩
theorem BendAt.alloc (q : BendAt w0 w g b i h v x W) (hL : w0.heap.size ≤ w.heap.size) (o : Obj) : BendAt w0 w g b i h v x (W.alloc o) := q.below (below_alloc (Below.refl _ _) o) hL
theorem BendAt.drew (q : BendAt w0 w g b i h v x W) (hL : w0.heap.size ≤ w.heap.size) : BendAt w0 w g b i h v x W.drew := q.below (below_drew (Below.refl _ _)) hL
theorem BendAt.grown {row : Option Nat} (q : BendAt w0 w g b i h v x W) (hL : w0.heap.size ≤ w.heap.size) (hg : W.grownBy W' row) (hne : ∀ k, row = some k → w.heap.size ≤ k ∧ k ≠ g ∧ v.ownBlock ≠ some k) (hb : Below w.heap.size W W') : BendAt w0 w g b i h v x W' :=
  ⟨IsS76.grown q.1 hg (fun e => (hne g e.symm).2.1 rfl), KeepBut.trans q.2.1 (KeepBut.of_grown hg g) (by
    cases hr : row with
    | none => exact .inl rfl
    | some k => exact .inr ⟨k, rfl, (hne k hr).1⟩), below_weaken q.2.2.1 hL hb, q.2.2.2.grown hg (fun k hk e => (hne k e.symm).2.2 hk)⟩
theorem BendAt.fresh {v1 : Value} {ys : List Int} {ok : Nat → Prop} (q : BendAt w0 w g b i h v x W) (hO : Kd.R (Kd.int .u8) 5 W w.heap.size ok v1 ys) (hl : ys.length ≤ 140737488355328) : BendAt w0 w g b i h v1 ys W := ⟨q.1, q.2.1, q.2.2.1, BRow.of_R hO hl⟩
theorem BendAt.lt {B n c : Nat} (q : BendAt w0 w g b i h (.slice (some ⟨B, 0, none⟩) n c) x W) (hn : 0 < n) : B < W.heap.size := by
  obtain ⟨B2, e, _, hlt, _⟩ := q.2.2.2.cell 0 (Int.le_refl 0) (by omega)
  have : B = B2 := by injection e with e; injection e
  omega
theorem BendAt.readC {A : Option Addr} {n c m : Nat} (q : BendAt w0 w g b i h (.slice A n c) x W) (hm : m ≤ n) : Kd.C (Kd.int .u8) W A m (x.take m) := by
  obtain ⟨e, _, hc⟩ := BRow.reads (q.take hm).2.2.2
  rw [← e] at hc
  exact hc
theorem BendAt.readD {A : Option Addr} {n c m : Nat} (q : BendAt w0 w g b i h (.slice A n c) x W) (hm : m ≤ n) : Kd.C (Kd.int .u8) W (if c = m then A else A.map (·.add (m * 1))) (n - m) (x.drop m) := by
  obtain ⟨e, e2, hc⟩ := BRow.reads q.2.2.2
  have := Kd.C_drop (c := c) (m := m) hc (by omega) (by omega)
  rw [List.length_drop, ← e] at this
  exact this
theorem BendAt.readB {B n c m : Nat} (q : BendAt w0 w g b i h (.slice (some ⟨B, 0, none⟩) n c) x W) (hm : m ≤ n) : Kd.C (Kd.int .u8) W (if c = m then some ⟨B, 0, none⟩ else some ⟨B, m, none⟩) (n - m) (x.drop m) := by
  have := q.readD hm
  have e : (⟨B, 0, none⟩ : Addr).add (m * 1) = ⟨B, m, none⟩ := by
    unfold Addr.add
    split <;> simp_all
  rw [Option.map_some, e] at this
  exact this
theorem lit_C (W : World) (y : Int) : Kd.C (Kd.int .u8) (W.alloc (.cells #[.int .u8 y] 5)) (some ⟨W.heap.size, 0, none⟩) 1 [y] :=
  Kd.C_of_reads (enc := Value.int .u8) (d := (0 : Int)) (h1 := fun _ => rfl) ⟨rfl, by decide, fun _ => ⟨_, rfl, fun j hj => by
    have : j = 0 := by omega
    subst this
    exact (blk_cell (blk_new W _) 0).trans rfl⟩⟩
/-- An empty row of the call's own. -/
theorem R_empty {base D : Nat} {ok : Nat → Prop} (hh : W.heap[D]? = some (.cells #[] 5 (0, 0))) (hb : base ≤ D) (ho : ok D) : Kd.R (Kd.int .u8) 5 W base ok (.slice (some ⟨D, 0, none⟩) 0 0) [] :=
  ⟨fun k hk => by
    have : D = k := by simpa [Value.ownBlock] using hk
    subst this
    exact ho, [], ⟨rfl, .inr ⟨D, 0, #[], rfl, hb, hh, Nat.le_refl _, Nat.zero_le _, rfl, rfl⟩⟩, Reps.none _ _⟩
end
section
variable {ops : Array Oper} {o : Oper} {a : Act} {Q : Exit → Act → World → Prop} {Kc : Act → World → Prop} {w0 w W : World} {g : Nat} {b x : List Int} {i h : Int} {bv : Value}
/-- Bytes put behind a row of the call's own, in a region that draws its order. -/
theorem bend_append {P : Program} (ht : P.underlying 22 = some (.slice 5)) (hi : (P.info? 5).map (fun i => (i.zero, i.size, i.bytes)) = some (some (.int .u8 0), 1, 1)) (hw : Region.wanted o (yielded ops a.tmps) = true) (s y : Operand)
    (ho : o.op = .call { callee := .builtin .append, args := #[s, y], argTypes := #[22, 22] }) (v : Value) (ys zs : List Int) (A : Option Addr) (m c : Nat) (ok : Nat → Prop) (hs : a.eval s = v) (hy : a.eval y = .slice A m c)
    (q : BendAt w0 w g b i h bv x W) (hL : w0.heap.size ≤ w.heap.size) (hO : Kd.R (Kd.int .u8) 5 W w.heap.size ok v ys) (hok : ∀ k, ok k → bv.ownBlock ≠ some k) (hfresh : ∀ k, W.heap.size ≤ k → ok k) (hR : Kd.C (Kd.int .u8) W A m zs) (hl : ys.length + m ≤ 140737488355328)
    (hK : ∀ v1 W1, Kd.R (Kd.int .u8) 5 W1 w.heap.size ok v1 (ys ++ zs) → BendAt w0 w g b i h bv x W1 → W.grownBy W1 v.ownBlock → Kc (a.put o.dst v1) W1) :
    if Region.wanted o (yielded ops a.tmps) = true then Oper.wp P o a W Kc Q else Kc (a.put o.dst undef) W := by
  refine Kd.R_append_rows_step (Kd.int .u8) (w0 := W) w.heap.size hw s y 22 5 (.int .u8 0) 1 ho ht hi rfl (by decide) (by omega) v ys zs A m c ok (fun _ => False) hs hy hO hR (fun _ _ h => h) (fun _ h => h.elim) hfresh (Below.refl _ _) q.2.1.1 (by omega) ?_
  intro v1 W1 hr hb hg _
  refine hK v1 W1 hr (q.grown hL hg (fun k hk => ⟨Kd.R_base hO k hk, fun e => IsS76.own_ne q.1 hO (by decide) (by rw [hk, e]), hok k (hO.1 k hk)⟩) hb) hg
end
set_option maxHeartbeats 8000000 in
set_option maxRecDepth 100000 in
theorem spec_l1Bend.calls (k : Nat) (g : Nat) (s0_0 : List Int) (s0_1 : Int) (s0_2 : Int) (a1 : ByteArray) (a2 : ByteArray) (r1 : ByteArray) (r2 : Int) (r3 : Int) (w0 w : World) (hI : IsS76 w0 w g s0_0 s0_1 s0_2) (hB : Below w0.heap.size w0 w) (h : spec_l1Bend.f k s0_0 s0_1 s0_2 a1 a2 = some (r1, r2, r3)) :
    Calls Tryd.prog 39 #[.pointer (some ⟨g, 0, none⟩), .string a1, .string a2] w fun e w' => e = .returned (.string r1) ∧ IsS76 w0 w' g s0_0 r2 r3 ∧ Below w0.heap.size w0 w' ∧ KeepBut w w' g none := by
  unfold spec_l1Bend.f at h
  by_cases hs : a1.size < 1000000000
  · rw [if_pos hs] at h
    obtain ⟨⟨n0, i0, h0⟩, hn0, h⟩ := Option.bind_eq_some_iff.mp h
    have HA := Aside0.mk (show bendL a2 s0_0 k (bytesOf a1) n0 i0 h0 = some (r1, r2, r3) from h)
    have A0 := Aside0.mk hn0
    have HL := Aside0.mk hB.size
    have hbw : Below w.heap.size w (Lib.bytesWorld w 5 a1) := ⟨by simp [Lib.bytesWorld, World.freeze]; rfl, by simp [Lib.bytesWorld, World.freeze], by simp [Lib.bytesWorld, World.freeze]; rfl, by rw [Lib.bytesWorld_size]; omega, fun j hj => Lib.bytesWorld_at_old w _ a1 j hj⟩
    have Q0 := Aside0.mk (show BendAt w0 w g s0_0 s0_1 s0_2 (.slice (some ⟨w.heap.size, 0, none⟩) a1.size (grownCap w a1.size 0 5)) (bytesOf a1) (Lib.bytesWorld w 5 a1) from
      ⟨IsS76.below hI hbw, KeepBut.of_below hbw g none, below_weaken hB hB.size hbw, BRow.conv w.heap.size w a1 (Nat.le_refl _) (by omega)⟩)
    have hcv1 := Lib.run_convert_string_bytes (P := Tryd.prog) w 9 22 5 a1 Tryd.underlying9 Tryd.underlying22 Tryd.underlying5
    clear h hn0 hI hB hs hbw
    go_enter Tryd.func39, Tryd.ntmps39
    go_wp2_with (go_at_call 36; with_reducible refine (bend_below Q0.out 3 n0 i0 h0 A0.out).mono ?_; rintro e w1 ⟨rfl, q1, _⟩; have Q1 := Aside0.mk q1; clear q1)
    clear hcv1
    generalize grownCap w a1.size 0 5 = c0 at *
    go_loopg [7, 8, 9] k (fun kq v7 v8 v9 W => ∃ (x : List Int) (n i h : Int), v8 = .int .i64 n ∧ Aside0 (bendL a2 s0_0 kq x n i h = some (r1, r2, r3)) ∧ Aside0 (kq ≤ k) ∧ Aside0 (BendAt w0 w g s0_0 i h v7 x W))
    case atStart => exact ⟨bytesOf a1, n0, i0, h0, rfl, HA, ⟨Nat.le_refl _⟩, Q1⟩
    case round =>
      clear HA A0 Q0 Q1
      obtain ⟨x, n, i, h, rfl, HA, HK, HQ⟩ := hrel
      cases gk with
      | zero => exact absurd HA.out (by simp [bendL])
      | succ k1 =>
        have H := HA.out
        clear HA
        rw [bendL] at H
        obtain ⟨A7, c7, rfl, hc7⟩ := BRow.slice HQ.out.2.2.2
        by_cases cn : n > 0 ∧ 0 < x.length
        · rw [if_pos cn] at H
          obtain ⟨cn1, cn2⟩ := cn
          obtain ⟨⟨t1, i1, h1⟩, e1, H⟩ := Option.bind_eq_some_iff.mp H
          obtain ⟨⟨t2, i2, h2⟩, e2, H⟩ := Option.bind_eq_some_iff.mp H
          dsimp only at H e1 e2
          by_cases ct : 0 ≤ t1 ∧ t1 < (x.length : Int) ∧ x.length < 1000000000
          · rw [if_pos ct] at H
            obtain ⟨ct1, ct2, ct3⟩ := ct
            have E1 := Aside0.mk e1
            have E2 := Aside0.mk e2
            have CT3 := Aside0.mk ct3
            have cn1b : decide (0 < n) = true := decide_eq_true cn1
            have cn2b : (0 < x.length) = True := eq_true cn2
            clear e1 e2 cn1 cn2 ct3
            by_cases z0 : t2 = 0
            · rw [if_pos z0] at H
              subst z0
              obtain ⟨⟨t3, i3, h3⟩, e3, H⟩ := Option.bind_eq_some_iff.mp H
              dsimp only at H e3
              by_cases cu : 0 ≤ t3 ∧ t3 < (a2.size : Int)
              · rw [if_pos cu] at H
                have E3 := Aside0.mk e3
                have HA := Aside0.mk H
                clear H e3
                obtain ⟨B, eB, hB, _⟩ := BRow.cell HQ.out.2.2.2 t1 ct1 ct2
                subst eB
                have HB := Aside0.mk hB
                clear hB
                have p3 := eq_true cu.1
                have q3 := eq_true cu.2
                have hx3 := bt_at a2 t3
                clear cu
                go_wp2_with (first
                  | (go_at_call 36; with_reducible refine (bend_below HQ.out (x.length : Int) t1 i1 h1 E1.out).mono ?_; rintro e w5 ⟨rfl, q_, _⟩; have Q1 := Aside0.mk q_; clear q_)
                  | (go_at_call 36; with_reducible refine (bend_below Q1.out 4 0 i2 h2 E2.out).mono ?_; rintro e w6 ⟨rfl, q_, _⟩; have Q2 := Aside0.mk q_; clear q_)
                  | (go_at_call 36; with_reducible refine (bend_below Q2.out (a2.size : Int) t3 i3 h3 E3.out).mono ?_; rintro e w7 ⟨rfl, q_, _⟩; have Q3 := Aside0.mk q_; clear q_; obtain ⟨_, hc7, hf7, _⟩ := BendAt.cell Q3.out t1 ct1 ct2))
                go_roundg k1
                case measure => omega
                case rel => exact ⟨x.set t1.toNat (bt a2 t3), wrap64 (n - 1), i3, h3, by first | rfl | simp, HA, ⟨by have := HK.out; omega⟩, ⟨BendAt.store Q3.out HL.out HB.out (BendAt.cell Q3.out t1 ct1 ct2).2.2.2 t1 (bt a2 t3)⟩⟩
              · rw [if_neg cu] at H
                cases H
            · rw [if_neg z0] at H
              by_cases z1 : t2 = 1
              · rw [if_pos z1] at H
                subst z1
                have HA := Aside0.mk H
                clear H
                have ct3 : t1 ≤ (c7 : Int) := by omega
                go_wp2_with (first
                  | (go_at_call 36; with_reducible refine (bend_below HQ.out (x.length : Int) t1 i1 h1 E1.out).mono ?_; rintro e w5 ⟨rfl, q_, _⟩; have Q1 := Aside0.mk q_; clear q_)
                  | (go_at_call 36; with_reducible refine (bend_below Q1.out 4 1 i2 h2 E2.out).mono ?_; rintro e w6 ⟨rfl, q_, _⟩; have Q2 := Aside0.mk q_; clear q_))
                go_roundg k1
                case measure => omega
                case rel => exact ⟨x.take t1.toNat, wrap64 (n - 1), i2, h2, by first | rfl | simp, HA, ⟨by have := HK.out; omega⟩, ⟨BendAt.take Q2.out (by omega)⟩⟩
              · rw [if_neg z1] at H
                by_cases z2 : t2 = 2
                · rw [if_pos z2] at H
                  subst z2
                  have HA := Aside0.mk H
                  clear H z0 z1
                  obtain ⟨B, eB, hB, _⟩ := BRow.cell HQ.out.2.2.2 t1 ct1 ct2
                  subst eB
                  have HBB := Aside0.mk hB
                  clear hB
                  have ct3 : t1 ≤ (c7 : Int) := by omega
                  have ct4 : t1 + 1 ≤ (x.length : Int) := by omega
                  have ct5 : 0 ≤ t1 + 1 := by omega
                  have hw1 : wrap64 (t1 + 1) = t1 + 1 := by unfold wrap64; have := CT3.out; omega
                  have hw2 : IntKind.i64.wrap (t1 + 1) = t1 + 1 := by have := CT3.out; exact IntWalk.i64_in _ ⟨by omega, by omega⟩
                  have ct6 : (x.length : Int) ≤ (c7 : Int) := by omega
                  go_upto_region 12 with (first
                    | (go_at_call 36; with_reducible refine (bend_below HQ.out (x.length : Int) t1 i1 h1 E1.out).mono ?_; rintro e w5 ⟨rfl, q_, _⟩; have Q1 := Aside0.mk q_; clear q_)
                    | (go_at_call 36; with_reducible refine (bend_below Q1.out 4 2 i2 h2 E2.out).mono ?_; rintro e w6 ⟨rfl, q_, _⟩; have Q2 := Aside0.mk q_; clear q_))
                  have QE := Aside0.mk (BendAt.drew (BendAt.alloc Q2.out HL.out (.cells #[] 5)) HL.out)
                  have hBlt := BendAt.lt Q2.out (by omega)
                  have hD6 : (w6.alloc (.cells #[] 5)).drew.heap[w6.heap.size]? = some (.cells #[] 5 (0, 0)) := blk_new w6 _
                  have hs6 : (w6.alloc (.cells #[] 5)).drew.heap.size = w6.heap.size + 1 := by show (w6.alloc (.cells #[] 5)).heap.size = _; simp
                  have HD6 := Aside0.mk hD6
                  have HS6 := Aside0.mk hs6
                  have HBL := Aside0.mk hBlt
                  have HW6 := Aside0.mk Q2.out.2.1.1
                  clear hD6 hs6 hBlt
                  go_region_law (first
                    | (refine bend_append Tryd.underlying22 info5 (by rfl) (.tmp 47) (.tmp 50) rfl (.slice (some ⟨w6.heap.size, 0, none⟩) 0 0) [] (x.take t1.toNat) (some ⟨B, 0, none⟩) t1.toNat c7 (fun k => k ≠ B) (by go_simp) (by go_simp) QE.out HL.out ?hO (fun k hk e => hk (by simpa [Value.ownBlock] using e.symm)) ?hF (BendAt.readC QE.out (by omega)) ?hl ?_; (case hO => exact R_empty HD6.out HW6.out (by have := HBL.out; omega)); (case hF => intro k hk; have h1 := HS6.out; have h2 := HBL.out; omega); (case hl => have := CT3.out; simp only [List.length_nil]; omega); intro v8 w8 hr8 q8 hg8; have HG8 := Aside0.mk hg8.size; have R8 := Aside0.mk hr8; have Q8 := Aside0.mk q8; clear hr8 q8 hg8)
                    | (refine bend_append Tryd.underlying22 info5 (by rfl) (.tmp 51) (.tmp 55) rfl v8 _ (x.drop (t1 + 1).toNat) _ _ _ (fun k => k ≠ B) rfl rfl Q8.out HL.out R8.out (fun k hk e => hk (by simpa [Value.ownBlock] using e.symm)) ?hF ?hR ?hl ?_; (case hR => exact BendAt.readB (m := (t1 + 1).toNat) Q8.out (by omega)); (case hF => intro k hk; have h1 := HS6.out; have h2 := HBL.out; have h3 := HG8.out; omega); (case hl => have := CT3.out; simp only [List.length_append, List.length_nil, List.length_take]; omega); intro v9 w9 hr9 q9 _; have R9 := Aside0.mk hr9; have Q9 := Aside0.mk q9; clear hr9 q9))
                  go_wp2
                  all_goals
                    go_roundg k1
                    case measure => omega
                    case rel => exact ⟨_, wrap64 (n - 1), i2, h2, by first | rfl | simp, HA, ⟨by have := HK.out; omega⟩, ⟨BendAt.fresh Q9.out R9.out (by have := CT3.out; simp only [List.length_append, List.length_nil, List.length_take, List.length_drop]; omega)⟩⟩
                · rw [if_neg z2] at H
                  by_cases z3 : t2 = 3
                  · rw [if_pos z3] at H
                    subst z3
                    obtain ⟨⟨t3, i3, h3⟩, e3, H⟩ := Option.bind_eq_some_iff.mp H
                    dsimp only at H e3
                    by_cases cu : 0 ≤ t3 ∧ t3 < (a2.size : Int)
                    · rw [if_pos cu] at H
                      have E3 := Aside0.mk e3
                      have HA := Aside0.mk H
                      have p3 := eq_true cu.1
                      have q3 := eq_true cu.2
                      have hx3 := bt_at a2 t3
                      clear H e3 cu z0 z1 z2
                      obtain ⟨B, eB, hB, _⟩ := BRow.cell HQ.out.2.2.2 t1 ct1 ct2
                      subst eB
                      have HBB := Aside0.mk hB
                      clear hB
                      have ct3 : t1 ≤ (c7 : Int) := by omega
                      have ct4 : t1 ≤ (x.length : Int) := by omega
                      have ct6 : (x.length : Int) ≤ (c7 : Int) := by omega
                      go_upto_region 14 with (first
                        | (go_at_call 36; with_reducible refine (bend_below HQ.out (x.length : Int) t1 i1 h1 E1.out).mono ?_; rintro e w5 ⟨rfl, q_, _⟩; have Q1 := Aside0.mk q_; clear q_)
                        | (go_at_call 36; with_reducible refine (bend_below Q1.out 4 3 i2 h2 E2.out).mono ?_; rintro e w6 ⟨rfl, q_, _⟩; have Q2 := Aside0.mk q_; clear q_))
                      have QE := Aside0.mk (BendAt.drew (BendAt.alloc Q2.out HL.out (.cells #[] 5)) HL.out)
                      have hBlt := BendAt.lt Q2.out (by omega)
                      have hD6 : (w6.alloc (.cells #[] 5)).drew.heap[w6.heap.size]? = some (.cells #[] 5 (0, 0)) := blk_new w6 _
                      have hs6 : (w6.alloc (.cells #[] 5)).drew.heap.size = w6.heap.size + 1 := by show (w6.alloc (.cells #[] 5)).heap.size = _; simp
                      have HD6 := Aside0.mk hD6
                      have HS6 := Aside0.mk hs6
                      have HBL := Aside0.mk hBlt
                      have HW6 := Aside0.mk Q2.out.2.1.1
                      clear hD6 hs6 hBlt
                      go_region_law (first
                        | (refine bend_append Tryd.underlying22 info5 (by rfl) (.tmp 59) (.tmp 62) rfl (.slice (some ⟨w6.heap.size, 0, none⟩) 0 0) [] (x.take t1.toNat) (some ⟨B, 0, none⟩) t1.toNat c7 (fun k => k ≠ B) (by go_simp) (by go_simp) QE.out HL.out ?hO (fun k hk e => hk (by simpa [Value.ownBlock] using e.symm)) ?hF (BendAt.readC QE.out (by omega)) ?hl ?_; (case hO => exact R_empty HD6.out HW6.out (by have := HBL.out; omega)); (case hF => intro k hk; have h1 := HS6.out; have h2 := HBL.out; omega); (case hl => have := CT3.out; simp only [List.length_nil]; omega); intro v8 w8 hr8 q8 hg8; have HG8 := Aside0.mk hg8.size; have R8 := Aside0.mk hr8; have Q8 := Aside0.mk q8; clear hr8 q8 hg8)
                        | (refine goes_ Tryd.func36 (by kernel_rfl) rfl #[.pointer (some ⟨g, 0, none⟩), .int .i64 (a2.size : Int)] (by rfl) rfl rfl (by go_simp) ?_; refine (bend_below Q8.out (a2.size : Int) t3 i3 h3 E3.out).mono ?_; rintro e w10 ⟨rfl, q10, hk10⟩; refine ⟨_, rfl, ?_⟩; have R10 := Aside0.mk (Kd.R_mono (Kd.R_keep (IsS76.apart Q8.out.1 R8.out (by decide)) hk10 (fun _ h => h.2)) (fun _ h => h.1)); have Q10 := Aside0.mk q10; have HG10 := Aside0.mk hk10.1; clear q10 hk10)
                        | (refine bend_append Tryd.underlying22 info5 (by rfl) (.tmp 63) (.tmp 70) rfl v8 _ [bt a2 t3] (some ⟨w10.heap.size, 0, none⟩) 1 1 (fun k => k ≠ B) (by go_simp) (by go_simp) (BendAt.alloc Q10.out HL.out _) HL.out (Kd.R_alloc R10.out _) (fun k hk e => hk (by simpa [Value.ownBlock] using e.symm)) ?hF (lit_C w10 (bt a2 t3)) ?hl ?_; (case hF => intro k hk; have h0 := (below_alloc (Below.refl w10.heap.size w10) (.cells #[.int .u8 (bt a2 t3)] 5)).size; have h1 := HS6.out; have h2 := HBL.out; have h3 := HG8.out; have h4 := HG10.out; omega); (case hl => have := CT3.out; simp only [List.length_append, List.length_nil, List.length_take]; omega); intro v11 w11 hr11 q11 hg11; have HG11 := Aside0.mk (Nat.le_trans (below_alloc (Below.refl w10.heap.size w10) (.cells #[.int .u8 (bt a2 t3)] 5)).size hg11.size); have R11 := Aside0.mk hr11; have Q11 := Aside0.mk q11; clear hr11 q11 hg11)
                        | (refine bend_append Tryd.underlying22 info5 (by rfl) (.tmp 71) (.tmp 74) rfl v11 _ (x.drop t1.toNat) _ _ _ (fun k => k ≠ B) rfl rfl Q11.out HL.out R11.out (fun k hk e => hk (by simpa [Value.ownBlock] using e.symm)) ?hF ?hR ?hl ?_; (case hR => exact BendAt.readB (m := t1.toNat) Q11.out (by omega)); (case hF => intro k hk; have h1 := HS6.out; have h2 := HBL.out; have h3 := HG8.out; have h4 := HG10.out; have h5 := HG11.out; omega); (case hl => have := CT3.out; simp only [List.length_append, List.length_nil, List.length_take, List.length_singleton]; omega); intro v9 w9 hr9 q9 _; have R9 := Aside0.mk hr9; have Q9 := Aside0.mk q9; clear hr9 q9))
                      go_wp2
                      go_roundg k1
                      case measure => omega
                      case rel => exact ⟨_, wrap64 (n - 1), i3, h3, by first | rfl | simp, HA, ⟨by have := HK.out; omega⟩, ⟨BendAt.fresh Q9.out R9.out (by have := CT3.out; simp only [List.length_append, List.length_nil, List.length_take, List.length_drop, List.length_singleton]; omega)⟩⟩
                    · rw [if_neg cu] at H
                      cases H
                  · rw [if_neg z3] at H
                    have HA := Aside0.mk H
                    have y0 : (t2 == 0) = false := beq_eq_false_iff_ne.mpr z0
                    have y1 : (t2 == 1) = false := beq_eq_false_iff_ne.mpr z1
                    have y2 : (t2 == 2) = false := beq_eq_false_iff_ne.mpr z2
                    have y3 : (t2 == 3) = false := beq_eq_false_iff_ne.mpr z3
                    clear H z0 z1 z2 z3
                    go_wp2_with (first
                      | (go_at_call 36; with_reducible refine (bend_below HQ.out (x.length : Int) t1 i1 h1 E1.out).mono ?_; rintro e w5 ⟨rfl, q_, _⟩; have Q1 := Aside0.mk q_; clear q_)
                      | (go_at_call 36; with_reducible refine (bend_below Q1.out 4 t2 i2 h2 E2.out).mono ?_; rintro e w6 ⟨rfl, q_, _⟩; have Q2 := Aside0.mk q_; clear q_))
                    go_roundg k1
                    case measure => omega
                    case rel => exact ⟨x, wrap64 (n - 1), i2, h2, by first | rfl | simp, HA, ⟨by have := HK.out; omega⟩, ⟨Q2.out⟩⟩
          · rw [if_neg ct] at H
            cases H
        · rw [if_neg cn] at H
          obtain ⟨rfl, rfl, rfl⟩ : strOfNums x = r1 ∧ i = r2 ∧ h = r3 := by simpa using H
          have hcv := Kd.C_string (P := Tryd.prog) (c := c7) Tryd.underlying22 Tryd.underlying5 Tryd.underlying9 (BRow.reads HQ.out.2.2.2).2.2
          clear H
          by_cases cn1 : n > 0
          · have cn2 : ¬ 0 < x.length := fun q => cn ⟨cn1, q⟩
            have cn1b : decide (0 < n) = true := decide_eq_true cn1
            have cn2b : (0 < x.length) = False := eq_false cn2
            clear cn1 cn2 cn
            go_wp2
            go_ret
            exact ⟨rfl, HQ.out.1, HQ.out.2.2.1, HQ.out.2.1⟩
          · have cn1b : decide (0 < n) = false := decide_eq_false cn1
            clear cn1 cn
            go_wp2
            go_ret
            exact ⟨rfl, HQ.out.1, HQ.out.2.2.1, HQ.out.2.1⟩
  · rw [if_neg hs] at h
    cases h
end Go.Proofs.YtfbgpjhnjdhpcaaDoor.P
namespace Go.Proofs.YtfbgpjhnjdhpcaaDoor.P
open Go.RowKit Go.Proofs.YtfbgpjhnjdhpcaaDoorW.PrintWords Go.Proofs.YtfbgpjhnjdhpcaaDoorW.PrintLast Go.Proofs.YtfbgpjhnjdhpcaaDoorW.PrintMore
attribute [local go_sem] max2_int min2_int max_two min_two max_three min_three max_four min_four   -- for this text's walks alone
set_option linter.unusedVariables false
set_option linter.unusedSimpArgs false

/-! ### spec_l5DrawText: function 53 -/
def spec_l5DrawText.f (k : Nat) (s0_0 : List Int) (s0_1 : Int) (s0_2 : Int) : Option (ByteArray × Int × Int) := (spec_l5DrawParts.f k s0_0 s0_1 s0_2).bind fun bt101 => ((spec_Chunked.f k bt101.1).bind fun t106 => ((spec_l1Once.f s0_0 bt101.2.1 bt101.2.2 2).bind fun bt107 => (if bt107.1 = true then ((spec_l1Bend.f k s0_0 bt107.2.1 bt107.2.2 t106 (⟨#[48, 97, 70, 13, 10, 32]⟩ : ByteArray)).bind fun bt110 => (some (bt110.1, bt110.2.1, bt110.2.2))) else (some (t106, bt107.2.1, bt107.2.2)))))
theorem spec_l5DrawText.mono : ∀ a0 a1 a2 k, LeO (spec_l5DrawText.f k a0 a1 a2) (spec_l5DrawText.f (k + 1) a0 a1 a2) := by
 intro a0 a1 a2 k
 unfold spec_l5DrawText.f
 repeat' first
   | (with_reducible exact spec_Chunked.mono _ _)
   | (with_reducible exact spec_l1Bend.mono _ _ _ _ _ _)
   | (with_reducible exact spec_l5DrawParts.mono _ _ _ _)
   | (with_reducible exact LeO.refl _)
   | (with_reducible exact LeO.none _)
   | (with_reducible refine LeO.ite ?_ ?_)
   | (with_reducible refine LeO.bind ?_ (fun _ => ?_))
   | exact spec_Chunked.mono _ _
   | exact spec_l1Bend.mono _ _ _ _ _ _
   | exact spec_l5DrawParts.mono _ _ _ _
   | exact LeO.none _
   | refine LeO.ite ?_ ?_
   | refine LeO.bind ?_ (fun _ => ?_)
set_option maxHeartbeats 8000000 in
set_option maxRecDepth 100000 in
theorem spec_l5DrawText.calls (k : Nat) (g : Nat) (s0_0 : List Int) (s0_1 : Int) (s0_2 : Int) (r1 : ByteArray) (r2 : Int) (r3 : Int) (w0 w : World) (hI : IsS76 w0 w g s0_0 s0_1 s0_2) (hB : Below w0.heap.size w0 w) (h : spec_l5DrawText.f k s0_0 s0_1 s0_2 = some (r1, r2, r3)) :
  Calls Tryd.prog 53 #[.pointer (some ⟨g, 0, none⟩)] w fun e w' => e = .returned (.string r1) ∧ IsS76 w0 w' g s0_0 r2 r3 ∧ Below w0.heap.size w0 w' ∧ KeepBut w w' g none := by
 have HI0 := Aside0.mk hI
 have HK := Aside0.mk (KeepBut.refl w g none)
 have HL := Aside0.mk hB.size
 clear hI
 have HW0 := Aside0.mk hB.size
 have HB := Aside0.mk hB
 clear hB
 have H : ((spec_l5DrawParts.f k s0_0 s0_1 s0_2).bind fun bt101 => ((spec_Chunked.f k bt101.1).bind fun t106 => ((spec_l1Once.f s0_0 bt101.2.1 bt101.2.2 2).bind fun bt107 => (if bt107.1 = true then ((spec_l1Bend.f k s0_0 bt107.2.1 bt107.2.2 t106 (⟨#[48, 97, 70, 13, 10, 32]⟩ : ByteArray)).bind fun bt110 => (some (bt110.1, bt110.2.1, bt110.2.2))) else (some (t106, bt107.2.1, bt107.2.2)))))) = some (r1, r2, r3) := h
 clear h
 obtain ⟨⟨t101, t104, t105⟩, A20, H⟩ := Option.bind_eq_some_iff.mp H
 try dsimp only at H
 have A2 := Aside0.mk A20
 clear A20
 obtain ⟨t106, A30, H⟩ := Option.bind_eq_some_iff.mp H
 try dsimp only at H
 have A3 := Aside0.mk A30
 clear A30
 obtain ⟨⟨t107, t108, t109⟩, A40, H⟩ := Option.bind_eq_some_iff.mp H
 try dsimp only at H
 have A4 := Aside0.mk A40
 clear A40
 by_cases c5 : t107 = true
 ·
  subst c5
  rw [if_pos rfl] at H
  replace H := Option.bind_eq_some_iff.mp H
  obtain ⟨⟨t110, t111, t112⟩, A60, H⟩ := H
  replace H : (some (t110, t111, t112)) = some (r1, r2, r3) := H
  have A6 := Aside0.mk A60
  clear A60
  simp only [Option.some.injEq, Prod.mk.injEq] at H
  obtain ⟨rfl, rfl, rfl⟩ := H
  go_enter Tryd.func53, Tryd.ntmps53
  go_wp2_with (first | ((with_reducible refine gate_callee (f := 49) rfl ?_); refine goesL_ (some 5) rfl rfl Tryd.func49 (by kernel_rfl) rfl #[.pointer (some ⟨g, 0, none⟩)] rfl mc ?_; (with_reducible refine (spec_l5DrawParts.calls k g s0_0 s0_1 s0_2 t101 t104 t105 w0 _ ?side1 ?side2 A2.out).mono ?_); (case side1 => repeat (first | (with_reducible first | exact HI0.out | apply IsS76.alloc | apply IsS76.drewN | apply IsS76.drew | apply IsS76.set_1 | apply IsS76.set_2) | exact HI0.out)); (case side2 => repeat (first | (with_reducible first | exact HB.out | apply below_alloc | apply pw_below_drewN | apply below_drew1 | refine below_set ?_ (IsS76.ge HI0.out)) | exact HB.out)); rintro e w7 ⟨v102, rfl, ho0, hi, hb, hk⟩; refine ⟨_, rfl, ?_⟩; have HO103 := Aside0.mk (Kd.R_lower ho0 (keep_size (w := w) (g := g) (row := none) (by repeat (first | (with_reducible first | exact HK.out | apply KeepBut.set_ | apply keep_drewN | apply keep_drew | apply keep_alloc) | exact HK.out)))); replace HK := Aside0.mk (KeepBut.trans (by repeat (first | (with_reducible first | exact HK.out | apply KeepBut.set_ | apply keep_drewN | apply keep_drew | apply keep_alloc) | exact HK.out)) hk (.inl rfl)); replace HI0 := Aside0.mk (hi); replace HB := Aside0.mk (hb); (try clear hb); (try clear hb2); (try clear hk); (try clear hi); (try clear ho0); obtain ⟨Ao8, co8, eo8⟩ := Kd.R_slice HO103.out; subst eo8) | ((with_reducible refine gate_callee (f := 24) rfl ?_); refine goesL_ (some 6) rfl rfl Tryd.func24 (by kernel_rfl) rfl #[.slice Ao8 t101.length co8] rfl mc ?_; (with_reducible refine (spec_Chunked.calls k _ _ t101 t106 _ ?side1 ?side2 A3.out).mono ?_); (case side1 => repeat (first | exact (Kd.R_reads' HO103.out).2.2 | (with_reducible refine Kd.C_alloc ?_ _) | (with_reducible refine Kd.C_drewN ?_ _) | (with_reducible refine Kd.C_drew ?_))); (case side2 => exact (Kd.R_reads' HO103.out).2.1); rintro e w9 ⟨rfl, hb⟩; refine ⟨_, rfl, ?_⟩; have n0_ := Aside0.mk (Kd.R_below (by (with_reducible repeat (first | apply Kd.R_alloc | apply Kd.R_drewN | apply Kd.R_drew)); exact HO103.out) hb); have n1_ := Aside0.mk (IsS76.below (by repeat (first | (with_reducible first | exact HI0.out | apply IsS76.alloc | apply IsS76.drewN | apply IsS76.drew | apply IsS76.set_1 | apply IsS76.set_2) | exact HI0.out)) hb); have n2_ := Aside0.mk (KeepBut.trans (by repeat (first | (with_reducible first | exact HK.out | apply KeepBut.set_ | apply keep_drewN | apply keep_drew | apply keep_alloc) | exact HK.out)) (KeepBut.of_below hb g none) (.inl rfl)); have n3_ := Aside0.mk (below_step (by repeat (first | (with_reducible first | exact HB.out | apply below_alloc | apply pw_below_drewN | apply below_drew1 | refine below_set ?_ (IsS76.ge HI0.out)) | exact HB.out)) hb); clear HO103; clear HI0; clear HK; clear HB; have HO103 := n0_; have HI0 := n1_; have HK := n2_; have HB := n3_; clear n0_ n1_ n2_ n3_; (try clear hb); (try clear hb2); (try clear hk); (try clear hi)) | ((with_reducible refine gate_callee (f := 35) rfl ?_); refine goesL_ (some 8) rfl rfl Tryd.func35 (by kernel_rfl) rfl #[.pointer (some ⟨g, 0, none⟩), .int .i64 2] rfl mc ?_; (with_reducible refine (spec_l1Once.calls g s0_0 t104 t105 2 true t108 t109 w0 _ ?side1 ?side2 A4.out).mono ?_); (case side1 => repeat (first | (with_reducible first | exact HI0.out | apply IsS76.alloc | apply IsS76.drewN | apply IsS76.drew | apply IsS76.set_1 | apply IsS76.set_2) | exact HI0.out)); (case side2 => repeat (first | (with_reducible first | exact HB.out | apply below_alloc | apply pw_below_drewN | apply below_drew1 | refine below_set ?_ (IsS76.ge HI0.out)) | exact HB.out)); rintro e w10 ⟨rfl, hi, hb, hk⟩; refine ⟨_, rfl, ?_⟩; replace HO103 := Aside0.mk (Kd.R_mono (Kd.R_keep (IsS76.apart (show IsS76 w0 _ g s0_0 t104 t105 from by repeat (first | (with_reducible first | exact HI0.out | apply IsS76.alloc | apply IsS76.drewN | apply IsS76.drew | apply IsS76.set_1 | apply IsS76.set_2) | exact HI0.out)) (by (with_reducible repeat (first | apply Kd.R_alloc | apply Kd.R_drewN | apply Kd.R_drew)); exact HO103.out) (by decide)) hk (fun _ h => h.2)) (fun _ h => h.1)); replace HK := Aside0.mk (KeepBut.trans (by repeat (first | (with_reducible first | exact HK.out | apply KeepBut.set_ | apply keep_drewN | apply keep_drew | apply keep_alloc) | exact HK.out)) hk (.inl rfl)); replace HI0 := Aside0.mk (hi); replace HB := Aside0.mk (hb); (try clear hb); (try clear hb2); (try clear hk); (try clear hi)) | ((with_reducible refine gate_callee (f := 39) rfl ?_); refine goesL_ (some 11) rfl rfl Tryd.func39 (by kernel_rfl) rfl #[.pointer (some ⟨g, 0, none⟩), .string t106, .string (⟨#[48, 97, 70, 13, 10, 32]⟩ : ByteArray)] rfl mc ?_; (with_reducible refine (spec_l1Bend.calls k g s0_0 t108 t109 t106 (⟨#[48, 97, 70, 13, 10, 32]⟩ : ByteArray) t110 t111 t112 w0 _ ?side1 ?side2 A6.out).mono ?_); (case side1 => repeat (first | (with_reducible first | exact HI0.out | apply IsS76.alloc | apply IsS76.drewN | apply IsS76.drew | apply IsS76.set_1 | apply IsS76.set_2) | exact HI0.out)); (case side2 => repeat (first | (with_reducible first | exact HB.out | apply below_alloc | apply pw_below_drewN | apply below_drew1 | refine below_set ?_ (IsS76.ge HI0.out)) | exact HB.out)); rintro e w11 ⟨rfl, hi, hb, hk⟩; refine ⟨_, rfl, ?_⟩; replace HO103 := Aside0.mk (Kd.R_mono (Kd.R_keep (IsS76.apart (show IsS76 w0 _ g s0_0 t108 t109 from by repeat (first | (with_reducible first | exact HI0.out | apply IsS76.alloc | apply IsS76.drewN | apply IsS76.drew | apply IsS76.set_1 | apply IsS76.set_2) | exact HI0.out)) (by (with_reducible repeat (first | apply Kd.R_alloc | apply Kd.R_drewN | apply Kd.R_drew)); exact HO103.out) (by decide)) hk (fun _ h => h.2)) (fun _ h => h.1)); replace HK := Aside0.mk (KeepBut.trans (by repeat (first | (with_reducible first | exact HK.out | apply KeepBut.set_ | apply keep_drewN | apply keep_drew | apply keep_alloc) | exact HK.out)) hk (.inl rfl)); replace HI0 := Aside0.mk (hi); replace HB := Aside0.mk (hb); (try clear hb); (try clear hb2); (try clear hk); (try clear hi)))
  go_ret
  exact ⟨er, by repeat (first | (with_reducible first | exact HI0.out | apply IsS76.alloc | apply IsS76.drewN | apply IsS76.drew | apply IsS76.set_1 | apply IsS76.set_2) | exact HI0.out), by repeat (first | (with_reducible first | exact HB.out | apply below_alloc | apply pw_below_drewN | apply below_drew1 | refine below_set ?_ (IsS76.ge HI0.out)) | exact HB.out), by repeat (first | (with_reducible first | exact HK.out | apply KeepBut.set_ | apply keep_drewN | apply keep_drew | apply keep_alloc) | exact HK.out)⟩
 ·
  replace c5 := Bool.eq_false_iff.mpr c5
  subst c5
  have H1 : (some (t106, t108, t109)) = some (r1, r2, r3) := by rw [if_neg (show ¬ (false = true) by decide)] at H; exact H
  clear H
  have H := H1
  clear H1
  simp only [Option.some.injEq, Prod.mk.injEq] at H
  obtain ⟨rfl, rfl, rfl⟩ := H
  go_enter Tryd.func53, Tryd.ntmps53
  go_wp2_with (first | ((with_reducible refine gate_callee (f := 49) rfl ?_); refine goesL_ (some 5) rfl rfl Tryd.func49 (by kernel_rfl) rfl #[.pointer (some ⟨g, 0, none⟩)] rfl mc ?_; (with_reducible refine (spec_l5DrawParts.calls k g s0_0 s0_1 s0_2 t101 t104 t105 w0 _ ?side1 ?side2 A2.out).mono ?_); (case side1 => repeat (first | (with_reducible first | exact HI0.out | apply IsS76.alloc | apply IsS76.drewN | apply IsS76.drew | apply IsS76.set_1 | apply IsS76.set_2) | exact HI0.out)); (case side2 => repeat (first | (with_reducible first | exact HB.out | apply below_alloc | apply pw_below_drewN | apply below_drew1 | refine below_set ?_ (IsS76.ge HI0.out)) | exact HB.out)); rintro e w12 ⟨v102, rfl, ho0, hi, hb, hk⟩; refine ⟨_, rfl, ?_⟩; have HO103 := Aside0.mk (Kd.R_lower ho0 (keep_size (w := w) (g := g) (row := none) (by repeat (first | (with_reducible first | exact HK.out | apply KeepBut.set_ | apply keep_drewN | apply keep_drew | apply keep_alloc) | exact HK.out)))); replace HK := Aside0.mk (KeepBut.trans (by repeat (first | (with_reducible first | exact HK.out | apply KeepBut.set_ | apply keep_drewN | apply keep_drew | apply keep_alloc) | exact HK.out)) hk (.inl rfl)); replace HI0 := Aside0.mk (hi); replace HB := Aside0.mk (hb); (try clear hb); (try clear hb2); (try clear hk); (try clear hi); (try clear ho0); obtain ⟨Ao13, co13, eo13⟩ := Kd.R_slice HO103.out; subst eo13) | ((with_reducible refine gate_callee (f := 24) rfl ?_); refine goesL_ (some 6) rfl rfl Tryd.func24 (by kernel_rfl) rfl #[.slice Ao13 t101.length co13] rfl mc ?_; (with_reducible refine (spec_Chunked.calls k _ _ t101 t106 _ ?side1 ?side2 A3.out).mono ?_); (case side1 => repeat (first | exact (Kd.R_reads' HO103.out).2.2 | (with_reducible refine Kd.C_alloc ?_ _) | (with_reducible refine Kd.C_drewN ?_ _) | (with_reducible refine Kd.C_drew ?_))); (case side2 => exact (Kd.R_reads' HO103.out).2.1); rintro e w14 ⟨rfl, hb⟩; refine ⟨_, rfl, ?_⟩; have n0_ := Aside0.mk (Kd.R_below (by (with_reducible repeat (first | apply Kd.R_alloc | apply Kd.R_drewN | apply Kd.R_drew)); exact HO103.out) hb); have n1_ := Aside0.mk (IsS76.below (by repeat (first | (with_reducible first | exact HI0.out | apply IsS76.alloc | apply IsS76.drewN | apply IsS76.drew | apply IsS76.set_1 | apply IsS76.set_2) | exact HI0.out)) hb); have n2_ := Aside0.mk (KeepBut.trans (by repeat (first | (with_reducible first | exact HK.out | apply KeepBut.set_ | apply keep_drewN | apply keep_drew | apply keep_alloc) | exact HK.out)) (KeepBut.of_below hb g none) (.inl rfl)); have n3_ := Aside0.mk (below_step (by repeat (first | (with_reducible first | exact HB.out | apply below_alloc | apply pw_below_drewN | apply below_drew1 | refine below_set ?_ (IsS76.ge HI0.out)) | exact HB.out)) hb); clear HO103; clear HI0; clear HK; clear HB; have HO103 := n0_; have HI0 := n1_; have HK := n2_; have HB := n3_; clear n0_ n1_ n2_ n3_; (try clear hb); (try clear hb2); (try clear hk); (try clear hi)) | ((with_reducible refine gate_callee (f := 35) rfl ?_); refine goesL_ (some 8) rfl rfl Tryd.func35 (by kernel_rfl) rfl #[.pointer (some ⟨g, 0, none⟩), .int .i64 2] rfl mc ?_; (with_reducible refine (spec_l1Once.calls g s0_0 t104 t105 2 false t108 t109 w0 _ ?side1 ?side2 A4.out).mono ?_); (case side1 => repeat (first | (with_reducible first | exact HI0.out | apply IsS76.alloc | apply IsS76.drewN | apply IsS76.drew | apply IsS76.set_1 | apply IsS76.set_2) | exact HI0.out)); (case side2 => repeat (first | (with_reducible first | exact HB.out | apply below_alloc | apply pw_below_drewN | apply below_drew1 | refine below_set ?_ (IsS76.ge HI0.out)) | exact HB.out)); rintro e w15 ⟨rfl, hi, hb, hk⟩; refine ⟨_, rfl, ?_⟩; replace HO103 := Aside0.mk (Kd.R_mono (Kd.R_keep (IsS76.apart (show IsS76 w0 _ g s0_0 t104 t105 from by repeat (first | (with_reducible first | exact HI0.out | apply IsS76.alloc | apply IsS76.drewN | apply IsS76.drew | apply IsS76.set_1 | apply IsS76.set_2) | exact HI0.out)) (by (with_reducible repeat (first | apply Kd.R_alloc | apply Kd.R_drewN | apply Kd.R_drew)); exact HO103.out) (by decide)) hk (fun _ h => h.2)) (fun _ h => h.1)); replace HK := Aside0.mk (KeepBut.trans (by repeat (first | (with_reducible first | exact HK.out | apply KeepBut.set_ | apply keep_drewN | apply keep_drew | apply keep_alloc) | exact HK.out)) hk (.inl rfl)); replace HI0 := Aside0.mk (hi); replace HB := Aside0.mk (hb); (try clear hb); (try clear hb2); (try clear hk); (try clear hi)))
  go_ret
  exact ⟨er, by repeat (first | (with_reducible first | exact HI0.out | apply IsS76.alloc | apply IsS76.drewN | apply IsS76.drew | apply IsS76.set_1 | apply IsS76.set_2) | exact HI0.out), by repeat (first | (with_reducible first | exact HB.out | apply below_alloc | apply pw_below_drewN | apply below_drew1 | refine below_set ?_ (IsS76.ge HI0.out)) | exact HB.out), by repeat (first | (with_reducible first | exact HK.out | apply KeepBut.set_ | apply keep_drewN | apply keep_drew | apply keep_alloc) | exact HK.out)⟩
/-! ### spec_DrawUnchunked: function 21 -/
def spec_DrawUnchunked.f (k : Nat) (l0 : List Int) : Option (ByteArray) := (spec_l1New.f k l0).bind fun bt101 => ((spec_l5DrawText.f k bt101.1 bt101.2.1 bt101.2.2).bind fun bt105 => ((spec_l1DrawText.f k bt101.1 bt105.2.1 bt105.2.2 (⟨#[97, 98]⟩ : ByteArray) 2).bind fun bt108 => (if bt105.1.size + bt108.1.size ≤ 9223372036854775807 then (some (bt105.1 ++ bt108.1)) else (none))))
theorem spec_DrawUnchunked.mono : ∀ a0 k, LeO (spec_DrawUnchunked.f k a0) (spec_DrawUnchunked.f (k + 1) a0) := by
 intro a0 k
 unfold spec_DrawUnchunked.f
 repeat' first
   | (with_reducible exact spec_l1DrawText.mono _ _ _ _ _ _)
   | (with_reducible exact spec_l1New.mono _ _)
   | (with_reducible exact spec_l5DrawText.mono _ _ _ _)
   | (with_reducible exact LeO.refl _)
   | (with_reducible exact LeO.none _)
   | (with_reducible refine LeO.ite ?_ ?_)
   | (with_reducible refine LeO.bind ?_ (fun _ => ?_))
   | exact spec_l1DrawText.mono _ _ _ _ _ _
   | exact spec_l1New.mono _ _
   | exact spec_l5DrawText.mono _ _ _ _
   | exact LeO.none _
   | refine LeO.ite ?_ ?_
   | refine LeO.bind ?_ (fun _ => ?_)
set_option maxHeartbeats 8000000 in
set_option maxRecDepth 100000 in
theorem spec_DrawUnchunked.calls (k : Nat) (A0 : Option Addr) (c0 : Nat) (l0 : List Int) (r : ByteArray) (w : World) (hr0 : Kd.C (Kd.int .u8) w A0 l0.length l0) (hc0 : l0.length ≤ c0) (h : spec_DrawUnchunked.f k l0 = some r) :
  Calls Tryd.prog 21 #[.slice A0 l0.length c0] w fun e w' => e = .returned (.string r) ∧ Below w.heap.size w w' := by
 have HR0 := Aside0.mk hr0
 have HC0 := Aside0.mk hc0
 clear hr0 hc0
 have HB := Aside0.mk (Below.refl w.heap.size w)
 have H : ((spec_l1New.f k l0).bind fun bt101 => ((spec_l5DrawText.f k bt101.1 bt101.2.1 bt101.2.2).bind fun bt105 => ((spec_l1DrawText.f k bt101.1 bt105.2.1 bt105.2.2 (⟨#[97, 98]⟩ : ByteArray) 2).bind fun bt108 => (if bt105.1.size + bt108.1.size ≤ 9223372036854775807 then (some (bt105.1 ++ bt108.1)) else (none))))) = some r := h
 clear h
 obtain ⟨⟨t101, t102, t103⟩, A20, H⟩ := Option.bind_eq_some_iff.mp H
 try dsimp only at H
 have A2 := Aside0.mk A20
 clear A20
 obtain ⟨⟨t105, t106, t107⟩, A30, H⟩ := Option.bind_eq_some_iff.mp H
 try dsimp only at H
 have A3 := Aside0.mk A30
 clear A30
 obtain ⟨⟨t108, t109, t110⟩, A40, H⟩ := Option.bind_eq_some_iff.mp H
 try dsimp only at H
 have A4 := Aside0.mk A40
 clear A40
 by_cases c5 : t105.size + t108.size ≤ 9223372036854775807
 ·
  rw [if_pos c5] at H
  have c5b0 := eq_true c5
  have c5b1 : decide (t105.size + t108.size ≤ 9223372036854775807) = true := decide_eq_true c5
  try have c5b2 : (9223372036854775807 < t105.size + t108.size) = False := eq_false (Nat.not_lt.2 c5)
  obtain rfl := Option.some.inj H
  go_enter Tryd.func21, Tryd.ntmps21
  go_wp2_with (first | ((with_reducible refine gate_callee (f := 34) rfl ?_); refine goesL_ (some 5) rfl rfl Tryd.func34 (by kernel_rfl) rfl #[.slice A0 l0.length c0] rfl mc ?_; (with_reducible refine (spec_l1New.calls k _ _ l0 t101 t102 t103 w _ ?side1 ?side2 ?side3 A2.out).mono ?_); (case side1 => repeat (first | (with_reducible first | exact HB.out | apply below_alloc | apply pw_below_drewN | apply below_drew1) | exact HB.out)); (case side2 => exact HR0.out); (case side3 => exact HC0.out); rintro e w6 ⟨g104, rfl, hi, hb, hb2⟩; refine ⟨_, rfl, ?_⟩; have HI104 := Aside0.mk (hi); replace HB := Aside0.mk (hb); (try clear hb); (try clear hb2); (try clear hk); (try clear hi)) | ((with_reducible refine gate_callee (f := 53) rfl ?_); refine goesL_ (some 7) rfl rfl Tryd.func53 (by kernel_rfl) rfl #[.pointer (some ⟨g104, 0, none⟩)] rfl mc ?_; (with_reducible refine (spec_l5DrawText.calls k g104 t101 t102 t103 t105 t106 t107 w _ ?side1 ?side2 A3.out).mono ?_); (case side1 => repeat (first | (with_reducible first | exact HI104.out | apply IsS76.alloc | apply IsS76.drewN | apply IsS76.drew | apply IsS76.set_1 | apply IsS76.set_2) | exact HI104.out)); (case side2 => repeat (first | (with_reducible first | exact HB.out | apply below_alloc | apply pw_below_drewN | apply below_drew1 | refine below_set ?_ (IsS76.ge HI104.out)) | exact HB.out)); rintro e w7 ⟨rfl, hi, hb, hk⟩; refine ⟨_, rfl, ?_⟩; replace HI104 := Aside0.mk (hi); replace HB := Aside0.mk (hb); (try clear hb); (try clear hb2); (try clear hk); (try clear hi)) | ((with_reducible refine gate_callee (f := 37) rfl ?_); refine goesL_ (some 9) rfl rfl Tryd.func37 (by kernel_rfl) rfl #[.pointer (some ⟨g104, 0, none⟩), .string (⟨#[97, 98]⟩ : ByteArray), .int .i64 2] rfl mc ?_; (with_reducible refine (spec_l1DrawText.calls k g104 t101 t106 t107 (⟨#[97, 98]⟩ : ByteArray) 2 t108 t109 t110 w _ ?side1 ?side2 A4.out).mono ?_); (case side1 => repeat (first | (with_reducible first | exact HI104.out | apply IsS76.alloc | apply IsS76.drewN | apply IsS76.drew | apply IsS76.set_1 | apply IsS76.set_2) | exact HI104.out)); (case side2 => repeat (first | (with_reducible first | exact HB.out | apply below_alloc | apply pw_below_drewN | apply below_drew1 | refine below_set ?_ (IsS76.ge HI104.out)) | exact HB.out)); rintro e w8 ⟨rfl, hi, hb, hk⟩; refine ⟨_, rfl, ?_⟩; replace HI104 := Aside0.mk (hi); replace HB := Aside0.mk (hb); (try clear hb); (try clear hb2); (try clear hk); (try clear hi)))
  go_ret
  exact ⟨er, by repeat (first | (with_reducible first | exact HB.out | apply below_alloc | apply pw_below_drewN | apply below_drew1 | refine below_set ?_ (IsS76.ge HI104.out)) | exact HB.out)⟩
 ·
  rw [if_neg c5] at H
  exact absurd H (by simp)
/-! ### spec_EatAll: function 33 -/
def spec_EatAll.l0 : Nat → ByteArray → Int → Int → Int → ByteArray → ByteArray → Option (Int × Int × ByteArray × ByteArray × Int)
 | 0, _, _, _, _, _, _ => none
 | k + 1, x1, x6, x102000, x102001, x102002, x102003 => if x6 < (x1.size : Int) then (if x102000 < 8 then (if 0 ≤ x6 then ((spec_l5Eat.f k x102000 x102001 x102002 x102003 (bt x1 x6)).bind fun bt104 => (spec_EatAll.l0 k x1 (wrap64 (x6 + 1)) bt104.1 bt104.2.1 bt104.2.2.1 bt104.2.2.2)) else (none)) else (some (x102000, x102001, x102002, x102003, x6))) else (some (x102000, x102001, x102002, x102003, x6))
def spec_EatAll.f (k : Nat) (a0_0 : Int) (a0_1 : Int) (a0_2 : ByteArray) (a0_3 : ByteArray) (a1 : ByteArray) : Option (Int × Int × ByteArray × ByteArray × Int) := (spec_ChunkerOk.f k a0_0 a0_1 a0_2 a0_3).bind fun t103 => (if t103 = true then (spec_EatAll.l0 k a1 0 a0_0 a0_1 a0_2 a0_3) else (some (0, 0, (⟨#[]⟩ : ByteArray), (⟨#[]⟩ : ByteArray), 0)))
theorem spec_EatAll.mono_l : ∀ k, (∀ y0 y1 y2 y3 y4 y5, LeO (spec_EatAll.l0 k y0 y1 y2 y3 y4 y5) (spec_EatAll.l0 (k + 1) y0 y1 y2 y3 y4 y5))
 | 0 => fun _ _ _ _ _ _ r h => by simp [spec_EatAll.l0] at h
 | k + 1 => by
  have ih0 := spec_EatAll.mono_l k
  ·
   intro y0 y1 y2 y3 y4 y5
   unfold spec_EatAll.l0
   repeat' first
   | (with_reducible exact ih0 _ _ _ _ _ _)
   | (with_reducible exact spec_ChunkerOk.mono _ _ _ _ _)
   | (with_reducible exact spec_l5Eat.mono _ _ _ _ _ _)
   | (with_reducible exact LeO.refl _)
   | (with_reducible exact LeO.none _)
   | (with_reducible refine LeO.ite ?_ ?_)
   | (with_reducible refine LeO.bind ?_ (fun _ => ?_))
   | exact ih0 _ _ _ _ _ _
   | exact spec_ChunkerOk.mono _ _ _ _ _
   | exact spec_l5Eat.mono _ _ _ _ _ _
   | exact LeO.none _
   | refine LeO.ite ?_ ?_
   | refine LeO.bind ?_ (fun _ => ?_)
theorem spec_EatAll.mono : ∀ a0 a1 a2 a3 a4 k, LeO (spec_EatAll.f k a0 a1 a2 a3 a4) (spec_EatAll.f (k + 1) a0 a1 a2 a3 a4) := by
 intro a0 a1 a2 a3 a4 k
 have ih0 := spec_EatAll.mono_l k
 unfold spec_EatAll.f
 repeat' first
   | (with_reducible exact ih0 _ _ _ _ _ _)
   | (with_reducible exact spec_ChunkerOk.mono _ _ _ _ _)
   | (with_reducible exact spec_l5Eat.mono _ _ _ _ _ _)
   | (with_reducible exact LeO.refl _)
   | (with_reducible exact LeO.none _)
   | (with_reducible refine LeO.ite ?_ ?_)
   | (with_reducible refine LeO.bind ?_ (fun _ => ?_))
   | exact ih0 _ _ _ _ _ _
   | exact spec_ChunkerOk.mono _ _ _ _ _
   | exact spec_l5Eat.mono _ _ _ _ _ _
   | exact LeO.none _
   | refine LeO.ite ?_ ?_
   | refine LeO.bind ?_ (fun _ => ?_)
set_option maxHeartbeats 8000000 in
set_option maxRecDepth 100000 in
theorem spec_EatAll.calls (k : Nat) (a0_0 : Int) (a0_1 : Int) (a0_2 : ByteArray) (a0_3 : ByteArray) (a1 : ByteArray) (r1 : Int) (r2 : Int) (r3 : ByteArray) (r4 : ByteArray) (r5 : Int) (w : World) (h : spec_EatAll.f k a0_0 a0_1 a0_2 a0_3 a1 = some (r1, r2, r3, r4, r5)) :
  Calls Tryd.prog 33 #[.agg #[.int .i64 a0_0, .int .i64 a0_1, .string a0_2, .string a0_3], .string a1] w fun e w' => e = .returned (.tuple #[.agg #[.int .i64 r1, .int .i64 r2, .string r3, .string r4], .int .i64 r5]) ∧ Below w.heap.size w w' := by
 have hu35 := Tryd.underlying35
 have HB := Aside0.mk (Below.refl w.heap.size w)
 have H : ((spec_ChunkerOk.f k a0_0 a0_1 a0_2 a0_3).bind fun t103 => (if t103 = true then (spec_EatAll.l0 k a1 0 a0_0 a0_1 a0_2 a0_3) else (some (0, 0, (⟨#[]⟩ : ByteArray), (⟨#[]⟩ : ByteArray), 0)))) = some (r1, r2, r3, r4, r5) := h
 clear h
 obtain ⟨t103, A30, H⟩ := Option.bind_eq_some_iff.mp H
 try dsimp only at H
 have A3 := Aside0.mk A30
 clear A30
 by_cases c4 : t103 = true
 ·
  subst c4
  rw [if_pos rfl] at H
  have H' := Aside0.mk H
  clear H
  go_enter Tryd.func33, Tryd.ntmps33
  go_wp2_with (first | ((with_reducible refine gate_dst (N := 2) rfl ?_); refine bx 2 #[.int .i64 a0_0, .int .i64 a0_1, .string a0_2, .string a0_3] 35 ?_; intro gb101 hg w5 hbox hb; have BK101 := Aside0.mk (hbox); have GW101 := Aside0.mk (bz hg); have GE101 := Aside0.mk (bz hg); replace HB := Aside0.mk (below_step bh hb); clear hb hbox hg) | ((with_reducible refine gate_dst (N := 4) rfl ?_); refine bx 4 #[.int .i64 0, .int .i64 0, .string (⟨#[]⟩ : ByteArray), .string (⟨#[]⟩ : ByteArray)] 35 ?_; intro gb102 hg w6 hbox hb; have BK102 := Aside0.mk (hbox); have GW102 := Aside0.mk (bz hg); have GE102 := Aside0.mk (bz hg); have NB101_102 := Aside0.mk ((nl (o := .cells #[.int .i64 a0_0, .int .i64 a0_1, .string a0_2, .string a0_3] 35 (0, 0)) hg bk : gb101 ≠ gb102)); have NB102_101 := Aside0.mk ((ng (o := .cells #[.int .i64 a0_0, .int .i64 a0_1, .string a0_2, .string a0_3] 35 (0, 0)) hg bk : gb102 ≠ gb101)); replace BK101 := Aside0.mk (blk_below (g := gb101) (o := .cells #[.int .i64 a0_0, .int .i64 a0_1, .string a0_2, .string a0_3] 35 (0, 0)) bk hb); replace HB := Aside0.mk (below_step bh hb); clear hb hbox hg; have hnb7 := NB101_102.out; have hnc7 := NB102_101.out; have hcz8_0 : w6.cell? ⟨gb101, 0, none⟩ = some (.int .i64 a0_0) := bc BK101 0; have hcz8_1 : w6.cell? ⟨gb101, 1, none⟩ = some (.int .i64 a0_1) := bc BK101 1; have hcz8_2 : w6.cell? ⟨gb101, 2, none⟩ = some (.string a0_2) := bc BK101 2; have hcz8_3 : w6.cell? ⟨gb101, 3, none⟩ = some (.string a0_3) := bc BK101 3; have hfz8_0 := blk_frozen BK101.out 0; have hfz8_1 := blk_frozen BK101.out 1; have hfz8_2 := blk_frozen BK101.out 2; have hfz8_3 := blk_frozen BK101.out 3) | ((with_reducible refine gate_callee (f := 30) rfl ?_); refine goesL_ (some 8) rfl rfl Tryd.func30 (by kernel_rfl) rfl #[.agg #[.int .i64 a0_0, .int .i64 a0_1, .string a0_2, .string a0_3]] rfl mc ?_; (with_reducible refine (spec_ChunkerOk.calls k a0_0 a0_1 a0_2 a0_3 true _ A3.out).mono ?_); rintro e w9 ⟨rfl, hb⟩; refine ⟨_, rfl, ?_⟩; replace BK101 := Aside0.mk (blk_below (g := gb101) (o := .cells #[.int .i64 a0_0, .int .i64 a0_1, .string a0_2, .string a0_3] 35 (0, 0)) bk hb); replace BK102 := Aside0.mk (blk_below (g := gb102) (o := .cells #[.int .i64 0, .int .i64 0, .string (⟨#[]⟩ : ByteArray), .string (⟨#[]⟩ : ByteArray)] 35 (0, 0)) bk hb); replace HB := Aside0.mk (below_step bh hb); (try clear hb); (try clear hb2); (try clear hk); (try clear hi)))
  go_loopg [6] k (fun kq v6 w' => ∃ (x6_1 : Int) (x102000_1 : Int) (x102001_1 : Int) (x102002_1 : ByteArray) (x102003_1 : ByteArray), v6 = .int .i64 x6_1 ∧ Aside0 (spec_EatAll.l0 kq a1 x6_1 x102000_1 x102001_1 x102002_1 x102003_1 = some (r1, r2, r3, r4, r5)) ∧ Aside0 (kq ≤ k) ∧ Aside0 (w'.heap[gb101]? = some (.cells #[.int .i64 x102000_1, .int .i64 x102001_1, .string x102002_1, .string x102003_1] 35 (0, 0))) ∧ Aside0 (w'.heap[gb102]? = some (.cells #[.int .i64 0, .int .i64 0, .string (⟨#[]⟩ : ByteArray), .string (⟨#[]⟩ : ByteArray)] 35 (0, 0))) ∧ Aside0 (Below w.heap.size w w'))
  case atStart => exact ⟨(0), (a0_0), (a0_1), (a0_2), (a0_3), (by first | rfl | (simp; done) | (simp [*]; done)), H', ⟨Nat.le_refl _⟩, ⟨by (with_reducible repeat (first | refine blk_drewN ?_ _ | refine blk_drew ?_ | refine blk_alloc ?_ _)); exact BK101.out⟩, ⟨by (with_reducible repeat (first | refine blk_drewN ?_ _ | refine blk_drew ?_ | refine blk_alloc ?_ _)); exact BK102.out⟩, ⟨bh⟩⟩
  case round =>
   clear H'
   try clear p2
   try clear c3
   try clear c4
   try clear c7
   try clear hcz8_0
   try clear hcz8_1
   try clear hcz8_2
   try clear hcz8_3
   try clear hfz8_0
   try clear hfz8_1
   try clear hfz8_2
   try clear hfz8_3
   obtain ⟨x6_1, x102000_1, x102001_1, x102002_1, x102003_1, rfl, HA, HK1, BK101, BK102, HB⟩ := hrel
   cases gk with
   | zero => exact absurd HA.out (by simp [spec_EatAll.l0])
   | succ k1 =>
    have H := HA.out
    clear HA
    simp only [spec_EatAll.l0] at H
    by_cases c10 : x6_1 < (a1.size : Int)
    ·
     rw [if_pos c10] at H
     have c10b0 : decide (x6_1 < (a1.size : Int)) = true := decide_eq_true c10
     clear c10
     by_cases c11 : x102000_1 < 8
     ·
      rw [if_pos c11] at H
      have c11b0 : decide (x102000_1 < 8) = true := decide_eq_true c11
      clear c11
      by_cases c12 : 0 ≤ x6_1
      ·
       rw [if_pos c12] at H
       have c12b0 : decide (0 ≤ x6_1) = true := decide_eq_true c12
       clear c12
       obtain ⟨⟨t104, t105, t106, t107⟩, A140, H⟩ := Option.bind_eq_some_iff.mp H
       try dsimp only at H
       have A14 := Aside0.mk A140
       clear A140
       have H' := Aside0.mk H
       clear H
       have hnb15 := NB101_102.out
       have hnc15 := NB102_101.out
       have hcz16_0 : wr.cell? ⟨gb101, 0, none⟩ = some (.int .i64 x102000_1) := bc BK101 0
       have hcz16_1 : wr.cell? ⟨gb101, 1, none⟩ = some (.int .i64 x102001_1) := bc BK101 1
       have hcz16_2 : wr.cell? ⟨gb101, 2, none⟩ = some (.string x102002_1) := bc BK101 2
       have hcz16_3 : wr.cell? ⟨gb101, 3, none⟩ = some (.string x102003_1) := bc BK101 3
       have hfz16_0 := blk_frozen BK101.out 0
       have hfz16_1 := blk_frozen BK101.out 1
       have hfz16_2 := blk_frozen BK101.out 2
       have hfz16_3 := blk_frozen BK101.out 3
       try go_wp2
       replace BK101 := Aside0.mk (blk_drew BK101.out)
       replace BK102 := Aside0.mk (blk_drew BK102.out)
       replace HB := Aside0.mk (below_drew1 HB.out)
       have p13 : 0 ≤ (x6_1 : Int) := of_decide_eq_true (by first | (with_reducible assumption) | assumption)
       have q13 : x6_1 < (a1.size : Int) := of_decide_eq_true (by first | (with_reducible assumption) | assumption)
       have hx13 := bt_at a1 x6_1
       replace p13 := eq_true p13
       replace q13 := eq_true q13
       refine start_ (n := 6) (S := fun w' => w'.cell? ⟨gb101, 0, none⟩ = some (.int .i64 x102000_1) ∧ w'.cell? ⟨gb101, 1, none⟩ = some (.int .i64 x102001_1) ∧ w'.cell? ⟨gb101, 2, none⟩ = some (.string x102002_1) ∧ w'.cell? ⟨gb101, 3, none⟩ = some (.string x102003_1)) (ds := [5]) #[false, false, false, false, false, false] (by kernel_rfl) rfl rfl ⟨bc BK101 0, bc BK101 1, bc BK101 2, bc BK101 3⟩ (fun hHeld => ?_)
       generalize wr.drew = w17 at BK101 BK102 HB hHeld ⊢
       refine pure_ (i := 1) (N := some 21) (v := ?_) (a' := ?_) #[false, true, false, false, false, false] rfl rfl (by kernel_rfl) (fun _ _ _ h => h) (Or.inl ⟨by rfl, ?_⟩) ?_ ?_
       rotate_left
       ·
        intro w'
        go_simp
        with_reducible rfl
       rotate_left
       ·
        simp only [Act.put, List.setIfInBounds_toArray, List.set_cons_zero, List.set_cons_succ, i64_w, i32_w]
        rfl
       refine pure_ (i := 2) (N := some 22) (v := ?_) (a' := ?_) #[false, true, true, false, false, false] rfl rfl (by kernel_rfl) (fun _ _ _ h => h) (Or.inl ⟨by rfl, ?_⟩) ?_ ?_
       rotate_left
       ·
        intro w'
        go_simp
        with_reducible rfl
       rotate_left
       ·
        simp only [Act.put, List.setIfInBounds_toArray, List.set_cons_zero, List.set_cons_succ, i64_w, i32_w]
        rfl
       refine take_ (i := 0) (N := some 20) (v := ?_) (a' := ?_) #[true, true, true, false, false, false] rfl rfl (by kernel_rfl) (fun _ _ _ h => h) (Or.inl ⟨by rfl, ?_⟩) hHeld ?_ ?_
       rotate_left
       ·
        rintro w' ⟨s0, s1, s2, s3⟩
        go_simp
        with_reducible rfl
       rotate_left
       ·
        simp only [Act.put, List.setIfInBounds_toArray, List.set_cons_zero, List.set_cons_succ, i64_w, i32_w]
        rfl
       refine take_ (i := 3) (N := some 23) (v := ?_) (a' := ?_) #[true, true, true, true, false, false] rfl rfl (by kernel_rfl) (fun _ _ _ h => h) (Or.inl ⟨by rfl, ?_⟩) hHeld ?_ ?_
       rotate_left
       ·
        rintro w' ⟨s0, s1, s2, s3⟩
        go_simp
        with_reducible rfl
       rotate_left
       ·
        simp only [Act.put, List.setIfInBounds_toArray, List.set_cons_zero, List.set_cons_succ, i64_w, i32_w]
        rfl
       refine one_ (i := 4) (N := some 24) #[true, true, true, true, true, false] rfl rfl (by kernel_rfl) (by decide) (fun K hK => ?_)
       refine gs Tryd.func59 #[.agg #[.int .i64 x102000_1, .int .i64 x102001_1, .string x102002_1, .string x102003_1], .int .u8 (bt a1 x6_1)] ?_
       with_reducible refine (spec_l5Eat.calls k1 x102000_1 x102001_1 x102002_1 x102003_1 (bt a1 x6_1) t104 t105 t106 t107 _ A14.out).mono ?_
       rintro e w18 ⟨rfl, hb⟩
       refine ⟨_, rfl, ?_⟩
       replace BK101 := Aside0.mk (blk_below (g := gb101) (o := .cells #[.int .i64 x102000_1, .int .i64 x102001_1, .string x102002_1, .string x102003_1] 35 (0, 0)) bk hb)
       replace BK102 := Aside0.mk (blk_below (g := gb102) (o := .cells #[.int .i64 0, .int .i64 0, .string (⟨#[]⟩ : ByteArray), .string (⟨#[]⟩ : ByteArray)] 35 (0, 0)) bk hb)
       replace HB := Aside0.mk (below_step bh hb)
       (try clear hb)
       (try clear hb2)
       (try clear hk)
       (try clear hi)
       refine hK.out _ _ ⟨bc BK101 0, bc BK101 1, bc BK101 2, bc BK101 3⟩ (fun hHeld => ?_)
       clear hK K
       refine nm 24 ?_
       refine last_ (i := 5) (N := none) #[true, true, true, true, true, true] rfl rfl (by kernel_rfl) (by decide) (fun K hK => ?_)
       have hs19 : w18.cell? ⟨gb101, 0, none⟩ = some (.int .i64 x102000_1) := bc BK101 0
       have hfs19 := blk_frozen BK101.out 0
       have hns19_1 := NB102_101.out
       have hms19_1 := NB101_102.out
       have hs20 : w18.cell? ⟨gb101, 1, none⟩ = some (.int .i64 x102001_1) := bc BK101 1
       have hfs20 := blk_frozen BK101.out 1
       have hns20_1 := NB102_101.out
       have hms20_1 := NB101_102.out
       have hs21 : w18.cell? ⟨gb101, 2, none⟩ = some (.string x102002_1) := bc BK101 2
       have hfs21 := blk_frozen BK101.out 2
       have hns21_1 := NB102_101.out
       have hms21_1 := NB101_102.out
       have hs22 : w18.cell? ⟨gb101, 3, none⟩ = some (.string x102003_1) := bc BK101 3
       have hfs22 := blk_frozen BK101.out 3
       have hns22_1 := NB102_101.out
       have hms22_1 := NB101_102.out
       refine skip_ (w1 := ?_) (by rfl) rfl ?_ ?_
       rotate_left
       ·
        go_simp
        rfl
       refine hK.out _ _ ?_
       clear hK K
       refine done_ (by kernel_rfl) ?_
       try go_wp2
       go_roundg k1
       case measure => have := HK1.out; omega
       case rel => exact ⟨(wrap64 (x6_1 + 1)), (t104), (t105), (t106), (t107), (by first | rfl | (simp; done) | (simp [*]; done)), H', ⟨by have := HK1.out; omega⟩, ⟨by (with_reducible repeat (first | refine blk_drewN ?_ _ | refine blk_drew ?_ | refine blk_alloc ?_ _)); refine blk_put (cs := #[.int .i64 t104, .int .i64 t105, .string t106, .string x102003_1]) ?_ 3 _ rfl; (with_reducible repeat (first | refine blk_drewN ?_ _ | refine blk_drew ?_ | refine blk_alloc ?_ _)); refine blk_put (cs := #[.int .i64 t104, .int .i64 t105, .string x102002_1, .string x102003_1]) ?_ 2 _ rfl; (with_reducible repeat (first | refine blk_drewN ?_ _ | refine blk_drew ?_ | refine blk_alloc ?_ _)); refine blk_put (cs := #[.int .i64 t104, .int .i64 x102001_1, .string x102002_1, .string x102003_1]) ?_ 1 _ rfl; (with_reducible repeat (first | refine blk_drewN ?_ _ | refine blk_drew ?_ | refine blk_alloc ?_ _)); refine blk_put (cs := #[.int .i64 x102000_1, .int .i64 x102001_1, .string x102002_1, .string x102003_1]) ?_ 0 _ rfl; (with_reducible repeat (first | refine blk_drewN ?_ _ | refine blk_drew ?_ | refine blk_alloc ?_ _)); exact BK101.out⟩, ⟨by (with_reducible repeat (first | refine blk_drewN ?_ _ | refine blk_drew ?_ | refine blk_alloc ?_ _)); refine blk_far ?_ NB102_101.out _; (with_reducible repeat (first | refine blk_drewN ?_ _ | refine blk_drew ?_ | refine blk_alloc ?_ _)); refine blk_far ?_ NB102_101.out _; (with_reducible repeat (first | refine blk_drewN ?_ _ | refine blk_drew ?_ | refine blk_alloc ?_ _)); refine blk_far ?_ NB102_101.out _; (with_reducible repeat (first | refine blk_drewN ?_ _ | refine blk_drew ?_ | refine blk_alloc ?_ _)); refine blk_far ?_ NB102_101.out _; (with_reducible repeat (first | refine blk_drewN ?_ _ | refine blk_drew ?_ | refine blk_alloc ?_ _)); exact BK102.out⟩, ⟨bh⟩⟩
      ·
       rw [if_neg c12] at H
       exact absurd H (by simp)
     ·
      rw [if_neg c11] at H
      have c11b0 : decide (x102000_1 < 8) = false := decide_eq_false c11
      clear c11
      simp only [Option.some.injEq, Prod.mk.injEq] at H
      obtain ⟨rfl, rfl, rfl, rfl, rfl⟩ := H
      have hnb23 := NB101_102.out
      have hnc23 := NB102_101.out
      have hcz24_0 : wr.cell? ⟨gb101, 0, none⟩ = some (.int .i64 x102000_1) := bc BK101 0
      have hcz24_1 : wr.cell? ⟨gb101, 1, none⟩ = some (.int .i64 x102001_1) := bc BK101 1
      have hcz24_2 : wr.cell? ⟨gb101, 2, none⟩ = some (.string x102002_1) := bc BK101 2
      have hcz24_3 : wr.cell? ⟨gb101, 3, none⟩ = some (.string x102003_1) := bc BK101 3
      have hfz24_0 := blk_frozen BK101.out 0
      have hfz24_1 := blk_frozen BK101.out 1
      have hfz24_2 := blk_frozen BK101.out 2
      have hfz24_3 := blk_frozen BK101.out 3
      have hcz25_0 : wr.cell? ⟨gb102, 0, none⟩ = some (.int .i64 0) := bc BK102 0
      have hcz25_1 : wr.cell? ⟨gb102, 1, none⟩ = some (.int .i64 0) := bc BK102 1
      have hcz25_2 : wr.cell? ⟨gb102, 2, none⟩ = some (.string (⟨#[]⟩ : ByteArray)) := bc BK102 2
      have hcz25_3 : wr.cell? ⟨gb102, 3, none⟩ = some (.string (⟨#[]⟩ : ByteArray)) := bc BK102 3
      have hfz25_0 := blk_frozen BK102.out 0
      have hfz25_1 := blk_frozen BK102.out 1
      have hfz25_2 := blk_frozen BK102.out 2
      have hfz25_3 := blk_frozen BK102.out 3
      go_wp2
      refine bodyPost_ret (results_ct rfl _ _ gb102 35 #[.int .i64 x102000_1, .int .i64 x102001_1, .string x102002_1, .string x102003_1] (0, 0) _ rfl bkp Tryd.underlying35 rfl (by kernel_rfl)) rfl ?_
      exact ⟨er, bh⟩
    ·
     rw [if_neg c10] at H
     have c10b0 : decide (x6_1 < (a1.size : Int)) = false := decide_eq_false c10
     clear c10
     simp only [Option.some.injEq, Prod.mk.injEq] at H
     obtain ⟨rfl, rfl, rfl, rfl, rfl⟩ := H
     have hnb26 := NB101_102.out
     have hnc26 := NB102_101.out
     have hcz27_0 : wr.cell? ⟨gb101, 0, none⟩ = some (.int .i64 x102000_1) := bc BK101 0
     have hcz27_1 : wr.cell? ⟨gb101, 1, none⟩ = some (.int .i64 x102001_1) := bc BK101 1
     have hcz27_2 : wr.cell? ⟨gb101, 2, none⟩ = some (.string x102002_1) := bc BK101 2
     have hcz27_3 : wr.cell? ⟨gb101, 3, none⟩ = some (.string x102003_1) := bc BK101 3
     have hfz27_0 := blk_frozen BK101.out 0
     have hfz27_1 := blk_frozen BK101.out 1
     have hfz27_2 := blk_frozen BK101.out 2
     have hfz27_3 := blk_frozen BK101.out 3
     have hcz28_0 : wr.cell? ⟨gb102, 0, none⟩ = some (.int .i64 0) := bc BK102 0
     have hcz28_1 : wr.cell? ⟨gb102, 1, none⟩ = some (.int .i64 0) := bc BK102 1
     have hcz28_2 : wr.cell? ⟨gb102, 2, none⟩ = some (.string (⟨#[]⟩ : ByteArray)) := bc BK102 2
     have hcz28_3 : wr.cell? ⟨gb102, 3, none⟩ = some (.string (⟨#[]⟩ : ByteArray)) := bc BK102 3
     have hfz28_0 := blk_frozen BK102.out 0
     have hfz28_1 := blk_frozen BK102.out 1
     have hfz28_2 := blk_frozen BK102.out 2
     have hfz28_3 := blk_frozen BK102.out 3
     go_wp2
     refine bodyPost_ret (results_ct rfl _ _ gb102 35 #[.int .i64 x102000_1, .int .i64 x102001_1, .string x102002_1, .string x102003_1] (0, 0) _ rfl bkp Tryd.underlying35 rfl (by kernel_rfl)) rfl ?_
     exact ⟨er, bh⟩
 ·
  replace c4 := Bool.eq_false_iff.mpr c4
  subst c4
  rw [if_neg (show ¬ (false = true) by decide)] at H
  simp only [Option.some.injEq, Prod.mk.injEq] at H
  obtain ⟨rfl, rfl, rfl, rfl, rfl⟩ := H
  go_enter Tryd.func33, Tryd.ntmps33
  go_wp2_with (first | ((with_reducible refine gate_dst (N := 2) rfl ?_); refine bx 2 #[.int .i64 a0_0, .int .i64 a0_1, .string a0_2, .string a0_3] 35 ?_; intro gb101 hg w29 hbox hb; have BK101 := Aside0.mk (hbox); have GW101 := Aside0.mk (bz hg); have GE101 := Aside0.mk (bz hg); replace HB := Aside0.mk (below_step bh hb); clear hb hbox hg) | ((with_reducible refine gate_dst (N := 4) rfl ?_); refine bx 4 #[.int .i64 0, .int .i64 0, .string (⟨#[]⟩ : ByteArray), .string (⟨#[]⟩ : ByteArray)] 35 ?_; intro gb102 hg w30 hbox hb; have BK102 := Aside0.mk (hbox); have GW102 := Aside0.mk (bz hg); have GE102 := Aside0.mk (bz hg); have NB101_102 := Aside0.mk ((nl (o := .cells #[.int .i64 a0_0, .int .i64 a0_1, .string a0_2, .string a0_3] 35 (0, 0)) hg bk : gb101 ≠ gb102)); have NB102_101 := Aside0.mk ((ng (o := .cells #[.int .i64 a0_0, .int .i64 a0_1, .string a0_2, .string a0_3] 35 (0, 0)) hg bk : gb102 ≠ gb101)); replace BK101 := Aside0.mk (blk_below (g := gb101) (o := .cells #[.int .i64 a0_0, .int .i64 a0_1, .string a0_2, .string a0_3] 35 (0, 0)) bk hb); replace HB := Aside0.mk (below_step bh hb); clear hb hbox hg; have hnb31 := NB101_102.out; have hnc31 := NB102_101.out; have hcz32_0 : w30.cell? ⟨gb101, 0, none⟩ = some (.int .i64 a0_0) := bc BK101 0; have hcz32_1 : w30.cell? ⟨gb101, 1, none⟩ = some (.int .i64 a0_1) := bc BK101 1; have hcz32_2 : w30.cell? ⟨gb101, 2, none⟩ = some (.string a0_2) := bc BK101 2; have hcz32_3 : w30.cell? ⟨gb101, 3, none⟩ = some (.string a0_3) := bc BK101 3; have hfz32_0 := blk_frozen BK101.out 0; have hfz32_1 := blk_frozen BK101.out 1; have hfz32_2 := blk_frozen BK101.out 2; have hfz32_3 := blk_frozen BK101.out 3) | ((with_reducible refine gate_callee (f := 30) rfl ?_); refine goesL_ (some 8) rfl rfl Tryd.func30 (by kernel_rfl) rfl #[.agg #[.int .i64 a0_0, .int .i64 a0_1, .string a0_2, .string a0_3]] rfl mc ?_; (with_reducible refine (spec_ChunkerOk.calls k a0_0 a0_1 a0_2 a0_3 false _ A3.out).mono ?_); rintro e w33 ⟨rfl, hb⟩; refine ⟨_, rfl, ?_⟩; replace BK101 := Aside0.mk (blk_below (g := gb101) (o := .cells #[.int .i64 a0_0, .int .i64 a0_1, .string a0_2, .string a0_3] 35 (0, 0)) bk hb); replace BK102 := Aside0.mk (blk_below (g := gb102) (o := .cells #[.int .i64 0, .int .i64 0, .string (⟨#[]⟩ : ByteArray), .string (⟨#[]⟩ : ByteArray)] 35 (0, 0)) bk hb); replace HB := Aside0.mk (below_step bh hb); (try clear hb); (try clear hb2); (try clear hk); (try clear hi); have hcz34_0 : w33.cell? ⟨gb102, 0, none⟩ = some (.int .i64 0) := bc BK102 0; have hcz34_1 : w33.cell? ⟨gb102, 1, none⟩ = some (.int .i64 0) := bc BK102 1; have hcz34_2 : w33.cell? ⟨gb102, 2, none⟩ = some (.string (⟨#[]⟩ : ByteArray)) := bc BK102 2; have hcz34_3 : w33.cell? ⟨gb102, 3, none⟩ = some (.string (⟨#[]⟩ : ByteArray)) := bc BK102 3; have hfz34_0 := blk_frozen BK102.out 0; have hfz34_1 := blk_frozen BK102.out 1; have hfz34_2 := blk_frozen BK102.out 2; have hfz34_3 := blk_frozen BK102.out 3))
  refine bodyPost_ret (results_ct rfl _ _ gb102 35 #[.int .i64 0, .int .i64 0, .string (⟨#[]⟩ : ByteArray), .string (⟨#[]⟩ : ByteArray)] (0, 0) _ rfl bkp Tryd.underlying35 rfl (by kernel_rfl)) rfl ?_
  exact ⟨er, bh⟩
/-! ### spec_Unchunked: function 23 -/
def spec_Unchunked.f (k : Nat) (a0 : ByteArray) : Option (ByteArray × Int × Bool) := (spec_EatAll.f k 1 0 (⟨#[]⟩ : ByteArray) (⟨#[]⟩ : ByteArray) a0).bind fun bt101 => (if bt101.1 = 8 then (some (bt101.2.2.2.1, bt101.2.2.2.2, true)) else (some ((⟨#[]⟩ : ByteArray), 0, false)))
theorem spec_Unchunked.mono : ∀ a0 k, LeO (spec_Unchunked.f k a0) (spec_Unchunked.f (k + 1) a0) := by
 intro a0 k
 unfold spec_Unchunked.f
 repeat' first
   | (with_reducible exact spec_EatAll.mono _ _ _ _ _ _)
   | (with_reducible exact LeO.refl _)
   | (with_reducible exact LeO.none _)
   | (with_reducible refine LeO.ite ?_ ?_)
   | (with_reducible refine LeO.bind ?_ (fun _ => ?_))
   | exact spec_EatAll.mono _ _ _ _ _ _
   | exact LeO.none _
   | refine LeO.ite ?_ ?_
   | refine LeO.bind ?_ (fun _ => ?_)
set_option maxHeartbeats 8000000 in
set_option maxRecDepth 100000 in
theorem spec_Unchunked.calls (k : Nat) (a0 : ByteArray) (r1 : ByteArray) (r2 : Int) (r3 : Bool) (w : World) (h : spec_Unchunked.f k a0 = some (r1, r2, r3)) :
  Calls Tryd.prog 23 #[.string a0] w fun e w' => e = .returned (.tuple #[.string r1, .int .i64 r2, .bool r3]) ∧ Below w.heap.size w w' := by
 have hu35 := Tryd.underlying35
 have HB := Aside0.mk (Below.refl w.heap.size w)
 have H : ((spec_EatAll.f k 1 0 (⟨#[]⟩ : ByteArray) (⟨#[]⟩ : ByteArray) a0).bind fun bt101 => (if bt101.1 = 8 then (some (bt101.2.2.2.1, bt101.2.2.2.2, true)) else (some ((⟨#[]⟩ : ByteArray), 0, false)))) = some (r1, r2, r3) := h
 clear h
 obtain ⟨⟨t101, t102, t103, t104, t105⟩, A20, H⟩ := Option.bind_eq_some_iff.mp H
 try dsimp only at H
 have A2 := Aside0.mk A20
 clear A20
 by_cases c3 : t101 = 8
 ·
  rw [if_pos c3] at H
  have c3b0 : (t101 == 8) = true := beq_iff_eq.mpr c3
  have c3b1 : (t101 != 8) = false := bne_eq_false_iff_eq.mpr c3
  clear c3
  simp only [Option.some.injEq, Prod.mk.injEq] at H
  obtain ⟨rfl, rfl, rfl⟩ := H
  go_enter Tryd.func23, Tryd.ntmps23
  go_wp2_with (first | ((with_reducible refine gate_callee (f := 33) rfl ?_); refine goesL_ (some 10) rfl rfl Tryd.func33 (by kernel_rfl) rfl #[.agg #[.int .i64 1, .int .i64 0, .string (⟨#[]⟩ : ByteArray), .string (⟨#[]⟩ : ByteArray)], .string a0] rfl mc ?_; (with_reducible refine (spec_EatAll.calls k 1 0 (⟨#[]⟩ : ByteArray) (⟨#[]⟩ : ByteArray) a0 t101 t102 t103 t104 t105 _ A2.out).mono ?_); rintro e w4 ⟨rfl, hb⟩; refine ⟨_, rfl, ?_⟩; replace HB := Aside0.mk (below_step bh hb); (try clear hb); (try clear hb2); (try clear hk); (try clear hi)) | ((with_reducible refine gate_dst (N := 5) rfl ?_); refine bx 5 #[.int .i64 0, .int .i64 0, .string (⟨#[]⟩ : ByteArray), .string (⟨#[]⟩ : ByteArray)] 35 ?_; intro gb106 hg w5 hbox hb; have BK106 := Aside0.mk (hbox); have GW106 := Aside0.mk (bz hg); have GE106 := Aside0.mk (bz hg); replace HB := Aside0.mk (below_step bh hb); clear hb hbox hg; have hcz6_0 : w5.cell? ⟨gb106, 0, none⟩ = some (.int .i64 0) := bc BK106 0; have hcz6_1 : w5.cell? ⟨gb106, 1, none⟩ = some (.int .i64 0) := bc BK106 1; have hcz6_2 : w5.cell? ⟨gb106, 2, none⟩ = some (.string (⟨#[]⟩ : ByteArray)) := bc BK106 2; have hcz6_3 : w5.cell? ⟨gb106, 3, none⟩ = some (.string (⟨#[]⟩ : ByteArray)) := bc BK106 3; have hfz6_0 := blk_frozen BK106.out 0; have hfz6_1 := blk_frozen BK106.out 1; have hfz6_2 := blk_frozen BK106.out 2; have hfz6_3 := blk_frozen BK106.out 3))
  go_ret3
  exact ⟨er, bh⟩
 ·
  rw [if_neg c3] at H
  have c3b0 : (t101 == 8) = false := beq_eq_false_iff_ne.mpr c3
  have c3b1 : (t101 != 8) = true := bne_iff_ne.mpr c3
  simp only [Option.some.injEq, Prod.mk.injEq] at H
  obtain ⟨rfl, rfl, rfl⟩ := H
  go_enter Tryd.func23, Tryd.ntmps23
  go_wp2_with (first | ((with_reducible refine gate_callee (f := 33) rfl ?_); refine goesL_ (some 10) rfl rfl Tryd.func33 (by kernel_rfl) rfl #[.agg #[.int .i64 1, .int .i64 0, .string (⟨#[]⟩ : ByteArray), .string (⟨#[]⟩ : ByteArray)], .string a0] rfl mc ?_; (with_reducible refine (spec_EatAll.calls k 1 0 (⟨#[]⟩ : ByteArray) (⟨#[]⟩ : ByteArray) a0 t101 t102 t103 t104 t105 _ A2.out).mono ?_); rintro e w7 ⟨rfl, hb⟩; refine ⟨_, rfl, ?_⟩; replace HB := Aside0.mk (below_step bh hb); (try clear hb); (try clear hb2); (try clear hk); (try clear hi)) | ((with_reducible refine gate_dst (N := 5) rfl ?_); refine bx 5 #[.int .i64 0, .int .i64 0, .string (⟨#[]⟩ : ByteArray), .string (⟨#[]⟩ : ByteArray)] 35 ?_; intro gb106 hg w8 hbox hb; have BK106 := Aside0.mk (hbox); have GW106 := Aside0.mk (bz hg); have GE106 := Aside0.mk (bz hg); replace HB := Aside0.mk (below_step bh hb); clear hb hbox hg; have hcz9_0 : w8.cell? ⟨gb106, 0, none⟩ = some (.int .i64 0) := bc BK106 0; have hcz9_1 : w8.cell? ⟨gb106, 1, none⟩ = some (.int .i64 0) := bc BK106 1; have hcz9_2 : w8.cell? ⟨gb106, 2, none⟩ = some (.string (⟨#[]⟩ : ByteArray)) := bc BK106 2; have hcz9_3 : w8.cell? ⟨gb106, 3, none⟩ = some (.string (⟨#[]⟩ : ByteArray)) := bc BK106 3; have hfz9_0 := blk_frozen BK106.out 0; have hfz9_1 := blk_frozen BK106.out 1; have hfz9_2 := blk_frozen BK106.out 2; have hfz9_3 := blk_frozen BK106.out 3))
  go_ret3
  exact ⟨er, bh⟩
/-! ### laws_FnChunked: function 4 -/
mutual
def laws_FnChunked.j0 : Nat → List Int → List ByteArray → ByteArray → Bool → Option (Bool)
 | 0, _, _, _, _ => none
 | k + 1, x0, x3, x4, x62 => if x62 = true then (some false) else (if x4.toList = ([] : List UInt8) then (some true) else (laws_FnChunked.l0 k x0 x3 x4 (⟨#[]⟩ : ByteArray) 0))
def laws_FnChunked.l0 : Nat → List Int → List ByteArray → ByteArray → ByteArray → Int → Option (Bool)
 | 0, _, _, _, _, _ => none
 | k + 1, x0, x3, x4, x12, x13 => if x13 < (x3.length : Int) then (if 0 ≤ x13 then (if x12.size + (rdOf ByteArray.empty x3 x13).size ≤ 9223372036854775807 then (laws_FnChunked.l0 k x0 x3 x4 (x12 ++ (rdOf ByteArray.empty x3 x13)) (wrap64 (x13 + 1))) else (none)) else (none)) else (if x4.size + 2 ≤ 9223372036854775807 then ((impl_Unchunked.f k (x4 ++ (⟨#[48, 120]⟩ : ByteArray))).bind fun bt115 => ((laws_pick.f k x0 1 (x4.size : Int)).bind fun t118 => (if 0 ≤ (wrap64 ((wrap64 ((x4.size : Int) - 1)) - t118)) then (if (wrap64 ((wrap64 ((x4.size : Int) - 1)) - t118)) ≤ (x4.size : Int) then ((impl_Unchunked.f k (x4.extract 0 ((wrap64 ((wrap64 ((x4.size : Int) - 1)) - t118)) : Int).toNat)).bind fun bt119 => ((impl_Chunked.f (([x12] : List ByteArray))).bind fun t125 => ((impl_Unchunked.f k t125).bind fun bt126 => (if bt115.2.2 = true then (if bt115.1.toList = x12.toList then (if bt115.2.1 = (x4.size : Int) then (if bt119.2.2 = true then (some false) else (if bt126.2.2 = true then (some (bt126.1.toList == x12.toList)) else (some false))) else (some false)) else (some false)) else (some false))))) else (none)) else (none)))) else (none))
end
def laws_FnChunked.f (k : Nat) (l0 : List Int) : Option (Bool) := (laws_big.f l0).bind fun t101 => (if t101 = true then (some true) else ((spec_DrawChunked.f k l0).bind fun t102 => ((impl_Chunked.f t102).bind fun t105 => ((spec_DrawUnchunked.f k l0).bind fun t106 => ((impl_Unchunked.f k t106).bind fun bt107 => ((spec_Unchunked.f k t106).bind fun bt110 => (if (bt107.2.2 != bt110.2.2) = true then (laws_FnChunked.j0 k l0 t102 t105 true) else (if bt107.2.1 = bt110.2.1 then (if bt107.1.toList = bt110.1.toList then ((spec_Chunked.f k t102).bind fun t113 => (laws_FnChunked.j0 k l0 t102 t105 (t105.toList != t113.toList))) else (laws_FnChunked.j0 k l0 t102 t105 true)) else (laws_FnChunked.j0 k l0 t102 t105 true)))))))))
theorem laws_FnChunked.mono_l : ∀ k, (∀ y0 y1 y2 y3, LeO (laws_FnChunked.j0 k y0 y1 y2 y3) (laws_FnChunked.j0 (k + 1) y0 y1 y2 y3)) ∧ (∀ y0 y1 y2 y3 y4, LeO (laws_FnChunked.l0 k y0 y1 y2 y3 y4) (laws_FnChunked.l0 (k + 1) y0 y1 y2 y3 y4))
 | 0 => ⟨fun _ _ _ _ r h => by simp [laws_FnChunked.j0] at h, fun _ _ _ _ _ r h => by simp [laws_FnChunked.l0] at h⟩
 | k + 1 => by
  obtain ⟨ih0, ih1⟩ := laws_FnChunked.mono_l k
  refine ⟨?_, ?_⟩
  ·
   intro y0 y1 y2 y3
   unfold laws_FnChunked.j0
   repeat' first
   | (with_reducible exact ih0 _ _ _ _)
   | (with_reducible exact ih1 _ _ _ _ _)
   | (with_reducible exact impl_Unchunked.mono _ _)
   | (with_reducible exact laws_pick.mono _ _ _ _)
   | (with_reducible exact spec_Chunked.mono _ _)
   | (with_reducible exact spec_DrawChunked.mono _ _)
   | (with_reducible exact spec_DrawUnchunked.mono _ _)
   | (with_reducible exact spec_Unchunked.mono _ _)
   | (with_reducible exact LeO.refl _)
   | (with_reducible exact LeO.none _)
   | (with_reducible refine LeO.ite ?_ ?_)
   | (with_reducible refine LeO.bind ?_ (fun _ => ?_))
   | exact ih0 _ _ _ _
   | exact ih1 _ _ _ _ _
   | exact impl_Unchunked.mono _ _
   | exact laws_pick.mono _ _ _ _
   | exact spec_Chunked.mono _ _
   | exact spec_DrawChunked.mono _ _
   | exact spec_DrawUnchunked.mono _ _
   | exact spec_Unchunked.mono _ _
   | exact LeO.none _
   | refine LeO.ite ?_ ?_
   | refine LeO.bind ?_ (fun _ => ?_)
  ·
   intro y0 y1 y2 y3 y4
   unfold laws_FnChunked.l0
   repeat' first
   | (with_reducible exact ih0 _ _ _ _)
   | (with_reducible exact ih1 _ _ _ _ _)
   | (with_reducible exact impl_Unchunked.mono _ _)
   | (with_reducible exact laws_pick.mono _ _ _ _)
   | (with_reducible exact spec_Chunked.mono _ _)
   | (with_reducible exact spec_DrawChunked.mono _ _)
   | (with_reducible exact spec_DrawUnchunked.mono _ _)
   | (with_reducible exact spec_Unchunked.mono _ _)
   | (with_reducible exact LeO.refl _)
   | (with_reducible exact LeO.none _)
   | (with_reducible refine LeO.ite ?_ ?_)
   | (with_reducible refine LeO.bind ?_ (fun _ => ?_))
   | exact ih0 _ _ _ _
   | exact ih1 _ _ _ _ _
   | exact impl_Unchunked.mono _ _
   | exact laws_pick.mono _ _ _ _
   | exact spec_Chunked.mono _ _
   | exact spec_DrawChunked.mono _ _
   | exact spec_DrawUnchunked.mono _ _
   | exact spec_Unchunked.mono _ _
   | exact LeO.none _
   | refine LeO.ite ?_ ?_
   | refine LeO.bind ?_ (fun _ => ?_)
theorem laws_FnChunked.mono : ∀ a0 k, LeO (laws_FnChunked.f k a0) (laws_FnChunked.f (k + 1) a0) := by
 intro a0 k
 obtain ⟨ih0, ih1⟩ := laws_FnChunked.mono_l k
 unfold laws_FnChunked.f
 repeat' first
   | (with_reducible exact ih0 _ _ _ _)
   | (with_reducible exact ih1 _ _ _ _ _)
   | (with_reducible exact impl_Unchunked.mono _ _)
   | (with_reducible exact laws_pick.mono _ _ _ _)
   | (with_reducible exact spec_Chunked.mono _ _)
   | (with_reducible exact spec_DrawChunked.mono _ _)
   | (with_reducible exact spec_DrawUnchunked.mono _ _)
   | (with_reducible exact spec_Unchunked.mono _ _)
   | (with_reducible exact LeO.refl _)
   | (with_reducible exact LeO.none _)
   | (with_reducible refine LeO.ite ?_ ?_)
   | (with_reducible refine LeO.bind ?_ (fun _ => ?_))
   | exact ih0 _ _ _ _
   | exact ih1 _ _ _ _ _
   | exact impl_Unchunked.mono _ _
   | exact laws_pick.mono _ _ _ _
   | exact spec_Chunked.mono _ _
   | exact spec_DrawChunked.mono _ _
   | exact spec_DrawUnchunked.mono _ _
   | exact spec_Unchunked.mono _ _
   | exact LeO.none _
   | refine LeO.ite ?_ ?_
   | refine LeO.bind ?_ (fun _ => ?_)
set_option maxHeartbeats 8000000 in
set_option maxRecDepth 100000 in
theorem laws_FnChunked.calls (k : Nat) (A0 : Option Addr) (c0 : Nat) (l0 : List Int) (r : Bool) (w : World) (hX : XW 6 w) (hr0 : Kd.C (Kd.int .u8) w A0 l0.length l0) (hc0 : l0.length ≤ c0) (h : laws_FnChunked.f k l0 = some r) :
  Calls Tryd.prog 4 #[.slice A0 l0.length c0] w fun e w' => e = .returned (.bool r) ∧ Below w.heap.size w w' := by
 have HR0 := Aside0.mk hr0
 have HC0 := Aside0.mk hc0
 clear hr0 hc0
 have HB := Aside0.mk (Below.refl w.heap.size w)
 have H : ((laws_big.f l0).bind fun t101 => (if t101 = true then (some true) else ((spec_DrawChunked.f k l0).bind fun t102 => ((impl_Chunked.f t102).bind fun t105 => ((spec_DrawUnchunked.f k l0).bind fun t106 => ((impl_Unchunked.f k t106).bind fun bt107 => ((spec_Unchunked.f k t106).bind fun bt110 => (if (bt107.2.2 != bt110.2.2) = true then (laws_FnChunked.j0 k l0 t102 t105 true) else (if bt107.2.1 = bt110.2.1 then (if bt107.1.toList = bt110.1.toList then ((spec_Chunked.f k t102).bind fun t113 => (laws_FnChunked.j0 k l0 t102 t105 (t105.toList != t113.toList))) else (laws_FnChunked.j0 k l0 t102 t105 true)) else (laws_FnChunked.j0 k l0 t102 t105 true)))))))))) = some r := h
 clear h
 obtain ⟨t101, A20, H⟩ := Option.bind_eq_some_iff.mp H
 try dsimp only at H
 have A2 := Aside0.mk A20
 clear A20
 by_cases c3 : t101 = true
 ·
  subst c3
  have H1 : (some true) = some r := by rw [if_pos rfl] at H; exact H
  clear H
  have H := H1
  clear H1
  obtain rfl := Option.some.inj H
  go_enter Tryd.func4, Tryd.ntmps4
  go_wp2_with (first | ((with_reducible refine gate_callee (f := 6) rfl ?_); refine goesL_ (some 25) rfl rfl Tryd.func6 (by kernel_rfl) rfl #[.slice A0 l0.length c0] rfl (by (try simp only [List.map_toArray, List.map_cons, List.map_nil]); first | done | rfl | (simp only [ne_nil_isEmpty]; rfl) | (simp only [List.length_drop, List.length_take]; rfl)) ?_; (with_reducible refine (laws_big.calls _ _ l0 true _ ?side1 ?side2 A2.out).mono ?_); (case side1 => repeat (first | exact HR0.out | (with_reducible refine Kd.C_alloc ?_ _) | (with_reducible refine Kd.C_drewN ?_ _) | (with_reducible refine Kd.C_drew ?_))); (case side2 => exact HC0.out); rintro e w' ⟨rfl, ⟨nd, rfl⟩⟩; refine ⟨_, rfl, ?_⟩))
  go_ret
  exact ⟨by first | rfl | (simp [ne_nil_isEmpty]; done) | (simp [errW_none, errW_some] <;> rfl) | (simp [*, errW_none, errW_some] <;> rfl), bh⟩
 ·
  replace c3 := Bool.eq_false_iff.mpr c3
  subst c3
  rw [if_neg (show ¬ (false = true) by decide)] at H
  obtain ⟨t102, A40, H⟩ := Option.bind_eq_some_iff.mp H
  try dsimp only at H
  have A4 := Aside0.mk A40
  clear A40
  obtain ⟨t105, A50, H⟩ := Option.bind_eq_some_iff.mp H
  try dsimp only at H
  have A5 := Aside0.mk A50
  clear A50
  obtain ⟨t106, A60, H⟩ := Option.bind_eq_some_iff.mp H
  try dsimp only at H
  have A6 := Aside0.mk A60
  clear A60
  obtain ⟨⟨t107, t108, t109⟩, A70, H⟩ := Option.bind_eq_some_iff.mp H
  try dsimp only at H
  have A7 := Aside0.mk A70
  clear A70
  obtain ⟨⟨t110, t111, t112⟩, A80, H⟩ := Option.bind_eq_some_iff.mp H
  try dsimp only at H
  have A8 := Aside0.mk A80
  clear A80
  have HC9 := Aside0.mk H
  clear H
  go_enter Tryd.func4, Tryd.ntmps4
  go_upto_region 8 with (first | ((with_reducible refine gate_callee (f := 6) rfl ?_); refine goesL_ (some 25) rfl rfl Tryd.func6 (by kernel_rfl) rfl #[.slice A0 l0.length c0] rfl (by (try simp only [List.map_toArray, List.map_cons, List.map_nil]); first | done | rfl | (simp only [ne_nil_isEmpty]; rfl) | (simp only [List.length_drop, List.length_take]; rfl)) ?_; (with_reducible refine (laws_big.calls _ _ l0 false _ ?side1 ?side2 A2.out).mono ?_); (case side1 => repeat (first | exact HR0.out | (with_reducible refine Kd.C_alloc ?_ _) | (with_reducible refine Kd.C_drewN ?_ _) | (with_reducible refine Kd.C_drew ?_))); (case side2 => exact HC0.out); rintro e w' ⟨rfl, ⟨nd, rfl⟩⟩; refine ⟨_, rfl, ?_⟩) | ((with_reducible refine gate_callee (f := 19) rfl ?_); refine goesL_ (some 27) rfl rfl Tryd.func19 (by kernel_rfl) rfl #[.slice A0 l0.length c0] rfl (by (try simp only [List.map_toArray, List.map_cons, List.map_nil]); first | done | rfl | (simp only [ne_nil_isEmpty]; rfl) | (simp only [List.length_drop, List.length_take]; rfl)) ?_; (with_reducible refine (spec_DrawChunked.calls k _ _ l0 t102 _ ?side1 ?side2 A4.out).mono ?_); (case side1 => repeat (first | exact HR0.out | (with_reducible refine Kd.C_alloc ?_ _) | (with_reducible refine Kd.C_drewN ?_ _) | (with_reducible refine Kd.C_drew ?_))); (case side2 => exact HC0.out); rintro e w10 ⟨v103, rfl, ho0, hb⟩; refine ⟨_, rfl, ?_⟩; have HO104 := Aside0.mk (Kd.R_lower ho0 (below_size bh)); replace HB := Aside0.mk (below_step bh hb); (try clear hb); (try clear hb2); (try clear hk); (try clear hi); (try clear ho0); obtain ⟨Ao11, co11, eo11⟩ := Kd.R_slice HO104.out; subst eo11) | ((with_reducible refine gate_callee (f := 20) rfl ?_); refine goesL_ (some 29) rfl rfl Tryd.func20 (by kernel_rfl) rfl #[.slice Ao11 t102.length co11] rfl (by (try simp only [List.map_toArray, List.map_cons, List.map_nil]); first | done | rfl | (simp only [ne_nil_isEmpty]; rfl) | (simp only [List.length_drop, List.length_take]; rfl)) ?_; (with_reducible refine (impl_Chunked.calls _ _ t102 t105 _ ?side1 ?side2 ?side3 A5.out).mono ?_); (case side1 => exact XW.to (XW.stays hX bh) (by decide)); (case side2 => repeat (first | exact (Kd.R_reads' HO104.out).2.2 | (with_reducible refine Kd.C_alloc ?_ _) | (with_reducible refine Kd.C_drewN ?_ _) | (with_reducible refine Kd.C_drew ?_))); (case side3 => exact (Kd.R_reads' HO104.out).2.1); rintro e w12 ⟨rfl, hb⟩; refine ⟨_, rfl, ?_⟩; replace HO104 := Aside0.mk (Kd.R_below (by (with_reducible repeat (first | apply Kd.R_alloc | apply Kd.R_drewN | apply Kd.R_drew)); exact HO104.out) hb); replace HB := Aside0.mk (below_step bh hb); (try clear hb); (try clear hb2); (try clear hk); (try clear hi)) | ((with_reducible refine gate_callee (f := 21) rfl ?_); refine goesL_ (some 31) rfl rfl Tryd.func21 (by kernel_rfl) rfl #[.slice A0 l0.length c0] rfl (by (try simp only [List.map_toArray, List.map_cons, List.map_nil]); first | done | rfl | (simp only [ne_nil_isEmpty]; rfl) | (simp only [List.length_drop, List.length_take]; rfl)) ?_; (with_reducible refine (spec_DrawUnchunked.calls k _ _ l0 t106 _ ?side1 ?side2 A6.out).mono ?_); (case side1 => repeat (first | exact (Kd.C_below HR0.out HB.out) | (with_reducible refine Kd.C_alloc ?_ _) | (with_reducible refine Kd.C_drewN ?_ _) | (with_reducible refine Kd.C_drew ?_))); (case side2 => exact HC0.out); rintro e w13 ⟨rfl, hb⟩; refine ⟨_, rfl, ?_⟩; replace HO104 := Aside0.mk (Kd.R_below (by (with_reducible repeat (first | apply Kd.R_alloc | apply Kd.R_drewN | apply Kd.R_drew)); exact HO104.out) hb); replace HB := Aside0.mk (below_step bh hb); (try clear hb); (try clear hb2); (try clear hk); (try clear hi)) | ((with_reducible refine gate_callee (f := 22) rfl ?_); refine goesL_ (some 34) rfl rfl Tryd.func22 (by kernel_rfl) rfl #[.string t106] rfl (by (try simp only [List.map_toArray, List.map_cons, List.map_nil]); first | done | rfl | (simp only [ne_nil_isEmpty]; rfl) | (simp only [List.length_drop, List.length_take]; rfl)) ?_; (with_reducible refine (impl_Unchunked.calls k t106 t107 t108 t109 _ A7.out).mono ?_); rintro e w14 ⟨rfl, hb⟩; refine ⟨_, rfl, ?_⟩; replace HO104 := Aside0.mk (Kd.R_below (by (with_reducible repeat (first | apply Kd.R_alloc | apply Kd.R_drewN | apply Kd.R_drew)); exact HO104.out) hb); replace HB := Aside0.mk (below_step bh hb); (try clear hb); (try clear hb2); (try clear hk); (try clear hi)) | ((with_reducible refine gate_callee (f := 23) rfl ?_); refine goesL_ (some 40) rfl rfl Tryd.func23 (by kernel_rfl) rfl #[.string t106] rfl (by (try simp only [List.map_toArray, List.map_cons, List.map_nil]); first | done | rfl | (simp only [ne_nil_isEmpty]; rfl) | (simp only [List.length_drop, List.length_take]; rfl)) ?_; (with_reducible refine (spec_Unchunked.calls k t106 t110 t111 t112 _ A8.out).mono ?_); rintro e w15 ⟨rfl, hb⟩; refine ⟨_, rfl, ?_⟩; replace HO104 := Aside0.mk (Kd.R_below (by (with_reducible repeat (first | apply Kd.R_alloc | apply Kd.R_drewN | apply Kd.R_drew)); exact HO104.out) hb); replace HB := Aside0.mk (below_step bh hb); (try clear hb); (try clear hb2); (try clear hk); (try clear hi)))
  (try simp only [Act.put, List.setIfInBounds_toArray, List.set_cons_zero, List.set_cons_succ])
  go_cut [62] (fun v62 wc => ∃ (kq : Nat) (x62_8 : Bool), v62 = .bool x62_8 ∧ Aside0 (laws_FnChunked.j0 kq l0 t102 t105 x62_8 = some r) ∧ Aside0 (kq ≤ k) ∧ Aside0 (Kd.R Kd.string 9 wc w.heap.size (fun _ => True) (.slice Ao11 t102.length co11) t102) ∧ Aside0 (Below w.heap.size w wc))
  case first =>
   have H := HC9.out
   clear HC9
   by_cases c16 : (t109 != t112) = true
   ·
    rw [if_pos c16] at H
    have c16b0 : (t109 != t112) = true := c16
    (try (have c16b1 : decide (t109 = t112) = false := by simpa using c16))
    (try (have c16b2 : (t109 == t112) = false := by simpa using c16))
    (try (have c16b3 : ¬ (t109 = t112) := by simpa using c16))
    clear c16
    (first | rw [c16b0] | (simp only [i64_w, i32_w]; rw [c16b0]) | skip)
    have H' := Aside0.mk H
    clear H
    go_wp2
    go_meet
    case rel => exact ⟨_, (true), (by first | rfl | (simp; done) | (simp [*]; done)), H', ⟨by first | omega | exact Nat.le_refl _⟩, ⟨by (with_reducible repeat (first | apply Kd.R_alloc | apply Kd.R_drewN | apply Kd.R_drew)); exact HO104.out⟩, ⟨bh⟩⟩
   ·
    rw [if_neg c16] at H
    have c16b0 : (t109 != t112) = false := by simpa using c16
    (try (have c16b1 : decide (t109 = t112) = true := by simpa using c16))
    (try (have c16b2 : (t109 == t112) = true := by simpa using c16))
    clear c16
    (first | rw [c16b0] | (simp only [i64_w, i32_w]; rw [c16b0]) | skip)
    by_cases c17 : t108 = t111
    ·
     rw [if_pos c17] at H
     have c17b0 : (t108 == t111) = true := beq_iff_eq.mpr c17
     have c17b1 : (t108 != t111) = false := bne_eq_false_iff_eq.mpr c17
     clear c17
     by_cases c18 : t107.toList = t110.toList
     ·
      rw [if_pos c18] at H
      have c18b0 : (t107.toList == t110.toList) = true := beq_iff_eq.mpr c18
      have c18b1 : (t107.toList != t110.toList) = false := bne_eq_false_iff_eq.mpr c18
      clear c18
      obtain ⟨t113, A190, H⟩ := Option.bind_eq_some_iff.mp H
      try dsimp only at H
      have A19 := Aside0.mk A190
      clear A190
      have H' := Aside0.mk H
      clear H
      go_wp2_with (first | (go_at_call 24; (with_reducible refine (spec_Chunked.calls k _ _ t102 t113 _ ?side1 ?side2 A19.out).mono ?_); (case side1 => repeat (first | exact (Kd.R_reads' HO104.out).2.2 | (with_reducible refine Kd.C_alloc ?_ _) | (with_reducible refine Kd.C_drewN ?_ _) | (with_reducible refine Kd.C_drew ?_))); (case side2 => exact (Kd.R_reads' HO104.out).2.1); rintro e w20 ⟨rfl, hb⟩; replace HO104 := Aside0.mk (Kd.R_below (by (with_reducible repeat (first | apply Kd.R_alloc | apply Kd.R_drewN | apply Kd.R_drew)); exact HO104.out) hb); replace HB := Aside0.mk (below_step bh hb); (try clear hb); (try clear hb2); (try clear hk); (try clear hi)))
      go_meet
      case rel => exact ⟨_, ((t105.toList != t113.toList)), (by first | rfl | (simp; done) | (simp [*]; done)), H', ⟨by first | omega | exact Nat.le_refl _⟩, ⟨by (with_reducible repeat (first | apply Kd.R_alloc | apply Kd.R_drewN | apply Kd.R_drew)); exact HO104.out⟩, ⟨bh⟩⟩
     ·
      rw [if_neg c18] at H
      have c18b0 : (t107.toList == t110.toList) = false := beq_eq_false_iff_ne.mpr c18
      have c18b1 : (t107.toList != t110.toList) = true := bne_iff_ne.mpr c18
      have H' := Aside0.mk H
      clear H
      go_wp2
      go_meet
      case rel => exact ⟨_, (true), (by first | rfl | (simp; done) | (simp [*]; done)), H', ⟨by first | omega | exact Nat.le_refl _⟩, ⟨by (with_reducible repeat (first | apply Kd.R_alloc | apply Kd.R_drewN | apply Kd.R_drew)); exact HO104.out⟩, ⟨bh⟩⟩
    ·
     rw [if_neg c17] at H
     have c17b0 : (t108 == t111) = false := beq_eq_false_iff_ne.mpr c17
     have c17b1 : (t108 != t111) = true := bne_iff_ne.mpr c17
     have H' := Aside0.mk H
     clear H
     go_wp2
     go_meet
     case rel => exact ⟨_, (true), (by first | rfl | (simp; done) | (simp [*]; done)), H', ⟨by first | omega | exact Nat.le_refl _⟩, ⟨by (with_reducible repeat (first | apply Kd.R_alloc | apply Kd.R_drewN | apply Kd.R_drew)); exact HO104.out⟩, ⟨bh⟩⟩
  case rest =>
   clear HC9
   try clear c1
   try clear c2
   try clear p2
   try clear c3
   try clear c4
   try clear c6
   try clear c16
   try clear c16b0
   try clear c16b1
   try clear c16b2
   try clear c17
   try clear c17b0
   try clear c17b1
   try clear c18
   try clear c18b0
   try clear c18b1
   try clear c19
   try clear c20
   obtain ⟨kq, x62_8, rfl, HA, HJ8, HO_3, HB⟩ := hcut
   cases kq with
   | zero => exact absurd HA.out (by simp [laws_FnChunked.j0])
   | succ kj8 =>
    have H := HA.out
    clear HA
    simp only [laws_FnChunked.j0] at H
    by_cases c21 : x62_8 = true
    ·
     subst c21
     have H1 : (some false) = some r := by rw [if_pos rfl] at H; exact H
     clear H
     have H := H1
     clear H1
     obtain rfl := Option.some.inj H
     go_wp2
     go_ret
     exact ⟨by first | rfl | (simp [ne_nil_isEmpty]; done) | (simp [errW_none, errW_some] <;> rfl) | (simp [*, errW_none, errW_some] <;> rfl), bh⟩
    ·
     replace c21 := Bool.eq_false_iff.mpr c21
     subst c21
     rw [if_neg (show ¬ (false = true) by decide)] at H
     by_cases c22 : t105.toList = ([] : List UInt8)
     ·
      rw [if_pos c22] at H
      have c22b0 : (t105.toList == ([] : List UInt8)) = true := beq_iff_eq.mpr c22
      have c22b9 : t105.toList.isEmpty = true := by cases z_ : t105.toList with | nil => (rw [z_] at c22b0; first | rfl | cases c22b0) | cons _ _ => (rw [z_] at c22b0; first | rfl | cases c22b0)
      have c22b1 : (t105.toList != ([] : List UInt8)) = false := bne_eq_false_iff_eq.mpr c22
      clear c22
      obtain rfl := Option.some.inj H
      go_wp2
      go_ret
      exact ⟨by first | rfl | (simp [ne_nil_isEmpty]; done) | (simp [errW_none, errW_some] <;> rfl) | (simp [*, errW_none, errW_some] <;> rfl), bh⟩
     ·
      rw [if_neg c22] at H
      have c22b0 : (t105.toList == ([] : List UInt8)) = false := beq_eq_false_iff_ne.mpr c22
      have c22b9 : t105.toList.isEmpty = false := by cases z_ : t105.toList with | nil => (rw [z_] at c22b0; first | rfl | cases c22b0) | cons _ _ => (rw [z_] at c22b0; first | rfl | cases c22b0)
      have c22b1 : (t105.toList != ([] : List UInt8)) = true := bne_iff_ne.mpr c22
      have H' := Aside0.mk H
      clear H
      go_wp2
      go_loopg [12, 13] kj8 (fun kq v12 v13 w' => ∃ (x12_2 : ByteArray) (x13_2 : Int), v12 = .string x12_2 ∧ v13 = .int .i64 x13_2 ∧ Aside0 (laws_FnChunked.l0 kq l0 t102 t105 x12_2 x13_2 = some r) ∧ Aside0 (kq ≤ kj8) ∧ Aside0 (Kd.R Kd.string 9 w' w.heap.size (fun _ => True) (.slice Ao11 t102.length co11) t102) ∧ Aside0 (Below w.heap.size w w'))
      case atStart => exact ⟨((⟨#[]⟩ : ByteArray)), (0), (by first | rfl | (simp; done) | (simp [*]; done)), (by first | rfl | (simp; done) | (simp [*]; done)), H', ⟨Nat.le_refl _⟩, ⟨by (with_reducible repeat (first | apply Kd.R_alloc | apply Kd.R_drewN | apply Kd.R_drew)); exact HO_3.out⟩, ⟨bh⟩⟩
      case round =>
       clear H'
       try clear c1
       try clear c2
       try clear p2
       try clear c3
       try clear c4
       try clear c6
       try clear c16
       try clear c16b0
       try clear c16b1
       try clear c16b2
       try clear c17
       try clear c17b0
       try clear c17b1
       try clear c18
       try clear c18b0
       try clear c18b1
       try clear c19
       try clear c20
       try clear c21
       try clear c22
       try clear c22b0
       try clear c22b1
       try clear p2
       obtain ⟨x12_2, x13_2, rfl, rfl, HA, HK2, HO_3, HB⟩ := hrel
       cases gk with
       | zero => exact absurd HA.out (by simp [laws_FnChunked.l0])
       | succ k2 =>
        have H := HA.out
        clear HA
        simp only [laws_FnChunked.l0] at H
        by_cases c23 : x13_2 < (t102.length : Int)
        ·
         rw [if_pos c23] at H
         have c23b0 : decide (x13_2 < (t102.length : Int)) = true := decide_eq_true c23
         clear c23
         by_cases c24 : 0 ≤ x13_2
         ·
          rw [if_pos c24] at H
          have c24b0 : decide (0 ≤ x13_2) = true := decide_eq_true c24
          clear c24
          by_cases c25 : x12_2.size + (rdOf ByteArray.empty t102 x13_2).size ≤ 9223372036854775807
          ·
           rw [if_pos c25] at H
           have c25b0 := eq_true c25
           have c25b1 : decide (x12_2.size + (rdOf ByteArray.empty t102 x13_2).size ≤ 9223372036854775807) = true := decide_eq_true c25
           try have c25b2 : (9223372036854775807 < x12_2.size + (rdOf ByteArray.empty t102 x13_2).size) = False := eq_false (Nat.not_lt.2 c25)
           have H' := Aside0.mk H
           clear H
           have p114 : 0 ≤ (x13_2 : Int) := of_decide_eq_true (by first | (with_reducible assumption) | assumption)
           have q114 : x13_2 < (t102.length : Int) := of_decide_eq_true (by first | (with_reducible assumption) | assumption)
           obtain ⟨ad114, e114, hx114_0⟩ := Kd.at_string (Kd.R_reads' HO_3.out).2.2 x13_2 p114 q114
           cases e114
           replace p114 := eq_true p114
           replace q114 := eq_true q114
           go_wp2
           go_roundg k2
           case measure => have := HJ8.out; have := HK2.out; omega
           case rel => exact ⟨(x12_2 ++ (rdOf ByteArray.empty t102 x13_2)), (wrap64 (x13_2 + 1)), (by first | rfl | (simp; done) | (simp [*]; done)), (by first | rfl | (simp; done) | (simp [*]; done)), H', ⟨by have := HJ8.out; have := HK2.out; omega⟩, ⟨by (with_reducible repeat (first | apply Kd.R_alloc | apply Kd.R_drewN | apply Kd.R_drew)); exact HO_3.out⟩, ⟨bh⟩⟩
          ·
           rw [if_neg c25] at H
           exact absurd H (by simp)
         ·
          rw [if_neg c24] at H
          exact absurd H (by simp)
        ·
         rw [if_neg c23] at H
         have c23b0 : decide (x13_2 < (t102.length : Int)) = false := decide_eq_false c23
         clear c23
         by_cases c26 : t105.size + 2 ≤ 9223372036854775807
         ·
          rw [if_pos c26] at H
          have c26b0 := eq_true c26
          have c26b1 : decide (t105.size + 2 ≤ 9223372036854775807) = true := decide_eq_true c26
          try have c26b2 : (9223372036854775807 < t105.size + 2) = False := eq_false (Nat.not_lt.2 c26)
          obtain ⟨⟨t115, t116, t117⟩, A270, H⟩ := Option.bind_eq_some_iff.mp H
          try dsimp only at H
          have A27 := Aside0.mk A270
          clear A270
          obtain ⟨t118, A280, H⟩ := Option.bind_eq_some_iff.mp H
          try dsimp only at H
          have A28 := Aside0.mk A280
          clear A280
          obtain ⟨ji29, hji29⟩ : ∃ j_ : Int, (wrap64 ((wrap64 ((t105.size : Int) - 1)) - t118)) = j_ := ⟨_, rfl⟩
          replace H : (if 0 ≤ (ji29) then (if (ji29) ≤ (t105.size : Int) then ((impl_Unchunked.f k2 (t105.extract 0 ((ji29) : Int).toNat)).bind fun bt119 => ((impl_Chunked.f (([x12_2] : List ByteArray))).bind fun t125 => ((impl_Unchunked.f k2 t125).bind fun bt126 => (if t117 = true then (if t115.toList = x12_2.toList then (if t116 = (t105.size : Int) then (if bt119.2.2 = true then (some false) else (if bt126.2.2 = true then (some (bt126.1.toList == x12_2.toList)) else (some false))) else (some false)) else (some false)) else (some false))))) else (none)) else (none)) = some r := by first | (rw [hji29] at H; exact H) | (simp only [hji29] at H ⊢; exact H)
          (try rw [hji29] at A27)
          (try rw [hji29] at A28)
          have hji29w : (IntKind.i64.wrap ((wrap64 ((t105.size : Int) - 1)) - t118)) = ji29 := (i64_w _).trans hji29
          try have hji29x : wrap64 ((t105.size : Int) - 1 - t118) = ji29 := by have e_ : wrap64 ((t105.size : Int) - 1) = (t105.size : Int) - 1 := (by unfold wrap64; omega); rw [e_] at hji29; exact hji29
          try have hji29y : IntKind.i64.wrap ((t105.size : Int) - 1 - t118) = ji29 := (i64_w _).trans hji29x
          by_cases c30 : 0 ≤ (ji29)
          ·
           rw [if_pos c30] at H
           have c30b0 := eq_true c30
           have c30b1 : decide (0 ≤ (ji29)) = true := decide_eq_true c30
           clear c30
           by_cases c31 : (ji29) ≤ (t105.size : Int)
           ·
            rw [if_pos c31] at H
            have c31b0 := eq_true c31
            have c31b1 : decide ((ji29) ≤ (t105.size : Int)) = true := decide_eq_true c31
            clear c31
            obtain ⟨⟨t119, t120, t121⟩, A320, H⟩ := Option.bind_eq_some_iff.mp H
            try dsimp only at H
            have A32 := Aside0.mk A320
            clear A320
            obtain ⟨y122, hy122⟩ : ∃ y_ : List ByteArray, y_ = (([x12_2] : List ByteArray)) := ⟨_, rfl⟩
            replace H : ((impl_Chunked.f y122).bind fun t125 => ((impl_Unchunked.f k2 t125).bind fun bt126 => (if t117 = true then (if t115.toList = x12_2.toList then (if t116 = (t105.size : Int) then (if t121 = true then (some false) else (if bt126.2.2 = true then (some (bt126.1.toList == x12_2.toList)) else (some false))) else (some false)) else (some false)) else (some false)))) = some r := by first | (rw [hy122]; with_reducible exact H) | (have H2_ := (Option.bind_some _ _).symm.trans H; rw [hy122]; with_reducible exact H2_) | (have H2_ := (Option.bind_some _ _).symm.trans H; with_reducible exact H2_) | with_reducible exact H | (rw [hy122]; exact H) | exact H
            have Ny122 := Aside0.mk hy122
            clear hy122
            obtain ⟨t125, A330, H⟩ := Option.bind_eq_some_iff.mp H
            try dsimp only at H
            have A33 := Aside0.mk A330
            clear A330
            obtain ⟨⟨t126, t127, t128⟩, A340, H⟩ := Option.bind_eq_some_iff.mp H
            try dsimp only at H
            have A34 := Aside0.mk A340
            clear A340
            by_cases c35 : t117 = true
            ·
             subst c35
             rw [if_pos rfl] at H
             by_cases c36 : t115.toList = x12_2.toList
             ·
              rw [if_pos c36] at H
              have c36b0 : (t115.toList == x12_2.toList) = true := beq_iff_eq.mpr c36
              have c36b1 : (t115.toList != x12_2.toList) = false := bne_eq_false_iff_eq.mpr c36
              clear c36
              by_cases c37 : t116 = (t105.size : Int)
              ·
               rw [if_pos c37] at H
               have c37b0 : (t116 == (t105.size : Int)) = true := beq_iff_eq.mpr c37
               have c37b1 : (t116 != (t105.size : Int)) = false := bne_eq_false_iff_eq.mpr c37
               clear c37
               by_cases c38 : t121 = true
               ·
                subst c38
                have H1 : (some false) = some r := by rw [if_pos rfl] at H; exact H
                clear H
                have H := H1
                clear H1
                obtain rfl := Option.some.inj H
                go_wp2_with (first | ((with_reducible refine gate_callee (f := 22) rfl ?_); refine goesL_ (some 80) rfl rfl Tryd.func22 (by kernel_rfl) rfl #[.string (t105 ++ (⟨#[48, 120]⟩ : ByteArray))] rfl (by (try simp only [List.map_toArray, List.map_cons, List.map_nil]); first | done | rfl | (simp only [ne_nil_isEmpty]; rfl) | (simp only [List.length_drop, List.length_take]; rfl)) ?_; (with_reducible refine (impl_Unchunked.calls k2 (t105 ++ (⟨#[48, 120]⟩ : ByteArray)) t115 t116 true _ A27.out).mono ?_); rintro e w39 ⟨rfl, hb⟩; refine ⟨_, rfl, ?_⟩; replace HO_3 := Aside0.mk (Kd.R_below (by (with_reducible repeat (first | apply Kd.R_alloc | apply Kd.R_drewN | apply Kd.R_drew)); exact HO_3.out) hb); replace HB := Aside0.mk (below_step bh hb); (try clear hb); (try clear hb2); (try clear hk); (try clear hi)) | ((with_reducible refine gate_callee (f := 25) rfl ?_); refine goesL_ (some 92) rfl rfl Tryd.func25 (by kernel_rfl) rfl #[.slice A0 l0.length c0, .int .i64 1, .int .i64 (t105.size : Int)] rfl (by (try simp only [List.map_toArray, List.map_cons, List.map_nil]); first | done | rfl | (simp only [ne_nil_isEmpty]; rfl) | (simp only [List.length_drop, List.length_take]; rfl)) ?_; (with_reducible refine (laws_pick.calls k2 _ _ l0 1 (t105.size : Int) t118 _ ?side1 ?side2 A28.out).mono ?_); (case side1 => repeat (first | exact (Kd.C_below HR0.out HB.out) | (with_reducible refine Kd.C_alloc ?_ _) | (with_reducible refine Kd.C_drewN ?_ _) | (with_reducible refine Kd.C_drew ?_))); (case side2 => exact HC0.out); rintro e w' ⟨rfl, ⟨nd, rfl⟩⟩; refine ⟨_, rfl, ?_⟩) | ((with_reducible refine gate_callee (f := 22) rfl ?_); refine goesL_ (some 95) rfl rfl Tryd.func22 (by kernel_rfl) rfl #[.string (t105.extract 0 ((ji29) : Int).toNat)] rfl (by (try simp only [List.map_toArray, List.map_cons, List.map_nil]); first | done | (simp only [hji29]; rfl) | rfl | (simp only [List.length_drop, List.length_take]; rfl)) ?_; (with_reducible refine (impl_Unchunked.calls k2 (t105.extract 0 ((ji29) : Int).toNat) t119 t120 true _ A32.out).mono ?_); rintro e w40 ⟨rfl, hb⟩; refine ⟨_, rfl, ?_⟩; replace HO_3 := Aside0.mk (Kd.R_below (by (with_reducible repeat (first | apply Kd.R_alloc | apply Kd.R_drewN | apply Kd.R_drew)); exact HO_3.out) hb); replace HB := Aside0.mk (below_step bh hb); (try clear hb); (try clear hb2); (try clear hk); (try clear hi)) | ((with_reducible refine gate_dst (N := 100) rfl ?_); (try (refine gate_guard (by rfl) ?_; dsimp only)); refine Kd.R_lit Kd.string _ 9 ?hg (N := 100) ?hd (xs := ([x12_2] : List ByteArray)) (inner := [.string x12_2]) (ok := fun _ => True) (okp := fun _ => True) ?hr ?hp (fun _ hk => hk) trivial (Below.refl _ _) (Nat.le_refl _) (by simp) ?_; (case hd => rfl); (case hg => rfl); (case hr => first | (go_simp; done) | (go_simp; rfl)); (case hp => exact (Reps.one (show Kd.M Kd.string _ _ _ x12_2 [.string x12_2] from rfl) (Reps.none _ _))); intro v123 w41 ho42 hb hg_ hnew_; clear hg_ hnew_; (first | rw [← Ny122.out] at ho42 | (simp only [Int.reduceToNat] at ho42; rw [← Ny122.out] at ho42)); have HO124 := Aside0.mk (Kd.R_lower (Kd.R_new' ho42 (Kd.R_lt (by (with_reducible repeat (first | apply Kd.R_alloc | apply Kd.R_drewN | apply Kd.R_drew)); exact HO_3.out))) (below_size bh)); replace HO_3 := Aside0.mk (Kd.R_elder' (by (with_reducible repeat (first | apply Kd.R_alloc | apply Kd.R_drewN | apply Kd.R_drew)); exact HO_3.out) (Kd.R_base ho42) hb); replace HB := Aside0.mk (below_step bh hb); clear hb ho42; obtain ⟨Ao43, co43, eo43⟩ := Kd.R_slice HO124.out; subst eo43) | ((with_reducible refine gate_callee (f := 20) rfl ?_); refine goesL_ (some 101) rfl rfl Tryd.func20 (by kernel_rfl) rfl #[.slice Ao43 y122.length co43] rfl (by (try simp only [List.map_toArray, List.map_cons, List.map_nil]); first | done | rfl | (simp only [ne_nil_isEmpty]; rfl) | (simp only [List.length_drop, List.length_take]; rfl)) ?_; (with_reducible refine (impl_Chunked.calls _ _ y122 t125 _ ?side1 ?side2 ?side3 A33.out).mono ?_); (case side1 => exact XW.to (XW.stays hX bh) (by decide)); (case side2 => repeat (first | exact (Kd.R_reads' HO124.out).2.2 | (with_reducible refine Kd.C_alloc ?_ _) | (with_reducible refine Kd.C_drewN ?_ _) | (with_reducible refine Kd.C_drew ?_))); (case side3 => exact (Kd.R_reads' HO124.out).2.1); rintro e w44 ⟨rfl, hb⟩; refine ⟨_, rfl, ?_⟩; replace HO_3 := Aside0.mk (Kd.R_below (by (with_reducible repeat (first | apply Kd.R_alloc | apply Kd.R_drewN | apply Kd.R_drew)); exact HO_3.out) hb); replace HO124 := Aside0.mk (Kd.R_below (by (with_reducible repeat (first | apply Kd.R_alloc | apply Kd.R_drewN | apply Kd.R_drew)); exact HO124.out) hb); replace HB := Aside0.mk (below_step bh hb); (try clear hb); (try clear hb2); (try clear hk); (try clear hi)) | ((with_reducible refine gate_callee (f := 22) rfl ?_); refine goesL_ (some 104) rfl rfl Tryd.func22 (by kernel_rfl) rfl #[.string t125] rfl (by (try simp only [List.map_toArray, List.map_cons, List.map_nil]); first | done | rfl | (simp only [ne_nil_isEmpty]; rfl) | (simp only [List.length_drop, List.length_take]; rfl)) ?_; (with_reducible refine (impl_Unchunked.calls k2 t125 t126 t127 t128 _ A34.out).mono ?_); rintro e w45 ⟨rfl, hb⟩; refine ⟨_, rfl, ?_⟩; replace HO_3 := Aside0.mk (Kd.R_below (by (with_reducible repeat (first | apply Kd.R_alloc | apply Kd.R_drewN | apply Kd.R_drew)); exact HO_3.out) hb); replace HO124 := Aside0.mk (Kd.R_below (by (with_reducible repeat (first | apply Kd.R_alloc | apply Kd.R_drewN | apply Kd.R_drew)); exact HO124.out) hb); replace HB := Aside0.mk (below_step bh hb); (try clear hb); (try clear hb2); (try clear hk); (try clear hi)))
                go_ret
                exact ⟨by first | rfl | (simp [errW_none, errW_some] <;> rfl) | (simp only [← hji29]; first | rfl | (simp [errW_none, errW_some] <;> rfl)) | (simp [*, errW_none, errW_some] <;> rfl), bh⟩
               ·
                replace c38 := Bool.eq_false_iff.mpr c38
                subst c38
                rw [if_neg (show ¬ (false = true) by decide)] at H
                by_cases c46 : t128 = true
                ·
                 subst c46
                 have H1 : (some (t126.toList == x12_2.toList)) = some r := by rw [if_pos rfl] at H; exact H
                 clear H
                 have H := H1
                 clear H1
                 obtain rfl := Option.some.inj H
                 go_wp2_with (first | ((with_reducible refine gate_callee (f := 22) rfl ?_); refine goesL_ (some 80) rfl rfl Tryd.func22 (by kernel_rfl) rfl #[.string (t105 ++ (⟨#[48, 120]⟩ : ByteArray))] rfl (by (try simp only [List.map_toArray, List.map_cons, List.map_nil]); first | done | rfl | (simp only [ne_nil_isEmpty]; rfl) | (simp only [List.length_drop, List.length_take]; rfl)) ?_; (with_reducible refine (impl_Unchunked.calls k2 (t105 ++ (⟨#[48, 120]⟩ : ByteArray)) t115 t116 true _ A27.out).mono ?_); rintro e w47 ⟨rfl, hb⟩; refine ⟨_, rfl, ?_⟩; replace HO_3 := Aside0.mk (Kd.R_below (by (with_reducible repeat (first | apply Kd.R_alloc | apply Kd.R_drewN | apply Kd.R_drew)); exact HO_3.out) hb); replace HB := Aside0.mk (below_step bh hb); (try clear hb); (try clear hb2); (try clear hk); (try clear hi)) | ((with_reducible refine gate_callee (f := 25) rfl ?_); refine goesL_ (some 92) rfl rfl Tryd.func25 (by kernel_rfl) rfl #[.slice A0 l0.length c0, .int .i64 1, .int .i64 (t105.size : Int)] rfl (by (try simp only [List.map_toArray, List.map_cons, List.map_nil]); first | done | rfl | (simp only [ne_nil_isEmpty]; rfl) | (simp only [List.length_drop, List.length_take]; rfl)) ?_; (with_reducible refine (laws_pick.calls k2 _ _ l0 1 (t105.size : Int) t118 _ ?side1 ?side2 A28.out).mono ?_); (case side1 => repeat (first | exact (Kd.C_below HR0.out HB.out) | (with_reducible refine Kd.C_alloc ?_ _) | (with_reducible refine Kd.C_drewN ?_ _) | (with_reducible refine Kd.C_drew ?_))); (case side2 => exact HC0.out); rintro e w' ⟨rfl, ⟨nd, rfl⟩⟩; refine ⟨_, rfl, ?_⟩) | ((with_reducible refine gate_callee (f := 22) rfl ?_); refine goesL_ (some 95) rfl rfl Tryd.func22 (by kernel_rfl) rfl #[.string (t105.extract 0 ((ji29) : Int).toNat)] rfl (by (try simp only [List.map_toArray, List.map_cons, List.map_nil]); first | done | (simp only [hji29]; rfl) | rfl | (simp only [List.length_drop, List.length_take]; rfl)) ?_; (with_reducible refine (impl_Unchunked.calls k2 (t105.extract 0 ((ji29) : Int).toNat) t119 t120 false _ A32.out).mono ?_); rintro e w48 ⟨rfl, hb⟩; refine ⟨_, rfl, ?_⟩; replace HO_3 := Aside0.mk (Kd.R_below (by (with_reducible repeat (first | apply Kd.R_alloc | apply Kd.R_drewN | apply Kd.R_drew)); exact HO_3.out) hb); replace HB := Aside0.mk (below_step bh hb); (try clear hb); (try clear hb2); (try clear hk); (try clear hi)) | ((with_reducible refine gate_dst (N := 100) rfl ?_); (try (refine gate_guard (by rfl) ?_; dsimp only)); refine Kd.R_lit Kd.string _ 9 ?hg (N := 100) ?hd (xs := ([x12_2] : List ByteArray)) (inner := [.string x12_2]) (ok := fun _ => True) (okp := fun _ => True) ?hr ?hp (fun _ hk => hk) trivial (Below.refl _ _) (Nat.le_refl _) (by simp) ?_; (case hd => rfl); (case hg => rfl); (case hr => first | (go_simp; done) | (go_simp; rfl)); (case hp => exact (Reps.one (show Kd.M Kd.string _ _ _ x12_2 [.string x12_2] from rfl) (Reps.none _ _))); intro v123 w49 ho50 hb hg_ hnew_; clear hg_ hnew_; (first | rw [← Ny122.out] at ho50 | (simp only [Int.reduceToNat] at ho50; rw [← Ny122.out] at ho50)); have HO124 := Aside0.mk (Kd.R_lower (Kd.R_new' ho50 (Kd.R_lt (by (with_reducible repeat (first | apply Kd.R_alloc | apply Kd.R_drewN | apply Kd.R_drew)); exact HO_3.out))) (below_size bh)); replace HO_3 := Aside0.mk (Kd.R_elder' (by (with_reducible repeat (first | apply Kd.R_alloc | apply Kd.R_drewN | apply Kd.R_drew)); exact HO_3.out) (Kd.R_base ho50) hb); replace HB := Aside0.mk (below_step bh hb); clear hb ho50; obtain ⟨Ao51, co51, eo51⟩ := Kd.R_slice HO124.out; subst eo51) | ((with_reducible refine gate_callee (f := 20) rfl ?_); refine goesL_ (some 101) rfl rfl Tryd.func20 (by kernel_rfl) rfl #[.slice Ao51 y122.length co51] rfl (by (try simp only [List.map_toArray, List.map_cons, List.map_nil]); first | done | rfl | (simp only [ne_nil_isEmpty]; rfl) | (simp only [List.length_drop, List.length_take]; rfl)) ?_; (with_reducible refine (impl_Chunked.calls _ _ y122 t125 _ ?side1 ?side2 ?side3 A33.out).mono ?_); (case side1 => exact XW.to (XW.stays hX bh) (by decide)); (case side2 => repeat (first | exact (Kd.R_reads' HO124.out).2.2 | (with_reducible refine Kd.C_alloc ?_ _) | (with_reducible refine Kd.C_drewN ?_ _) | (with_reducible refine Kd.C_drew ?_))); (case side3 => exact (Kd.R_reads' HO124.out).2.1); rintro e w52 ⟨rfl, hb⟩; refine ⟨_, rfl, ?_⟩; replace HO_3 := Aside0.mk (Kd.R_below (by (with_reducible repeat (first | apply Kd.R_alloc | apply Kd.R_drewN | apply Kd.R_drew)); exact HO_3.out) hb); replace HO124 := Aside0.mk (Kd.R_below (by (with_reducible repeat (first | apply Kd.R_alloc | apply Kd.R_drewN | apply Kd.R_drew)); exact HO124.out) hb); replace HB := Aside0.mk (below_step bh hb); (try clear hb); (try clear hb2); (try clear hk); (try clear hi)) | ((with_reducible refine gate_callee (f := 22) rfl ?_); refine goesL_ (some 104) rfl rfl Tryd.func22 (by kernel_rfl) rfl #[.string t125] rfl (by (try simp only [List.map_toArray, List.map_cons, List.map_nil]); first | done | rfl | (simp only [ne_nil_isEmpty]; rfl) | (simp only [List.length_drop, List.length_take]; rfl)) ?_; (with_reducible refine (impl_Unchunked.calls k2 t125 t126 t127 true _ A34.out).mono ?_); rintro e w53 ⟨rfl, hb⟩; refine ⟨_, rfl, ?_⟩; replace HO_3 := Aside0.mk (Kd.R_below (by (with_reducible repeat (first | apply Kd.R_alloc | apply Kd.R_drewN | apply Kd.R_drew)); exact HO_3.out) hb); replace HO124 := Aside0.mk (Kd.R_below (by (with_reducible repeat (first | apply Kd.R_alloc | apply Kd.R_drewN | apply Kd.R_drew)); exact HO124.out) hb); replace HB := Aside0.mk (below_step bh hb); (try clear hb); (try clear hb2); (try clear hk); (try clear hi)))
                 go_ret
                 exact ⟨by first | rfl | (simp [errW_none, errW_some] <;> rfl) | (simp only [← hji29]; first | rfl | (simp [errW_none, errW_some] <;> rfl)) | (simp [*, errW_none, errW_some] <;> rfl), bh⟩
                ·
                 replace c46 := Bool.eq_false_iff.mpr c46
                 subst c46
                 have H1 : (some false) = some r := by rw [if_neg (show ¬ (false = true) by decide)] at H; exact H
                 clear H
                 have H := H1
                 clear H1
                 obtain rfl := Option.some.inj H
                 go_wp2_with (first | ((with_reducible refine gate_callee (f := 22) rfl ?_); refine goesL_ (some 80) rfl rfl Tryd.func22 (by kernel_rfl) rfl #[.string (t105 ++ (⟨#[48, 120]⟩ : ByteArray))] rfl (by (try simp only [List.map_toArray, List.map_cons, List.map_nil]); first | done | rfl | (simp only [ne_nil_isEmpty]; rfl) | (simp only [List.length_drop, List.length_take]; rfl)) ?_; (with_reducible refine (impl_Unchunked.calls k2 (t105 ++ (⟨#[48, 120]⟩ : ByteArray)) t115 t116 true _ A27.out).mono ?_); rintro e w54 ⟨rfl, hb⟩; refine ⟨_, rfl, ?_⟩; replace HO_3 := Aside0.mk (Kd.R_below (by (with_reducible repeat (first | apply Kd.R_alloc | apply Kd.R_drewN | apply Kd.R_drew)); exact HO_3.out) hb); replace HB := Aside0.mk (below_step bh hb); (try clear hb); (try clear hb2); (try clear hk); (try clear hi)) | ((with_reducible refine gate_callee (f := 25) rfl ?_); refine goesL_ (some 92) rfl rfl Tryd.func25 (by kernel_rfl) rfl #[.slice A0 l0.length c0, .int .i64 1, .int .i64 (t105.size : Int)] rfl (by (try simp only [List.map_toArray, List.map_cons, List.map_nil]); first | done | rfl | (simp only [ne_nil_isEmpty]; rfl) | (simp only [List.length_drop, List.length_take]; rfl)) ?_; (with_reducible refine (laws_pick.calls k2 _ _ l0 1 (t105.size : Int) t118 _ ?side1 ?side2 A28.out).mono ?_); (case side1 => repeat (first | exact (Kd.C_below HR0.out HB.out) | (with_reducible refine Kd.C_alloc ?_ _) | (with_reducible refine Kd.C_drewN ?_ _) | (with_reducible refine Kd.C_drew ?_))); (case side2 => exact HC0.out); rintro e w' ⟨rfl, ⟨nd, rfl⟩⟩; refine ⟨_, rfl, ?_⟩) | ((with_reducible refine gate_callee (f := 22) rfl ?_); refine goesL_ (some 95) rfl rfl Tryd.func22 (by kernel_rfl) rfl #[.string (t105.extract 0 ((ji29) : Int).toNat)] rfl (by (try simp only [List.map_toArray, List.map_cons, List.map_nil]); first | done | (simp only [hji29]; rfl) | rfl | (simp only [List.length_drop, List.length_take]; rfl)) ?_; (with_reducible refine (impl_Unchunked.calls k2 (t105.extract 0 ((ji29) : Int).toNat) t119 t120 false _ A32.out).mono ?_); rintro e w55 ⟨rfl, hb⟩; refine ⟨_, rfl, ?_⟩; replace HO_3 := Aside0.mk (Kd.R_below (by (with_reducible repeat (first | apply Kd.R_alloc | apply Kd.R_drewN | apply Kd.R_drew)); exact HO_3.out) hb); replace HB := Aside0.mk (below_step bh hb); (try clear hb); (try clear hb2); (try clear hk); (try clear hi)) | ((with_reducible refine gate_dst (N := 100) rfl ?_); (try (refine gate_guard (by rfl) ?_; dsimp only)); refine Kd.R_lit Kd.string _ 9 ?hg (N := 100) ?hd (xs := ([x12_2] : List ByteArray)) (inner := [.string x12_2]) (ok := fun _ => True) (okp := fun _ => True) ?hr ?hp (fun _ hk => hk) trivial (Below.refl _ _) (Nat.le_refl _) (by simp) ?_; (case hd => rfl); (case hg => rfl); (case hr => first | (go_simp; done) | (go_simp; rfl)); (case hp => exact (Reps.one (show Kd.M Kd.string _ _ _ x12_2 [.string x12_2] from rfl) (Reps.none _ _))); intro v123 w56 ho57 hb hg_ hnew_; clear hg_ hnew_; (first | rw [← Ny122.out] at ho57 | (simp only [Int.reduceToNat] at ho57; rw [← Ny122.out] at ho57)); have HO124 := Aside0.mk (Kd.R_lower (Kd.R_new' ho57 (Kd.R_lt (by (with_reducible repeat (first | apply Kd.R_alloc | apply Kd.R_drewN | apply Kd.R_drew)); exact HO_3.out))) (below_size bh)); replace HO_3 := Aside0.mk (Kd.R_elder' (by (with_reducible repeat (first | apply Kd.R_alloc | apply Kd.R_drewN | apply Kd.R_drew)); exact HO_3.out) (Kd.R_base ho57) hb); replace HB := Aside0.mk (below_step bh hb); clear hb ho57; obtain ⟨Ao58, co58, eo58⟩ := Kd.R_slice HO124.out; subst eo58) | ((with_reducible refine gate_callee (f := 20) rfl ?_); refine goesL_ (some 101) rfl rfl Tryd.func20 (by kernel_rfl) rfl #[.slice Ao58 y122.length co58] rfl (by (try simp only [List.map_toArray, List.map_cons, List.map_nil]); first | done | rfl | (simp only [ne_nil_isEmpty]; rfl) | (simp only [List.length_drop, List.length_take]; rfl)) ?_; (with_reducible refine (impl_Chunked.calls _ _ y122 t125 _ ?side1 ?side2 ?side3 A33.out).mono ?_); (case side1 => exact XW.to (XW.stays hX bh) (by decide)); (case side2 => repeat (first | exact (Kd.R_reads' HO124.out).2.2 | (with_reducible refine Kd.C_alloc ?_ _) | (with_reducible refine Kd.C_drewN ?_ _) | (with_reducible refine Kd.C_drew ?_))); (case side3 => exact (Kd.R_reads' HO124.out).2.1); rintro e w59 ⟨rfl, hb⟩; refine ⟨_, rfl, ?_⟩; replace HO_3 := Aside0.mk (Kd.R_below (by (with_reducible repeat (first | apply Kd.R_alloc | apply Kd.R_drewN | apply Kd.R_drew)); exact HO_3.out) hb); replace HO124 := Aside0.mk (Kd.R_below (by (with_reducible repeat (first | apply Kd.R_alloc | apply Kd.R_drewN | apply Kd.R_drew)); exact HO124.out) hb); replace HB := Aside0.mk (below_step bh hb); (try clear hb); (try clear hb2); (try clear hk); (try clear hi)) | ((with_reducible refine gate_callee (f := 22) rfl ?_); refine goesL_ (some 104) rfl rfl Tryd.func22 (by kernel_rfl) rfl #[.string t125] rfl (by (try simp only [List.map_toArray, List.map_cons, List.map_nil]); first | done | rfl | (simp only [ne_nil_isEmpty]; rfl) | (simp only [List.length_drop, List.length_take]; rfl)) ?_; (with_reducible refine (impl_Unchunked.calls k2 t125 t126 t127 false _ A34.out).mono ?_); rintro e w60 ⟨rfl, hb⟩; refine ⟨_, rfl, ?_⟩; replace HO_3 := Aside0.mk (Kd.R_below (by (with_reducible repeat (first | apply Kd.R_alloc | apply Kd.R_drewN | apply Kd.R_drew)); exact HO_3.out) hb); replace HO124 := Aside0.mk (Kd.R_below (by (with_reducible repeat (first | apply Kd.R_alloc | apply Kd.R_drewN | apply Kd.R_drew)); exact HO124.out) hb); replace HB := Aside0.mk (below_step bh hb); (try clear hb); (try clear hb2); (try clear hk); (try clear hi)))
                 go_ret
                 exact ⟨by first | rfl | (simp [errW_none, errW_some] <;> rfl) | (simp only [← hji29]; first | rfl | (simp [errW_none, errW_some] <;> rfl)) | (simp [*, errW_none, errW_some] <;> rfl), bh⟩
              ·
               rw [if_neg c37] at H
               have c37b0 : (t116 == (t105.size : Int)) = false := beq_eq_false_iff_ne.mpr c37
               have c37b1 : (t116 != (t105.size : Int)) = true := bne_iff_ne.mpr c37
               obtain rfl := Option.some.inj H
               go_wp2_with (first | ((with_reducible refine gate_callee (f := 22) rfl ?_); refine goesL_ (some 80) rfl rfl Tryd.func22 (by kernel_rfl) rfl #[.string (t105 ++ (⟨#[48, 120]⟩ : ByteArray))] rfl (by (try simp only [List.map_toArray, List.map_cons, List.map_nil]); first | done | rfl | (simp only [ne_nil_isEmpty]; rfl) | (simp only [List.length_drop, List.length_take]; rfl)) ?_; (with_reducible refine (impl_Unchunked.calls k2 (t105 ++ (⟨#[48, 120]⟩ : ByteArray)) t115 t116 true _ A27.out).mono ?_); rintro e w61 ⟨rfl, hb⟩; refine ⟨_, rfl, ?_⟩; replace HO_3 := Aside0.mk (Kd.R_below (by (with_reducible repeat (first | apply Kd.R_alloc | apply Kd.R_drewN | apply Kd.R_drew)); exact HO_3.out) hb); replace HB := Aside0.mk (below_step bh hb); (try clear hb); (try clear hb2); (try clear hk); (try clear hi)) | ((with_reducible refine gate_callee (f := 25) rfl ?_); refine goesL_ (some 92) rfl rfl Tryd.func25 (by kernel_rfl) rfl #[.slice A0 l0.length c0, .int .i64 1, .int .i64 (t105.size : Int)] rfl (by (try simp only [List.map_toArray, List.map_cons, List.map_nil]); first | done | rfl | (simp only [ne_nil_isEmpty]; rfl) | (simp only [List.length_drop, List.length_take]; rfl)) ?_; (with_reducible refine (laws_pick.calls k2 _ _ l0 1 (t105.size : Int) t118 _ ?side1 ?side2 A28.out).mono ?_); (case side1 => repeat (first | exact (Kd.C_below HR0.out HB.out) | (with_reducible refine Kd.C_alloc ?_ _) | (with_reducible refine Kd.C_drewN ?_ _) | (with_reducible refine Kd.C_drew ?_))); (case side2 => exact HC0.out); rintro e w' ⟨rfl, ⟨nd, rfl⟩⟩; refine ⟨_, rfl, ?_⟩) | ((with_reducible refine gate_callee (f := 22) rfl ?_); refine goesL_ (some 95) rfl rfl Tryd.func22 (by kernel_rfl) rfl #[.string (t105.extract 0 ((ji29) : Int).toNat)] rfl (by (try simp only [List.map_toArray, List.map_cons, List.map_nil]); first | done | (simp only [hji29]; rfl) | rfl | (simp only [List.length_drop, List.length_take]; rfl)) ?_; (with_reducible refine (impl_Unchunked.calls k2 (t105.extract 0 ((ji29) : Int).toNat) t119 t120 t121 _ A32.out).mono ?_); rintro e w62 ⟨rfl, hb⟩; refine ⟨_, rfl, ?_⟩; replace HO_3 := Aside0.mk (Kd.R_below (by (with_reducible repeat (first | apply Kd.R_alloc | apply Kd.R_drewN | apply Kd.R_drew)); exact HO_3.out) hb); replace HB := Aside0.mk (below_step bh hb); (try clear hb); (try clear hb2); (try clear hk); (try clear hi)) | ((with_reducible refine gate_dst (N := 100) rfl ?_); (try (refine gate_guard (by rfl) ?_; dsimp only)); refine Kd.R_lit Kd.string _ 9 ?hg (N := 100) ?hd (xs := ([x12_2] : List ByteArray)) (inner := [.string x12_2]) (ok := fun _ => True) (okp := fun _ => True) ?hr ?hp (fun _ hk => hk) trivial (Below.refl _ _) (Nat.le_refl _) (by simp) ?_; (case hd => rfl); (case hg => rfl); (case hr => first | (go_simp; done) | (go_simp; rfl)); (case hp => exact (Reps.one (show Kd.M Kd.string _ _ _ x12_2 [.string x12_2] from rfl) (Reps.none _ _))); intro v123 w63 ho64 hb hg_ hnew_; clear hg_ hnew_; (first | rw [← Ny122.out] at ho64 | (simp only [Int.reduceToNat] at ho64; rw [← Ny122.out] at ho64)); have HO124 := Aside0.mk (Kd.R_lower (Kd.R_new' ho64 (Kd.R_lt (by (with_reducible repeat (first | apply Kd.R_alloc | apply Kd.R_drewN | apply Kd.R_drew)); exact HO_3.out))) (below_size bh)); replace HO_3 := Aside0.mk (Kd.R_elder' (by (with_reducible repeat (first | apply Kd.R_alloc | apply Kd.R_drewN | apply Kd.R_drew)); exact HO_3.out) (Kd.R_base ho64) hb); replace HB := Aside0.mk (below_step bh hb); clear hb ho64; obtain ⟨Ao65, co65, eo65⟩ := Kd.R_slice HO124.out; subst eo65) | ((with_reducible refine gate_callee (f := 20) rfl ?_); refine goesL_ (some 101) rfl rfl Tryd.func20 (by kernel_rfl) rfl #[.slice Ao65 y122.length co65] rfl (by (try simp only [List.map_toArray, List.map_cons, List.map_nil]); first | done | rfl | (simp only [ne_nil_isEmpty]; rfl) | (simp only [List.length_drop, List.length_take]; rfl)) ?_; (with_reducible refine (impl_Chunked.calls _ _ y122 t125 _ ?side1 ?side2 ?side3 A33.out).mono ?_); (case side1 => exact XW.to (XW.stays hX bh) (by decide)); (case side2 => repeat (first | exact (Kd.R_reads' HO124.out).2.2 | (with_reducible refine Kd.C_alloc ?_ _) | (with_reducible refine Kd.C_drewN ?_ _) | (with_reducible refine Kd.C_drew ?_))); (case side3 => exact (Kd.R_reads' HO124.out).2.1); rintro e w66 ⟨rfl, hb⟩; refine ⟨_, rfl, ?_⟩; replace HO_3 := Aside0.mk (Kd.R_below (by (with_reducible repeat (first | apply Kd.R_alloc | apply Kd.R_drewN | apply Kd.R_drew)); exact HO_3.out) hb); replace HO124 := Aside0.mk (Kd.R_below (by (with_reducible repeat (first | apply Kd.R_alloc | apply Kd.R_drewN | apply Kd.R_drew)); exact HO124.out) hb); replace HB := Aside0.mk (below_step bh hb); (try clear hb); (try clear hb2); (try clear hk); (try clear hi)) | ((with_reducible refine gate_callee (f := 22) rfl ?_); refine goesL_ (some 104) rfl rfl Tryd.func22 (by kernel_rfl) rfl #[.string t125] rfl (by (try simp only [List.map_toArray, List.map_cons, List.map_nil]); first | done | rfl | (simp only [ne_nil_isEmpty]; rfl) | (simp only [List.length_drop, List.length_take]; rfl)) ?_; (with_reducible refine (impl_Unchunked.calls k2 t125 t126 t127 t128 _ A34.out).mono ?_); rintro e w67 ⟨rfl, hb⟩; refine ⟨_, rfl, ?_⟩; replace HO_3 := Aside0.mk (Kd.R_below (by (with_reducible repeat (first | apply Kd.R_alloc | apply Kd.R_drewN | apply Kd.R_drew)); exact HO_3.out) hb); replace HO124 := Aside0.mk (Kd.R_below (by (with_reducible repeat (first | apply Kd.R_alloc | apply Kd.R_drewN | apply Kd.R_drew)); exact HO124.out) hb); replace HB := Aside0.mk (below_step bh hb); (try clear hb); (try clear hb2); (try clear hk); (try clear hi)))
               go_ret
               exact ⟨by first | rfl | (simp [errW_none, errW_some] <;> rfl) | (simp only [← hji29]; first | rfl | (simp [errW_none, errW_some] <;> rfl)) | (simp [*, errW_none, errW_some] <;> rfl), bh⟩
             ·
              rw [if_neg c36] at H
              have c36b0 : (t115.toList == x12_2.toList) = false := beq_eq_false_iff_ne.mpr c36
              have c36b1 : (t115.toList != x12_2.toList) = true := bne_iff_ne.mpr c36
              obtain rfl := Option.some.inj H
              go_wp2_with (first | ((with_reducible refine gate_callee (f := 22) rfl ?_); refine goesL_ (some 80) rfl rfl Tryd.func22 (by kernel_rfl) rfl #[.string (t105 ++ (⟨#[48, 120]⟩ : ByteArray))] rfl (by (try simp only [List.map_toArray, List.map_cons, List.map_nil]); first | done | rfl | (simp only [ne_nil_isEmpty]; rfl) | (simp only [List.length_drop, List.length_take]; rfl)) ?_; (with_reducible refine (impl_Unchunked.calls k2 (t105 ++ (⟨#[48, 120]⟩ : ByteArray)) t115 t116 true _ A27.out).mono ?_); rintro e w68 ⟨rfl, hb⟩; refine ⟨_, rfl, ?_⟩; replace HO_3 := Aside0.mk (Kd.R_below (by (with_reducible repeat (first | apply Kd.R_alloc | apply Kd.R_drewN | apply Kd.R_drew)); exact HO_3.out) hb); replace HB := Aside0.mk (below_step bh hb); (try clear hb); (try clear hb2); (try clear hk); (try clear hi)) | ((with_reducible refine gate_callee (f := 25) rfl ?_); refine goesL_ (some 92) rfl rfl Tryd.func25 (by kernel_rfl) rfl #[.slice A0 l0.length c0, .int .i64 1, .int .i64 (t105.size : Int)] rfl (by (try simp only [List.map_toArray, List.map_cons, List.map_nil]); first | done | rfl | (simp only [ne_nil_isEmpty]; rfl) | (simp only [List.length_drop, List.length_take]; rfl)) ?_; (with_reducible refine (laws_pick.calls k2 _ _ l0 1 (t105.size : Int) t118 _ ?side1 ?side2 A28.out).mono ?_); (case side1 => repeat (first | exact (Kd.C_below HR0.out HB.out) | (with_reducible refine Kd.C_alloc ?_ _) | (with_reducible refine Kd.C_drewN ?_ _) | (with_reducible refine Kd.C_drew ?_))); (case side2 => exact HC0.out); rintro e w' ⟨rfl, ⟨nd, rfl⟩⟩; refine ⟨_, rfl, ?_⟩) | ((with_reducible refine gate_callee (f := 22) rfl ?_); refine goesL_ (some 95) rfl rfl Tryd.func22 (by kernel_rfl) rfl #[.string (t105.extract 0 ((ji29) : Int).toNat)] rfl (by (try simp only [List.map_toArray, List.map_cons, List.map_nil]); first | done | (simp only [hji29]; rfl) | rfl | (simp only [List.length_drop, List.length_take]; rfl)) ?_; (with_reducible refine (impl_Unchunked.calls k2 (t105.extract 0 ((ji29) : Int).toNat) t119 t120 t121 _ A32.out).mono ?_); rintro e w69 ⟨rfl, hb⟩; refine ⟨_, rfl, ?_⟩; replace HO_3 := Aside0.mk (Kd.R_below (by (with_reducible repeat (first | apply Kd.R_alloc | apply Kd.R_drewN | apply Kd.R_drew)); exact HO_3.out) hb); replace HB := Aside0.mk (below_step bh hb); (try clear hb); (try clear hb2); (try clear hk); (try clear hi)) | ((with_reducible refine gate_dst (N := 100) rfl ?_); (try (refine gate_guard (by rfl) ?_; dsimp only)); refine Kd.R_lit Kd.string _ 9 ?hg (N := 100) ?hd (xs := ([x12_2] : List ByteArray)) (inner := [.string x12_2]) (ok := fun _ => True) (okp := fun _ => True) ?hr ?hp (fun _ hk => hk) trivial (Below.refl _ _) (Nat.le_refl _) (by simp) ?_; (case hd => rfl); (case hg => rfl); (case hr => first | (go_simp; done) | (go_simp; rfl)); (case hp => exact (Reps.one (show Kd.M Kd.string _ _ _ x12_2 [.string x12_2] from rfl) (Reps.none _ _))); intro v123 w70 ho71 hb hg_ hnew_; clear hg_ hnew_; (first | rw [← Ny122.out] at ho71 | (simp only [Int.reduceToNat] at ho71; rw [← Ny122.out] at ho71)); have HO124 := Aside0.mk (Kd.R_lower (Kd.R_new' ho71 (Kd.R_lt (by (with_reducible repeat (first | apply Kd.R_alloc | apply Kd.R_drewN | apply Kd.R_drew)); exact HO_3.out))) (below_size bh)); replace HO_3 := Aside0.mk (Kd.R_elder' (by (with_reducible repeat (first | apply Kd.R_alloc | apply Kd.R_drewN | apply Kd.R_drew)); exact HO_3.out) (Kd.R_base ho71) hb); replace HB := Aside0.mk (below_step bh hb); clear hb ho71; obtain ⟨Ao72, co72, eo72⟩ := Kd.R_slice HO124.out; subst eo72) | ((with_reducible refine gate_callee (f := 20) rfl ?_); refine goesL_ (some 101) rfl rfl Tryd.func20 (by kernel_rfl) rfl #[.slice Ao72 y122.length co72] rfl (by (try simp only [List.map_toArray, List.map_cons, List.map_nil]); first | done | rfl | (simp only [ne_nil_isEmpty]; rfl) | (simp only [List.length_drop, List.length_take]; rfl)) ?_; (with_reducible refine (impl_Chunked.calls _ _ y122 t125 _ ?side1 ?side2 ?side3 A33.out).mono ?_); (case side1 => exact XW.to (XW.stays hX bh) (by decide)); (case side2 => repeat (first | exact (Kd.R_reads' HO124.out).2.2 | (with_reducible refine Kd.C_alloc ?_ _) | (with_reducible refine Kd.C_drewN ?_ _) | (with_reducible refine Kd.C_drew ?_))); (case side3 => exact (Kd.R_reads' HO124.out).2.1); rintro e w73 ⟨rfl, hb⟩; refine ⟨_, rfl, ?_⟩; replace HO_3 := Aside0.mk (Kd.R_below (by (with_reducible repeat (first | apply Kd.R_alloc | apply Kd.R_drewN | apply Kd.R_drew)); exact HO_3.out) hb); replace HO124 := Aside0.mk (Kd.R_below (by (with_reducible repeat (first | apply Kd.R_alloc | apply Kd.R_drewN | apply Kd.R_drew)); exact HO124.out) hb); replace HB := Aside0.mk (below_step bh hb); (try clear hb); (try clear hb2); (try clear hk); (try clear hi)) | ((with_reducible refine gate_callee (f := 22) rfl ?_); refine goesL_ (some 104) rfl rfl Tryd.func22 (by kernel_rfl) rfl #[.string t125] rfl (by (try simp only [List.map_toArray, List.map_cons, List.map_nil]); first | done | rfl | (simp only [ne_nil_isEmpty]; rfl) | (simp only [List.length_drop, List.length_take]; rfl)) ?_; (with_reducible refine (impl_Unchunked.calls k2 t125 t126 t127 t128 _ A34.out).mono ?_); rintro e w74 ⟨rfl, hb⟩; refine ⟨_, rfl, ?_⟩; replace HO_3 := Aside0.mk (Kd.R_below (by (with_reducible repeat (first | apply Kd.R_alloc | apply Kd.R_drewN | apply Kd.R_drew)); exact HO_3.out) hb); replace HO124 := Aside0.mk (Kd.R_below (by (with_reducible repeat (first | apply Kd.R_alloc | apply Kd.R_drewN | apply Kd.R_drew)); exact HO124.out) hb); replace HB := Aside0.mk (below_step bh hb); (try clear hb); (try clear hb2); (try clear hk); (try clear hi)))
              go_ret
              exact ⟨by first | rfl | (simp [errW_none, errW_some] <;> rfl) | (simp only [← hji29]; first | rfl | (simp [errW_none, errW_some] <;> rfl)) | (simp [*, errW_none, errW_some] <;> rfl), bh⟩
            ·
             replace c35 := Bool.eq_false_iff.mpr c35
             subst c35
             have H1 : (some false) = some r := by rw [if_neg (show ¬ (false = true) by decide)] at H; exact H
             clear H
             have H := H1
             clear H1
             obtain rfl := Option.some.inj H
             go_wp2_with (first | ((with_reducible refine gate_callee (f := 22) rfl ?_); refine goesL_ (some 80) rfl rfl Tryd.func22 (by kernel_rfl) rfl #[.string (t105 ++ (⟨#[48, 120]⟩ : ByteArray))] rfl (by (try simp only [List.map_toArray, List.map_cons, List.map_nil]); first | done | rfl | (simp only [ne_nil_isEmpty]; rfl) | (simp only [List.length_drop, List.length_take]; rfl)) ?_; (with_reducible refine (impl_Unchunked.calls k2 (t105 ++ (⟨#[48, 120]⟩ : ByteArray)) t115 t116 false _ A27.out).mono ?_); rintro e w75 ⟨rfl, hb⟩; refine ⟨_, rfl, ?_⟩; replace HO_3 := Aside0.mk (Kd.R_below (by (with_reducible repeat (first | apply Kd.R_alloc | apply Kd.R_drewN | apply Kd.R_drew)); exact HO_3.out) hb); replace HB := Aside0.mk (below_step bh hb); (try clear hb); (try clear hb2); (try clear hk); (try clear hi)) | ((with_reducible refine gate_callee (f := 25) rfl ?_); refine goesL_ (some 92) rfl rfl Tryd.func25 (by kernel_rfl) rfl #[.slice A0 l0.length c0, .int .i64 1, .int .i64 (t105.size : Int)] rfl (by (try simp only [List.map_toArray, List.map_cons, List.map_nil]); first | done | rfl | (simp only [ne_nil_isEmpty]; rfl) | (simp only [List.length_drop, List.length_take]; rfl)) ?_; (with_reducible refine (laws_pick.calls k2 _ _ l0 1 (t105.size : Int) t118 _ ?side1 ?side2 A28.out).mono ?_); (case side1 => repeat (first | exact (Kd.C_below HR0.out HB.out) | (with_reducible refine Kd.C_alloc ?_ _) | (with_reducible refine Kd.C_drewN ?_ _) | (with_reducible refine Kd.C_drew ?_))); (case side2 => exact HC0.out); rintro e w' ⟨rfl, ⟨nd, rfl⟩⟩; refine ⟨_, rfl, ?_⟩) | ((with_reducible refine gate_callee (f := 22) rfl ?_); refine goesL_ (some 95) rfl rfl Tryd.func22 (by kernel_rfl) rfl #[.string (t105.extract 0 ((ji29) : Int).toNat)] rfl (by (try simp only [List.map_toArray, List.map_cons, List.map_nil]); first | done | (simp only [hji29]; rfl) | rfl | (simp only [List.length_drop, List.length_take]; rfl)) ?_; (with_reducible refine (impl_Unchunked.calls k2 (t105.extract 0 ((ji29) : Int).toNat) t119 t120 t121 _ A32.out).mono ?_); rintro e w76 ⟨rfl, hb⟩; refine ⟨_, rfl, ?_⟩; replace HO_3 := Aside0.mk (Kd.R_below (by (with_reducible repeat (first | apply Kd.R_alloc | apply Kd.R_drewN | apply Kd.R_drew)); exact HO_3.out) hb); replace HB := Aside0.mk (below_step bh hb); (try clear hb); (try clear hb2); (try clear hk); (try clear hi)) | ((with_reducible refine gate_dst (N := 100) rfl ?_); (try (refine gate_guard (by rfl) ?_; dsimp only)); refine Kd.R_lit Kd.string _ 9 ?hg (N := 100) ?hd (xs := ([x12_2] : List ByteArray)) (inner := [.string x12_2]) (ok := fun _ => True) (okp := fun _ => True) ?hr ?hp (fun _ hk => hk) trivial (Below.refl _ _) (Nat.le_refl _) (by simp) ?_; (case hd => rfl); (case hg => rfl); (case hr => first | (go_simp; done) | (go_simp; rfl)); (case hp => exact (Reps.one (show Kd.M Kd.string _ _ _ x12_2 [.string x12_2] from rfl) (Reps.none _ _))); intro v123 w77 ho78 hb hg_ hnew_; clear hg_ hnew_; (first | rw [← Ny122.out] at ho78 | (simp only [Int.reduceToNat] at ho78; rw [← Ny122.out] at ho78)); have HO124 := Aside0.mk (Kd.R_lower (Kd.R_new' ho78 (Kd.R_lt (by (with_reducible repeat (first | apply Kd.R_alloc | apply Kd.R_drewN | apply Kd.R_drew)); exact HO_3.out))) (below_size bh)); replace HO_3 := Aside0.mk (Kd.R_elder' (by (with_reducible repeat (first | apply Kd.R_alloc | apply Kd.R_drewN | apply Kd.R_drew)); exact HO_3.out) (Kd.R_base ho78) hb); replace HB := Aside0.mk (below_step bh hb); clear hb ho78; obtain ⟨Ao79, co79, eo79⟩ := Kd.R_slice HO124.out; subst eo79) | ((with_reducible refine gate_callee (f := 20) rfl ?_); refine goesL_ (some 101) rfl rfl Tryd.func20 (by kernel_rfl) rfl #[.slice Ao79 y122.length co79] rfl (by (try simp only [List.map_toArray, List.map_cons, List.map_nil]); first | done | rfl | (simp only [ne_nil_isEmpty]; rfl) | (simp only [List.length_drop, List.length_take]; rfl)) ?_; (with_reducible refine (impl_Chunked.calls _ _ y122 t125 _ ?side1 ?side2 ?side3 A33.out).mono ?_); (case side1 => exact XW.to (XW.stays hX bh) (by decide)); (case side2 => repeat (first | exact (Kd.R_reads' HO124.out).2.2 | (with_reducible refine Kd.C_alloc ?_ _) | (with_reducible refine Kd.C_drewN ?_ _) | (with_reducible refine Kd.C_drew ?_))); (case side3 => exact (Kd.R_reads' HO124.out).2.1); rintro e w80 ⟨rfl, hb⟩; refine ⟨_, rfl, ?_⟩; replace HO_3 := Aside0.mk (Kd.R_below (by (with_reducible repeat (first | apply Kd.R_alloc | apply Kd.R_drewN | apply Kd.R_drew)); exact HO_3.out) hb); replace HO124 := Aside0.mk (Kd.R_below (by (with_reducible repeat (first | apply Kd.R_alloc | apply Kd.R_drewN | apply Kd.R_drew)); exact HO124.out) hb); replace HB := Aside0.mk (below_step bh hb); (try clear hb); (try clear hb2); (try clear hk); (try clear hi)) | ((with_reducible refine gate_callee (f := 22) rfl ?_); refine goesL_ (some 104) rfl rfl Tryd.func22 (by kernel_rfl) rfl #[.string t125] rfl (by (try simp only [List.map_toArray, List.map_cons, List.map_nil]); first | done | rfl | (simp only [ne_nil_isEmpty]; rfl) | (simp only [List.length_drop, List.length_take]; rfl)) ?_; (with_reducible refine (impl_Unchunked.calls k2 t125 t126 t127 t128 _ A34.out).mono ?_); rintro e w81 ⟨rfl, hb⟩; refine ⟨_, rfl, ?_⟩; replace HO_3 := Aside0.mk (Kd.R_below (by (with_reducible repeat (first | apply Kd.R_alloc | apply Kd.R_drewN | apply Kd.R_drew)); exact HO_3.out) hb); replace HO124 := Aside0.mk (Kd.R_below (by (with_reducible repeat (first | apply Kd.R_alloc | apply Kd.R_drewN | apply Kd.R_drew)); exact HO124.out) hb); replace HB := Aside0.mk (below_step bh hb); (try clear hb); (try clear hb2); (try clear hk); (try clear hi)))
             go_ret
             exact ⟨by first | rfl | (simp [errW_none, errW_some] <;> rfl) | (simp only [← hji29]; first | rfl | (simp [errW_none, errW_some] <;> rfl)) | (simp [*, errW_none, errW_some] <;> rfl), bh⟩
           ·
            rw [if_neg c31] at H
            exact absurd H (by simp)
          ·
           rw [if_neg c30] at H
           exact absurd H (by simp)
         ·
          rw [if_neg c26] at H
          exact absurd H (by simp)

/-- THE ONE PURE STATEMENT of laws_FnChunked: yours. -/
def laws_FnChunked.Pure : Prop := ∀ (l0 : List Int), l0.length ≤ maxLen → l0.length * 1 ≤ 140737488351232 → (∀ x ∈ l0, (Lit.int .u8 x).wf = true) → ∃ k, laws_FnChunked.f k l0 = some true
theorem laws_FnChunked.walk (P : laws_FnChunked.Pure) (a0 : Option Addr) (len0 cap0 : Nat) (z0 : List Int) (w : World) (hX : XW 6 w) (w0 : (a0 = none ∧ len0 = 0 ∧ cap0 = 0 ∧ z0 = []) ∨ ∃ x, a0 = some x ∧ len0 ≤ cap0 ∧ cap0 ≤ maxLen ∧ z0.length = cap0 ∧ (∀ i, i < z0.length → w.cell? (x.add i) = some (.int .u8 (z0.getD i 0))) ∧ ∀ n ∈ z0, (Lit.int .u8 n).wf = true) (y0 : len0 * 1 ≤ 140737488351232) :
  Calls Tryd.prog 4 #[.slice a0 len0 cap0] w fun e w' => e = .returned (.bool true) ∧ Below w.heap.size w w' := by
 obtain ⟨l0, rfl, hr0, hm0, hw0, hc0⟩ := ReadsInt.ofRowC w0
 obtain ⟨k, h⟩ := P l0 hm0 y0 hw0
 refine (laws_FnChunked.calls k _ _ l0 true w hX (Kd.C_of_reads (d := (0 : Int)) (h1 := fun _ => rfl) hr0) hc0 h).mono ?_
 rintro e w' ⟨rfl, hd⟩
 exact ⟨rfl, hd⟩
end Go.Proofs.YtfbgpjhnjdhpcaaDoor.P
namespace Go.Proofs.YtfbgpjhnjdhpcaaDoor.Q
open Go.RowKit Go.Proofs.YtfbgpjhnjdhpcaaDoorW.PrintWords Go.Proofs.YtfbgpjhnjdhpcaaDoorW.PrintLast Go.Proofs.YtfbgpjhnjdhpcaaDoorW.PrintMore

theorem wrap_in {i : Int} (h0 : -9223372036854775808 ≤ i) (h1 : i ≤ 9223372036854775807) : wrap64 i = i := by unfold wrap64; omega
theorem wrap_next {i : Nat} {n : Nat} (h : i < n) (hn : n ≤ 4611686018427387904) : wrap64 ((i : Int) + 1) = ((i + 1 : Nat) : Int) := by unfold wrap64; omega

theorem toList_data (s : ByteArray) : s.toList = s.data.toList := ByteArray.toList_eq s
theorem eq_of_toList {a b : ByteArray} (h : a.toList = b.toList) : a = b := by
  rw [toList_data, toList_data] at h
  exact ByteArray.ext (Array.toList_inj.1 h)
theorem bt_get (s : ByteArray) (i : Nat) (h : i < s.size) : (bytesOf s)[i]? = some (bt s i) := by
  rw [← rd_bytesOf]
  have h1 : i < (bytesOf s).length := by rw [bytesOf_length]; exact h
  simp [rd, List.getD_eq_getElem?_getD, List.getElem?_eq_getElem h1]
theorem drop_bt (s : ByteArray) (i : Nat) (h : i < s.size) : (bytesOf s).drop i = bt s i :: (bytesOf s).drop (i + 1) := by
  have h1 : i < (bytesOf s).length := by rw [bytesOf_length]; exact h
  rw [List.drop_eq_getElem_cons h1]
  have := bt_get s i h
  rw [List.getElem?_eq_getElem h1] at this
  rw [Option.some.inj this]
theorem mem_bytes {s : ByteArray} {c : Int} (h : c ∈ bytesOf s) : 0 ≤ c ∧ c ≤ 255 := by
  unfold bytesOf at h
  obtain ⟨b, _, rfl⟩ := List.mem_map.1 h
  have := b.toNat_lt
  omega
theorem bytes_nums (l : List Int) (h : ∀ c ∈ l, 0 ≤ c ∧ c ≤ 255) : bytesOf (strOfNums l) = l := by
  unfold bytesOf
  rw [strOfNums_data, List.map_map]
  refine (List.map_congr_left fun c hc => ?_).trans (List.map_id l)
  have := h c hc
  simp only [Function.comp, UInt8.toNat_ofNat', id]
  omega
theorem nums_bytes (s : ByteArray) : strOfNums (bytesOf s) = s := by
  apply ByteArray.ext
  apply Array.toList_inj.1
  rw [strOfNums_data]
  unfold bytesOf
  rw [List.map_map]
  refine (List.map_congr_left fun c hc => ?_).trans (List.map_id _)
  simp
theorem bytes_inj {a b : ByteArray} (h : bytesOf a = bytesOf b) : a = b := by rw [← nums_bytes a, ← nums_bytes b, h]
theorem bytes_append (a b : ByteArray) : bytesOf (a ++ b) = bytesOf a ++ bytesOf b := by
  unfold bytesOf
  rw [← List.map_append]
  simp [ByteArray.data_append]

/-- A loop over bytes: what a round does with its state and a byte; an end ahead of time. -/
def runL {σ β : Type} (f : σ → Int → σ ⊕ β) (fin : σ → β) : List Int → σ → β
  | [], st => fin st
  | c :: cs, st => match f st c with
    | .inl st' => runL f fin cs st'
    | .inr b => b
/-- The printed loop comes to what 'runL' comes to, from some number of rounds on. -/
theorem ev_run {σ β : Type} (s : ByteArray) (I : σ → Nat → Prop) (f : σ → Int → σ ⊕ β) (fin : σ → β) (g : Nat → σ → Int → Option β) (K : Nat)
    (hstep : ∀ k st (i : Nat), K ≤ k → i < s.size → I st i → (∀ st', f st (bt s i) = .inl st' → g (k + 1) st i = g k st' ((i + 1 : Nat) : Int) ∧ I st' (i + 1)) ∧ (∀ b, f st (bt s i) = .inr b → g (k + 1) st i = some b))
    (hend : ∀ k st, K ≤ k → I st s.size → g (k + 1) st (s.size : Int) = some (fin st)) (st : σ) (h0 : I st 0) :
    Ev (fun k => g k st 0) (runL f fin (bytesOf s) st) := by
  have key : ∀ (d i : Nat) (st : σ), i + d = s.size → I st i → ∀ k, K + d < k → g k st (i : Int) = some (runL f fin ((bytesOf s).drop i) st) := by
    intro d
    induction d with
    | zero =>
      intro i st hd hI k hk
      obtain ⟨k, rfl⟩ : ∃ m, k = m + 1 := ⟨k - 1, by omega⟩
      have e : i = s.size := by omega
      subst e
      rw [hend k st (by omega) hI, List.drop_of_length_le (by rw [bytesOf_length]; exact Nat.le_refl _)]
      rfl
    | succ d ih =>
      intro i st hd hI k hk
      obtain ⟨k, rfl⟩ : ∃ m, k = m + 1 := ⟨k - 1, by omega⟩
      obtain ⟨h1, h2⟩ := hstep k st i (by omega) (by omega) hI
      rw [drop_bt s i (by omega)]
      show g (k + 1) st i = some (match f st (bt s i) with | .inl st' => runL f fin ((bytesOf s).drop (i + 1)) st' | .inr b => b)
      cases hf : f st (bt s i) with
      | inl st' =>
        obtain ⟨e, hI'⟩ := h1 st' hf
        rw [e]
        exact ih (i + 1) st' (by omega) hI' k (by omega)
      | inr b => exact h2 b hf
  refine ⟨K + s.size + 1, fun k hk => ?_⟩
  have := key s.size 0 st (by omega) h0 k (by omega)
  rw [List.drop_zero] at this
  exact this

/-- A loop that asks each byte. -/
theorem ev_all (s : ByteArray) (p : Int → Bool) (g : Nat → Int → Option Bool) (K : Nat)
    (h1 : ∀ k (i : Nat), K ≤ k → i < s.size → p (bt s i) = true → g (k + 1) i = g k ((i + 1 : Nat) : Int))
    (h0 : ∀ k (i : Nat), K ≤ k → i < s.size → p (bt s i) = false → g (k + 1) i = some false)
    (he : ∀ k, K ≤ k → g (k + 1) (s.size : Int) = some true) : Ev (fun k => g k 0) ((bytesOf s).all p) := by
  have h := ev_run (σ := Unit) (β := Bool) s (fun _ _ => True) (fun _ c => if p c = true then .inl () else .inr false) (fun _ => true) (fun k _ i => g k i) K
    (fun k st i hk hi _ => ⟨fun st' e => ⟨h1 k i hk hi (by
        by_cases hp : p (bt s i) = true
        · exact hp
        · rw [if_neg hp] at e; cases e), trivial⟩, fun b e => by
        by_cases hp : p (bt s i) = true
        · rw [if_pos hp] at e; cases e
        · rw [if_neg hp] at e
          obtain rfl : false = b := by injection e
          exact h0 k i hk hi (by simpa using hp)⟩)
    (fun k st hk _ => he k hk) () trivial
  have e : ∀ l : List Int, runL (σ := Unit) (β := Bool) (fun _ c => if p c = true then .inl () else .inr false) (fun _ => true) l () = l.all p := by
    intro l
    induction l with
    | nil => rfl
    | cons c cs ih =>
      rw [List.all_cons]
      unfold runL
      by_cases hp : p c = true
      · simp only [hp, if_true, Bool.true_and]; exact ih
      · simp only [(by simpa using hp : p c = false), Bool.false_and, Bool.false_eq_true, if_false]
  rw [e] at h
  exact h
theorem runL_all {β : Type} (p : Int → Bool) (r b : β) (l : List Int) : runL (σ := Unit) (fun _ c => if p c = true then .inl () else .inr b) (fun _ => r) l () = if l.all p = true then r else b := by
  induction l with
  | nil => rfl
  | cons c cs ih =>
    rw [List.all_cons]
    unfold runL
    by_cases hp : p c = true
    · simp only [hp, if_true, Bool.true_and]; exact ih
    · simp only [(by simpa using hp : p c = false), Bool.false_and, Bool.false_eq_true, if_false]
/-- A loop that asks each byte, and goes on behind it. -/
theorem ev_allr {β : Type} (s : ByteArray) (p : Int → Bool) (r b : β) (g : Nat → Int → Option β) (K : Nat)
    (h1 : ∀ k (i : Nat), K ≤ k → i < s.size → p (bt s i) = true → g (k + 1) i = g k ((i + 1 : Nat) : Int))
    (h0 : ∀ k (i : Nat), K ≤ k → i < s.size → p (bt s i) = false → g (k + 1) i = some b)
    (he : ∀ k, K ≤ k → g (k + 1) (s.size : Int) = some r) : Ev (fun k => g k 0) (if (bytesOf s).all p = true then r else b) := by
  rw [← runL_all p r b (bytesOf s)]
  refine ev_run (σ := Unit) s (fun _ _ => True) (fun _ c => if p c = true then .inl () else .inr b) (fun _ => r) (fun k _ i => g k i) K
    (fun k st i hk hi _ => ⟨fun st' e => ⟨h1 k i hk hi (by
        by_cases hp : p (bt s i) = true
        · exact hp
        · rw [if_neg hp] at e; cases e), trivial⟩, fun b' e => by
        by_cases hp : p (bt s i) = true
        · rw [if_pos hp] at e; cases e
        · rw [if_neg hp] at e
          obtain rfl : b = b' := by injection e
          exact h0 k i hk hi (by simpa using hp)⟩)
    (fun k st hk _ => he k hk) () trivial
/-- A loop that puts something behind a list for each byte. -/
theorem runL_flat {β : Type} (f : Int → List Int) (fin : List Int → β) (l st : List Int) : runL (fun st c => .inl (st ++ f c)) fin l st = fin (st ++ l.flatMap f) := by
  induction l generalizing st with
  | nil => simp [runL]
  | cons c cs ih =>
    unfold runL
    simp only [ih, List.flatMap_cons, List.append_assoc]
theorem ev_const {α : Type} {x : Option α} {r : α} (h : x = some r) : Ev (fun _ => x) r := ⟨0, fun _ _ => h⟩
theorem ev_eq {α : Type} {g : Nat → Option α} {r r' : α} (h : Ev g r) (e : r = r') : Ev g r' := e ▸ h
/-- From a number of rounds on: a law that holds at each such number. -/
theorem ev_now {α : Type} {g : Nat → Option α} {r : α} (K : Nat) (h : ∀ k, K ≤ k → g k = some r) : Ev g r := ⟨K, h⟩
theorem all_congr' {l : List Int} {p q : Int → Bool} (h : ∀ c ∈ l, p c = q c) : l.all p = l.all q := by
  induction l with
  | nil => rfl
  | cons a l ih =>
    rw [List.all_cons, List.all_cons, h a List.mem_cons_self, ih fun c hc => h c (List.mem_cons_of_mem _ hc)]
end Go.Proofs.YtfbgpjhnjdhpcaaDoor.Q
namespace Go.Proofs.YtfbgpjhnjdhpcaaDoor.Q
set_option linter.unusedVariables false
set_option linter.unusedSimpArgs false
open Go.RowKit Go.Proofs.YtfbgpjhnjdhpcaaDoor.P Go.Proofs.YtfbgpjhnjdhpcaaDoorW.PrintWords Go.Proofs.YtfbgpjhnjdhpcaaDoorW.PrintLast Go.Proofs.YtfbgpjhnjdhpcaaDoorW.PrintMore

theorem bytes_extract (s : ByteArray) (a b : Nat) : bytesOf (s.extract a b) = ((bytesOf s).drop a).take (b - a) := by
  unfold bytesOf
  rw [Lib.extract_data, List.map_take, List.map_drop]
theorem bytes_last (s : ByteArray) (h : 0 < s.size) : bytesOf s = bytesOf (s.extract 0 (s.size - 1)) ++ [bt s ((s.size - 1 : Nat) : Int)] := by
  rw [bytes_extract, List.drop_zero, Nat.sub_zero]
  have h1 := drop_bt s (s.size - 1) (by omega)
  have h2 : (bytesOf s).drop (s.size - 1 + 1) = [] := List.drop_of_length_le (by rw [bytesOf_length]; omega)
  rw [h2] at h1
  rw [← h1, List.take_append_drop]
theorem bytes_first (s : ByteArray) (h : 0 < s.size) : bytesOf s = bt s 0 :: bytesOf (s.extract 1 s.size) := by
  rw [bytes_extract]
  have h1 := drop_bt s 0 h
  rw [List.drop_zero] at h1
  rw [List.take_of_length_le (by rw [List.length_drop, bytesOf_length]; exact Nat.le_refl _)]
  exact h1
theorem size_extract (s : ByteArray) (a b : Nat) (hb : b ≤ s.size) : (s.extract a b).size = b - a := by
  rw [← bytesOf_length, bytes_extract, List.length_take, List.length_drop, bytesOf_length]
  omega
theorem toList_nil (s : ByteArray) : s.toList = [] ↔ s.size = 0 := by
  rw [toList_data, ← data_length]
  exact List.length_eq_zero_iff.symm
theorem bytes_nil (s : ByteArray) (h : s.size = 0) : bytesOf s = [] := List.eq_nil_of_length_eq_zero (by rw [bytesOf_length]; exact h)
theorem bytes_ofList (l : List UInt8) : bytesOf ⟨l.toArray⟩ = l.map fun b => (b.toNat : Int) := by
  unfold bytesOf
  rfl
theorem bytes_two (s : ByteArray) (i : Nat) (h : i + 2 ≤ s.size) : bytesOf (s.extract i (i + 2)) = [bt s (i : Int), bt s ((i + 1 : Nat) : Int)] := by
  rw [bytes_extract, drop_bt s i (by omega), drop_bt s (i + 1) (by omega), show i + 2 - i = 2 from by omega]
  rfl
/-- From some number of rounds on it answers, and the answer is as told. -/
def TotP {α : Type} (g : Nat → Option α) (P : α → Prop) : Prop := ∃ r, Ev g r ∧ P r
theorem TotP.bind {α β : Type} {g : Nat → Option α} {f : Nat → α → Option β} {P : α → Prop} {Q : β → Prop} (h : TotP g P) (k : ∀ a, P a → TotP (fun n => f n a) Q) : TotP (fun n => (g n).bind (f n)) Q := by
  obtain ⟨a, ha, pa⟩ := h
  obtain ⟨b, hb, qb⟩ := k a pa
  exact ⟨b, Ev.bind ha hb, qb⟩
theorem TotP.of {α : Type} {x : Option α} {P : α → Prop} (h : ∃ r, x = some r ∧ P r) : TotP (fun _ => x) P := by
  obtain ⟨r, e, p⟩ := h
  exact ⟨r, ev_const e, p⟩
theorem TotP.now {α : Type} {r : α} {P : α → Prop} (p : P r) : TotP (fun _ => some r) P := ⟨r, Ev.now r, p⟩
theorem TotP.imp {α : Type} {g : Nat → Option α} {P Q : α → Prop} (h : TotP g P) (pq : ∀ r, P r → Q r) : TotP g Q := by
  obtain ⟨r, e, p⟩ := h
  exact ⟨r, e, pq r p⟩
theorem TotP.step {α : Type} {g f : Nat → Option α} {P : α → Prop} (h : ∀ k, g (k + 1) = f k) (t : TotP f P) : TotP g P := by
  obtain ⟨r, e, p⟩ := t
  exact ⟨r, Ev.step h e, p⟩
theorem TotP.ite {α : Type} {c : Prop} [Decidable c] {f g : Nat → Option α} {P : α → Prop} (hf : c → TotP f P) (hg : ¬ c → TotP g P) : TotP (fun k => if c then f k else g k) P := by
  by_cases h : c
  · simp only [if_pos h]; exact hf h
  · simp only [if_neg h]; exact hg h
theorem bindOf {α β : Type} {x : Option α} {f : α → Option β} {P : α → Prop} {Q : β → Prop} (h : ∃ r, x = some r ∧ P r) (k : ∀ a, P a → ∃ r, f a = some r ∧ Q r) : ∃ r, x.bind f = some r ∧ Q r := by
  obtain ⟨a, rfl, p⟩ := h
  exact k a p

theorem and255 (a : Int) : 0 ≤ Go.bits .and .i64 a 255 ∧ Go.bits .and .i64 a 255 ≤ 255 := by
  unfold Go.bits
  have h : ((BitVec.ofInt IntKind.i64.bits a) &&& (BitVec.ofInt IntKind.i64.bits 255)).toNat ≤ 255 := by
    rw [BitVec.toNat_and]
    exact Nat.le_trans Nat.and_le_right (by decide)
  show 0 ≤ IntKind.i64.wrap ((((BitVec.ofInt IntKind.i64.bits a) &&& (BitVec.ofInt IntKind.i64.bits 255)).toNat : Nat) : Int) ∧ IntKind.i64.wrap ((((BitVec.ofInt IntKind.i64.bits a) &&& (BitVec.ofInt IntKind.i64.bits 255)).toNat : Nat) : Int) ≤ 255
  generalize ((BitVec.ofInt IntKind.i64.bits a) &&& (BitVec.ofInt IntKind.i64.bits 255)).toNat = n at h ⊢
  rw [IntKind.wrap_i64]
  omega
/-- The cursor's place is no negative number. -/
theorem byte_ok (b : List Int) (i h : Int) (h0 : 0 ≤ i) (hb : b.length ≤ 140737488351232) : ∃ r : Int × Int × Int, spec_l1Byte.f b i h = some r ∧ (0 ≤ r.1 ∧ r.1 ≤ 255 ∧ 0 ≤ r.2.1) := by
  unfold spec_l1Byte.f
  by_cases hi : i < (b.length : Int)
  · rw [if_pos hi, if_pos h0]
    exact ⟨_, rfl, (and255 _).1, (and255 _).2, by show 0 ≤ wrap64 (i + 1); rw [wrap_in (by omega) (by omega)]; omega⟩
  · rw [if_neg hi]
    exact ⟨_, rfl, (and255 _).1, (and255 _).2, h0⟩
theorem below_ok (b : List Int) (i h n : Int) (h0 : 0 ≤ i) (hb : b.length ≤ 140737488351232) :
    ∃ r : Int × Int × Int, spec_l1Below.f b i h n = some r ∧ (0 ≤ r.1 ∧ (0 < n → r.1 < n) ∧ (n ≤ 0 → r.1 = 0) ∧ 0 ≤ r.2.1) := by
  unfold spec_l1Below.f
  by_cases hn : n ≤ 0
  · rw [if_pos hn]
    exact ⟨_, rfl, by show (0 : Int) ≤ 0; omega, fun h => by omega, fun _ => rfl, h0⟩
  · rw [if_neg hn]
    by_cases h2 : n ≤ 256
    · rw [if_pos h2]
      refine bindOf (byte_ok b i h h0 hb) fun r ⟨r0, r1, r2⟩ => ?_
      rw [if_neg (by omega)]
      refine ⟨_, rfl, ?_, fun _ => ?_, fun h => by omega, r2⟩
      · show 0 ≤ Int.tmod r.1 n
        rw [Int.tmod_eq_emod_of_nonneg r0]; exact Int.emod_nonneg _ (by omega)
      · show Int.tmod r.1 n < n
        rw [Int.tmod_eq_emod_of_nonneg r0]; exact Int.emod_lt_of_pos _ (by omega)
    · rw [if_neg h2]
      refine bindOf (byte_ok b i h h0 hb) fun r ⟨r0, r1, r2⟩ => ?_
      refine bindOf (byte_ok b _ _ r2 hb) fun s ⟨s0, s1, s2⟩ => ?_
      refine bindOf (byte_ok b _ _ s2 hb) fun t ⟨t0, t1, t2⟩ => ?_
      refine bindOf (byte_ok b _ _ t2 hb) fun u ⟨u0, u1, u2⟩ => ?_
      rw [if_neg (by omega)]
      rw [wrap_in (i := r.1 * 16777216) (by omega) (by omega), wrap_in (i := s.1 * 65536) (by omega) (by omega), wrap_in (i := r.1 * 16777216 + s.1 * 65536) (by omega) (by omega), wrap_in (i := t.1 * 256) (by omega) (by omega), wrap_in (i := r.1 * 16777216 + s.1 * 65536 + t.1 * 256) (by omega) (by omega), wrap_in (i := r.1 * 16777216 + s.1 * 65536 + t.1 * 256 + u.1) (by omega) (by omega)]
      refine ⟨_, rfl, ?_, fun _ => ?_, fun h => by omega, u2⟩
      · show 0 ≤ Int.tmod _ n
        rw [Int.tmod_eq_emod_of_nonneg (by omega)]; exact Int.emod_nonneg _ (by omega)
      · show Int.tmod _ n < n
        rw [Int.tmod_eq_emod_of_nonneg (by omega)]; exact Int.emod_lt_of_pos _ (by omega)
theorem once_ok (b : List Int) (i h n : Int) (h0 : 0 ≤ i) (hb : b.length ≤ 140737488351232) :
    ∃ r : Bool × Int × Int, spec_l1Once.f b i h n = some r ∧ 0 ≤ r.2.1 := by
  unfold spec_l1Once.f
  exact bindOf (below_ok b i h n h0 hb) fun r ⟨_, _, _, r3⟩ => ⟨_, rfl, r3⟩
theorem new_loop (b : List Int) (hb : b.length ≤ 140737488351232) (d : Nat) : ∀ (i : Nat) (x : Int), i + d = b.length → ∃ h, ∀ k, d < k → spec_l1New.l0 k b x (i : Int) = some (b, 0, h) := by
  induction d with
  | zero =>
    intro i x hd
    refine ⟨x, fun k hk => ?_⟩
    obtain ⟨k, rfl⟩ : ∃ z, k = z + 1 := ⟨k - 1, by omega⟩
    simp only [spec_l1New.l0]
    rw [if_neg (by omega)]
  | succ d ih =>
    intro i x hd
    obtain ⟨h, hh⟩ := ih (i + 1) (Go.bits .and .i64 (wrap64 ((wrap64 ((wrap64 (x * 137)) + (wrap64 (rd b (i : Int))))) + 11)) 1073741823) (by omega)
    refine ⟨h, fun k hk => ?_⟩
    obtain ⟨k, rfl⟩ : ∃ z, k = z + 1 := ⟨k - 1, by omega⟩
    simp only [spec_l1New.l0]
    rw [if_pos (by omega), if_pos (by omega), wrap_in (i := (i : Int) + 1) (by omega) (by omega)]
    exact hh k (by omega)
theorem new_ok (b : List Int) (hb : b.length ≤ 140737488351232) : TotP (fun k => spec_l1New.f k b) (fun r => r.1 = b ∧ 0 ≤ r.2.1) := by
  obtain ⟨h, hh⟩ := new_loop b hb b.length 0 (wrap64 (109013 + (b.length : Int))) (by omega)
  refine ⟨(b, 0, h), ⟨b.length + 1, fun k hk => ?_⟩, rfl, by show (0 : Int) ≤ 0; omega⟩
  unfold spec_l1New.f
  exact hh k (by omega)
theorem strOfNums_size (l : List Int) : (strOfNums l).size = l.length := by
  show (strOfNums l).data.size = _
  rw [← Array.length_toList, strOfNums_data, List.length_map]
theorem drawText_end (b : List Int) (hb : b.length ≤ 140737488351232) (x : List Int) (i h : Int) (h0 : 0 ≤ i) (k : Nat) : ∃ r, spec_l1DrawText.j1 (k + 1) x (decide ((x.length : Int) > 0)) b i h = some r ∧ (0 ≤ r.2.1 ∧ r.1.size = x.length) := by
  simp only [spec_l1DrawText.j1]
  by_cases hx : (x.length : Int) > 0
  · rw [decide_eq_true hx, if_pos rfl]
    refine bindOf (below_ok b i h _ h0 hb) fun r0 p0 => ?_
    refine bindOf (byte_ok b _ _ p0.2.2.2 hb) fun r1 p1 => ?_
    rw [if_pos p0.1, if_pos (p0.2.1 (by omega))]
    exact ⟨_, rfl, p1.2.2, by show (strOfNums _).size = _; rw [strOfNums_size, List.length_set]⟩
  · rw [decide_eq_false hx, if_neg (by simp)]
    exact ⟨_, rfl, h0, by show (strOfNums _).size = _; rw [strOfNums_size]⟩
theorem drawText_stop (b : List Int) (hb : b.length ≤ 140737488351232) (x : List Int) (i h : Int) (h0 : 0 ≤ i) (k : Nat) : ∃ r, spec_l1DrawText.j1 (k + 1) x false b i h = some r ∧ (0 ≤ r.2.1 ∧ r.1.size = x.length) := by
  simp only [spec_l1DrawText.j1]
  rw [if_neg (by simp)]
  exact ⟨_, rfl, h0, by show (strOfNums _).size = _; rw [strOfNums_size]⟩
theorem drawText_loop (b : List Int) (hb : b.length ≤ 140737488351232) (signs : ByteArray) (hs : 0 < signs.size) (d : Nat) : ∀ (x : List Int) (i h : Int), 0 ≤ i → x.length + d ≤ 1000000 →
    ∃ r, (0 ≤ r.2.1 ∧ r.1.size = x.length + d) ∧ ∀ k, d + 1 < k → spec_l1DrawText.l0 k signs x (d : Int) b i h = some r := by
  induction d with
  | zero =>
    intro x i h h0 hd
    obtain ⟨r0, e0, p0⟩ := once_ok b i h 14 h0 hb
    by_cases hc : r0.1 = true
    · obtain ⟨r1, _, p1⟩ := drawText_end b hb x r0.2.1 r0.2.2 p0 0
      refine ⟨r1, p1, fun k hk => ?_⟩
      obtain ⟨k, rfl⟩ : ∃ z, k = z + 2 := ⟨k - 2, by omega⟩
      simp only [spec_l1DrawText.l0]
      rw [if_neg (by omega), e0]
      simp only [Option.bind_some]
      rw [if_pos hc]
      obtain ⟨r2, e2, _⟩ := drawText_end b hb x r0.2.1 r0.2.2 p0 k
      have e3 : spec_l1DrawText.j1 (k + 1) x (decide ((x.length : Int) > 0)) b r0.2.1 r0.2.2 = spec_l1DrawText.j1 (0 + 1) x (decide ((x.length : Int) > 0)) b r0.2.1 r0.2.2 := by simp only [spec_l1DrawText.j1]
      rw [e3]
      assumption
    · refine ⟨(strOfNums x, r0.2.1, r0.2.2), ⟨p0, by show (strOfNums x).size = _; rw [strOfNums_size]; rfl⟩, fun k hk => ?_⟩
      obtain ⟨k, rfl⟩ : ∃ z, k = z + 2 := ⟨k - 2, by omega⟩
      simp only [spec_l1DrawText.l0]
      rw [if_neg (by omega), e0]
      simp only [Option.bind_some]
      rw [if_neg hc]
      simp only [spec_l1DrawText.j1]
      rw [if_neg (by simp)]
  | succ d ih =>
    intro x i h h0 hd
    obtain ⟨r0, e0, p0⟩ := below_ok b i h (signs.size : Int) h0 hb
    obtain ⟨r, p, hr⟩ := ih (x ++ [bt signs r0.1]) r0.2.1 r0.2.2 p0.2.2.2 (by rw [List.length_append, List.length_singleton]; omega)
    refine ⟨r, ⟨p.1, by rw [p.2, List.length_append, List.length_singleton]; omega⟩, fun k hk => ?_⟩
    obtain ⟨k, rfl⟩ : ∃ z, k = z + 1 := ⟨k - 1, by omega⟩
    simp only [spec_l1DrawText.l0]
    rw [if_pos (by omega), e0]
    simp only [Option.bind_some]
    rw [if_pos p0.1, if_pos (p0.2.1 (by omega)), if_pos (by omega), wrap_in (i := ((d + 1 : Nat) : Int) - 1) (by omega) (by omega), show ((d + 1 : Nat) : Int) - 1 = (d : Int) by omega]
    exact hr k (by omega)
theorem drawText_ok (b : List Int) (hb : b.length ≤ 140737488351232) (i h : Int) (h0 : 0 ≤ i) (signs : ByteArray) (hs : 0 < signs.size) (m : Int) (m0 : 0 ≤ m) (m1 : m ≤ 1000) :
    TotP (fun k => spec_l1DrawText.f k b i h signs m) (fun r => 0 ≤ r.2.1 ∧ r.1.size ≤ m.toNat) := by
  unfold spec_l1DrawText.f
  rw [wrap_in (i := m + 1) (by omega) (by omega)]
  refine TotP.bind (TotP.of (below_ok b i h _ h0 hb)) fun r0 p0 => ?_
  obtain ⟨r, p, hr⟩ := drawText_loop b hb signs hs r0.1.toNat [] r0.2.1 r0.2.2 p0.2.2.2 (by have := p0.2.1 (by omega); simp only [List.length_nil]; omega)
  refine ⟨r, ⟨r0.1.toNat + 2, fun k hk => ?_⟩, p.1, by rw [p.2]; have := p0.2.1 (by omega); simp only [List.length_nil]; omega⟩
  have := hr k (by omega)
  rw [Int.toNat_of_nonneg p0.1] at this
  exact this
theorem rd_byte (b : List Int) (hx : ∀ x ∈ b, 0 ≤ x ∧ x ≤ 255) (i : Int) : 0 ≤ rd b i ∧ rd b i ≤ 255 := by
  unfold rd
  rw [List.getD_eq_getElem?_getD]
  cases h : b[i.toNat]? with
  | none => exact ⟨by decide, by decide⟩
  | some v => exact hx v (List.mem_of_getElem? h)
theorem pick_loop (b : List Int) (hb : b.length ≤ 140737488351232) (hx : ∀ x ∈ b, 0 ≤ x ∧ x ≤ 255) (s n : Int) (hs : 0 ≤ s ∧ s ≤ 1000) (hn : 0 < n) (d : Nat) : ∀ (i : Nat) (x : Int), i + d = b.length → 0 ≤ x → x ≤ 9000000000000000 → (∃ r, (0 ≤ r ∧ r < n) ∧ ∀ k, d < k → laws_pick.l0 k b s n x (i : Int) = some r) := by
  induction d with
  | zero =>
    intro i x hd x0 x1
    refine ⟨Int.tmod x n, ?_, fun k hk => ?_⟩
    · rw [Int.tmod_eq_emod_of_nonneg x0]; exact ⟨Int.emod_nonneg _ (by omega), Int.emod_lt_of_pos _ hn⟩
    obtain ⟨k, rfl⟩ : ∃ z, k = z + 1 := ⟨k - 1, by omega⟩
    simp only [laws_pick.l0]
    rw [if_neg (by omega), if_neg (by omega)]
  | succ d ih =>
    intro i x hd x0 x1
    have hr := rd_byte b hx (i : Int)
    have e : wrap64 ((wrap64 ((wrap64 (x * 113)) + (wrap64 (rd b (i : Int))))) + s) = x * 113 + rd b (i : Int) + s := by
      rw [wrap_in (i := x * 113) (by omega) (by omega), wrap_in (i := rd b (i : Int)) (by omega) (by omega), wrap_in (i := x * 113 + rd b (i : Int)) (by omega) (by omega), wrap_in (by omega) (by omega)]
    have e1 : 0 ≤ Int.tmod (x * 113 + rd b (i : Int) + s) 1000003 ∧ Int.tmod (x * 113 + rd b (i : Int) + s) 1000003 ≤ 9000000000000000 := by
      rw [Int.tmod_eq_emod_of_nonneg (by omega)]
      omega
    obtain ⟨r, p, hr⟩ := ih (i + 1) (Int.tmod (x * 113 + rd b (i : Int) + s) 1000003) (by omega) e1.1 e1.2
    refine ⟨r, p, fun k hk => ?_⟩
    obtain ⟨k, rfl⟩ : ∃ z, k = z + 1 := ⟨k - 1, by omega⟩
    simp only [laws_pick.l0]
    rw [if_pos (by omega), if_pos (by omega), wrap_in (i := (i : Int) + 1) (by omega) (by omega), e]
    exact hr k (by omega)
theorem pick_ok (b : List Int) (hb : b.length ≤ 140737488351232) (hx : ∀ x ∈ b, 0 ≤ x ∧ x ≤ 255) (s n : Int) (hs : 0 ≤ s ∧ s ≤ 1000) (hn : 0 < n) : TotP (fun k => laws_pick.f k b s n) (fun r => 0 ≤ r ∧ r < n) := by
  have e : wrap64 ((b.length : Int) + (wrap64 (7919 * s))) = b.length + 7919 * s := by rw [wrap_in (i := 7919 * s) (by omega) (by omega), wrap_in (by omega) (by omega)]
  obtain ⟨r, p, hr⟩ := pick_loop b hb hx s n hs hn b.length 0 ((b.length : Int) + 7919 * s) (by omega) (by omega) (by omega)
  refine ⟨r, ⟨b.length + 1, fun k hk => ?_⟩, p⟩
  unfold laws_pick.f
  rw [e]
  exact hr k (by omega)
end Go.Proofs.YtfbgpjhnjdhpcaaDoor.Q
namespace Go.Proofs.YtfbgpjhnjdhpcaaDoor.Q
set_option linter.unusedVariables false
set_option linter.unusedSimpArgs false
open Go.RowKit Go.Proofs.YtfbgpjhnjdhpcaaDoor.P Go.Proofs.YtfbgpjhnjdhpcaaDoorW.PrintWords
theorem bendL_ok (b : List Int) (hb : b.length ≤ 140737488351232) (s : ByteArray) (hs : 0 < s.size) (d : Nat) : ∀ (x : List Int) (i h : Int), 0 ≤ i → x.length + d < 1000000000 → TotP (fun k => bendL s b k x (d : Int) i h) (fun r => r.1.size ≤ x.length + d ∧ 0 ≤ r.2.1) := by
  induction d with
  | zero =>
    intro x i h h0 hx
    refine TotP.step (f := fun _ => some (strOfNums x, i, h)) (fun k => ?_) (TotP.now ⟨by show (strOfNums x).size ≤ _; rw [strOfNums_size]; omega, h0⟩)
    rw [bendL, if_neg (fun q => absurd q.1 (by omega))]
  | succ d ih =>
    intro x i h h0 hx
    by_cases hn : 0 < x.length
    · have hw : wrap64 (((d + 1 : Nat) : Int) - 1) = (d : Int) := by rw [wrap_in (by omega) (by omega)]; omega
      refine TotP.step (f := fun k => (spec_l1Below.f b i h (x.length : Int)).bind fun r1 => (spec_l1Below.f b r1.2.1 r1.2.2 4).bind fun r2 =>
        if 0 ≤ r1.1 ∧ r1.1 < (x.length : Int) ∧ x.length < 1000000000 then
          if r2.1 = 0 then (spec_l1Below.f b r2.2.1 r2.2.2 (s.size : Int)).bind fun r3 => if 0 ≤ r3.1 ∧ r3.1 < (s.size : Int) then bendL s b k (x.set r1.1.toNat (bt s r3.1)) (d : Int) r3.2.1 r3.2.2 else none
          else if r2.1 = 1 then bendL s b k (x.take r1.1.toNat) (d : Int) r2.2.1 r2.2.2
          else if r2.1 = 2 then bendL s b k (x.take r1.1.toNat ++ x.drop (r1.1 + 1).toNat) (d : Int) r2.2.1 r2.2.2
          else if r2.1 = 3 then (spec_l1Below.f b r2.2.1 r2.2.2 (s.size : Int)).bind fun r3 => if 0 ≤ r3.1 ∧ r3.1 < (s.size : Int) then bendL s b k (x.take r1.1.toNat ++ [bt s r3.1] ++ x.drop r1.1.toNat) (d : Int) r3.2.1 r3.2.2 else none
          else bendL s b k x (d : Int) r2.2.1 r2.2.2
        else none) (fun k => ?_) ?_
      · rw [bendL, if_pos ⟨by omega, hn⟩, hw]
      · refine TotP.bind (TotP.of (below_ok b i h (x.length : Int) h0 hb)) fun r1 p1 => TotP.bind (TotP.of (below_ok b _ _ 4 p1.2.2.2 hb)) fun r2 p2 => ?_
        have hr1 := p1.2.1 (by omega)
        have hr0 := p1.1
        refine TotP.ite (fun _ => ?_) (fun c => absurd ⟨hr0, hr1, by omega⟩ c)
        refine TotP.ite (fun _ => ?_) fun _ => TotP.ite (fun _ => ?_) fun _ => TotP.ite (fun _ => ?_) fun _ => TotP.ite (fun _ => ?_) fun _ => ?_
        · refine TotP.bind (TotP.of (below_ok b _ _ (s.size : Int) p2.2.2.2 hb)) fun r3 p3 => TotP.ite (fun _ => ?_) (fun c => absurd ⟨p3.1, p3.2.1 (by omega)⟩ c)
          have hl : (x.set r1.1.toNat (bt s r3.1)).length = x.length := List.length_set
          exact (ih _ _ _ p3.2.2.2 (by omega)).imp fun r hr => ⟨by omega, hr.2⟩
        · have hl : (x.take r1.1.toNat).length ≤ x.length := by rw [List.length_take]; omega
          exact (ih _ _ _ p2.2.2.2 (by omega)).imp fun r hr => ⟨by omega, hr.2⟩
        · have hl : (x.take r1.1.toNat ++ x.drop (r1.1 + 1).toNat).length ≤ x.length := by rw [List.length_append, List.length_take, List.length_drop]; omega
          exact (ih _ _ _ p2.2.2.2 (by omega)).imp fun r hr => ⟨by omega, hr.2⟩
        · refine TotP.bind (TotP.of (below_ok b _ _ (s.size : Int) p2.2.2.2 hb)) fun r3 p3 => TotP.ite (fun _ => ?_) (fun c => absurd ⟨p3.1, p3.2.1 (by omega)⟩ c)
          have hl : (x.take r1.1.toNat ++ [bt s r3.1] ++ x.drop r1.1.toNat).length ≤ x.length + 1 := by rw [List.length_append, List.length_append, List.length_take, List.length_drop, List.length_singleton]; omega
          exact (ih _ _ _ p3.2.2.2 (by omega)).imp fun r hr => ⟨by omega, hr.2⟩
        · exact (ih _ _ _ p2.2.2.2 (by omega)).imp fun r hr => ⟨by omega, hr.2⟩
    · refine TotP.step (f := fun _ => some (strOfNums x, i, h)) (fun k => ?_) (TotP.now ⟨by show (strOfNums x).size ≤ _; rw [strOfNums_size]; omega, h0⟩)
      rw [bendL, if_neg (fun q => hn q.2)]
theorem bend_ok (b : List Int) (hb : b.length ≤ 140737488351232) (t s : ByteArray) (ht : t.size ≤ 100000000) (hs : 0 < s.size) (i h : Int) (h0 : 0 ≤ i) : TotP (fun k => spec_l1Bend.f k b i h t s) (fun r => r.1.size ≤ t.size + 2 ∧ 0 ≤ r.2.1) := by
  unfold spec_l1Bend.f
  refine TotP.ite (fun _ => ?_) (fun c => absurd (by omega) c)
  refine TotP.bind (TotP.of (below_ok b i h 3 h0 hb)) fun r p => ?_
  have h3 := p.2.1 (by decide)
  have h2 := p.1
  have hl := bytesOf_length t
  have := bendL_ok b hb s hs r.1.toNat (bytesOf t) r.2.1 r.2.2 p.2.2.2 (by omega)
  rw [Int.toNat_of_nonneg h2] at this
  exact this.imp fun q hq => ⟨by omega, hq.2⟩
end Go.Proofs.YtfbgpjhnjdhpcaaDoor.Q
namespace Go.Proofs.YtfbgpjhnjdhpcaaDoor.Q
set_option linter.unusedVariables false
set_option linter.unusedSimpArgs false
open Go.RowKit Go.Proofs.YtfbgpjhnjdhpcaaDoor.P Go.Proofs.YtfbgpjhnjdhpcaaDoorW.PrintWords Go.Proofs.YtfbgpjhnjdhpcaaDoorW.PrintLast Go.Proofs.YtfbgpjhnjdhpcaaDoorW.PrintMore

def inB (x a b : Int) : Bool := decide (a ≤ x) && decide (x ≤ b)
theorem spec_l1In_is (x a b : Int) : spec_l1In.f x a b = some (inB x a b) := by
  unfold spec_l1In.f inB
  by_cases h : x ≥ a
  · rw [if_pos h, decide_eq_true (by omega : a ≤ x), Bool.true_and]
  · rw [if_neg h, decide_eq_false (by omega : ¬ a ≤ x), Bool.false_and]
theorem impl_within_is (x a b : Int) : impl_within.f x a b = some (inB x a b) := by
  unfold impl_within.f inB
  by_cases h : x ≥ a
  · rw [if_pos h, decide_eq_true (by omega : a ≤ x), Bool.true_and]
  · rw [if_neg h, decide_eq_false (by omega : ¬ a ≤ x), Bool.false_and]
theorem inB_true {x a b : Int} (h : inB x a b = true) : a ≤ x ∧ x ≤ b := by unfold inB at h; simpa using h
def hexD (n : Nat) : ByteArray := strOfNums [bt digs36 (n : Int)]
/-- A number's hexadecimal numeral. -/
def hexT (n : Nat) : ByteArray := strOfNums (hexL n)
theorem hex_digit (m : Nat) (h : m < 16) : (⟨#[48, 49, 50, 51, 52, 53, 54, 55, 56, 57, 97, 98, 99, 100, 101, 102]⟩ : ByteArray).extract m (m + 1) = hexD m := by
  have key : ∀ i : Fin 16, ((⟨#[48, 49, 50, 51, 52, 53, 54, 55, 56, 57, 97, 98, 99, 100, 101, 102]⟩ : ByteArray).extract i.1 (i.1 + 1)).data.toList = (hexD i.1).data.toList := by decide
  have := key ⟨m, h⟩
  exact ByteArray.ext (Array.toList_inj.1 this)
theorem hexD_size (n : Nat) : (hexD n).size = 1 := by
  unfold hexD strOfNums
  rfl
theorem hex_app (l : List Int) (d : Nat) (s : ByteArray) : strOfNums l ++ (hexD d ++ s) = strOfNums (l ++ [bt digs36 (d : Int)]) ++ s := by
  apply ByteArray.ext
  apply Array.toList_inj.1
  unfold hexD
  simp only [ByteArray.data_append, Array.toList_append, strOfNums_data, List.map_append, List.append_assoc]
theorem hex_step (k n : Nat) (s : ByteArray) (h : s.toList = [] ∨ 0 < n) (hn : n ≤ 9000000000000000000) (hs : s.size ≤ 1000) :
    spec_Hex.l0 (k + 1) (n : Int) s = spec_Hex.l0 k ((n / 16 : Nat) : Int) (hexD (n % 16) ++ s) := by
  have e1 : Int.tmod (n : Int) 16 = ((n % 16 : Nat) : Int) := by rw [Int.tmod_eq_emod_of_nonneg (by omega)]; omega
  have e2 : wrap64 (((n % 16 : Nat) : Int) + 1) = ((n % 16 + 1 : Nat) : Int) := by rw [wrap_in (by omega) (by omega)]; omega
  have e3 : wrap64 (Int.tdiv (n : Int) 16) = ((n / 16 : Nat) : Int) := by rw [Int.tdiv_eq_ediv_of_nonneg (by omega), wrap_in (by omega) (by omega)]; omega
  have e4 := hex_digit (n % 16) (Nat.mod_lt _ (by decide))
  simp only [spec_Hex.l0]
  by_cases h1 : s.toList = []
  · rw [if_pos h1, e1, e2, e3, if_pos (by omega), if_pos (by omega), if_pos (by omega), Int.toNat_natCast, Int.toNat_natCast, e4, if_pos (by rw [hexD_size]; omega)]
  · have h0 := h.resolve_left h1
    rw [if_neg h1, if_pos (by omega), e1, e2, e3, if_pos (by omega), if_pos (by omega), if_pos (by omega), Int.toNat_natCast, Int.toNat_natCast, e4, if_pos (by rw [hexD_size]; omega)]
theorem hex_stop (k : Nat) (s : ByteArray) (h : s.toList ≠ []) : spec_Hex.l0 (k + 1) 0 s = some s := by
  simp only [spec_Hex.l0]
  rw [if_neg h, if_neg (by omega)]
theorem hex_ne (d : Nat) (s : ByteArray) : (hexD d ++ s).toList ≠ [] := by
  rw [toList_data]
  simp [hexD, ByteArray.data_append, strOfNums_data]
theorem hex_loop (d : Nat) : ∀ (n : Nat) (s : ByteArray), n < 16 ^ (d + 1) → (s.toList = [] ∨ 0 < n) → n ≤ 9000000000000000000 → s.size + d ≤ 1000 → Ev (fun k => spec_Hex.l0 k (n : Int) s) (strOfNums (hexL n) ++ s) := by
  induction d with
  | zero =>
    intro n s hn h hb hs
    have h16 : n < 16 := by simpa using hn
    refine Ev.step (fun k => hex_step k n s h hb (by omega)) ?_
    rw [show n / 16 = 0 by omega, show n % 16 = n by omega, hexL, dif_pos h16]
    exact Ev.step (f := fun _ => some (hexD n ++ s)) (fun k => hex_stop k _ (hex_ne n s)) (Ev.now _)
  | succ d ih =>
    intro n s hn h hb hs
    refine Ev.step (fun k => hex_step k n s h hb (by omega)) ?_
    by_cases h16 : n < 16
    · rw [show n / 16 = 0 by omega, show n % 16 = n by omega, hexL, dif_pos h16]
      exact Ev.step (f := fun _ => some (hexD n ++ s)) (fun k => hex_stop k _ (hex_ne n s)) (Ev.now _)
    · rw [hexL, dif_neg h16, ← hex_app]
      exact ih (n / 16) (hexD (n % 16) ++ s) (by rw [Nat.pow_succ] at hn; omega) (.inr (by omega)) (by omega) (by rw [ByteArray.size_append, hexD_size]; omega)
def hexR (n : Int) : ByteArray := if inB n 0 4503599627370496 = true then hexT n.toNat else ⟨#[]⟩
theorem spec_Hex_ev (n : Int) : Ev (fun k => spec_Hex.f k n) (hexR n) := by
  unfold spec_Hex.f hexR
  rw [spec_l1In_is]
  simp only [Option.bind_some]
  by_cases h : inB n 0 4503599627370496 = true
  · simp only [if_pos h]
    have hr := inB_true h
    have := hex_loop 15 n.toNat ⟨#[]⟩ (by omega) (.inl ((toList_nil _).2 rfl)) (by omega) (by decide)
    rw [show ((n.toNat : Nat) : Int) = n by omega] at this
    refine ev_eq this ?_
    apply ByteArray.ext
    apply Array.toList_inj.1
    simp [ByteArray.data_append, hexT]
  · simp only [if_neg h]
    exact Ev.now _
theorem impl_Hex_is (n : Int) : impl_Hex.f n = some (hexR n) := by
  unfold impl_Hex.f hexR
  rw [impl_within_is]
  simp only [Option.bind_some]
  by_cases h : inB n 0 4503599627370496 = true
  · have hr := inB_true h
    rw [if_pos h, if_pos h]
    unfold strconv_FormatInt.f
    rw [if_pos ⟨rfl, hr.1, by omega⟩]
    rfl
  · rw [if_neg h, if_neg h]
theorem rd_tx (l : List ByteArray) (i : Nat) (h : i < l.length) : rdOf ByteArray.empty l (i : Int) = l[i] := by
  simp [rdOf, List.getD_eq_getElem?_getD, h]
theorem sizes_cons (a : ByteArray) (l : List ByteArray) : sizes (a :: l) = a.size + sizes l := by simp [sizes]
def chunkedR (l : List ByteArray) : ByteArray := if l.length > 100 then ⟨#[]⟩ else if sizes l > 4000 then ⟨#[]⟩ else ⟨(chunksL l ++ [48, 13, 10, 13, 10]).toArray⟩
theorem impl_Chunked_is (l : List ByteArray) (h : sizes l ≤ 4611686018427387904) : impl_Chunked.f l = some (chunkedR l) := by
  unfold impl_Chunked.f chunkedR
  rw [if_neg (by omega)]
  split
  · rfl
  · split <;> rfl
theorem sizes_drop (l : List ByteArray) (i : Nat) (h : i < l.length) : sizes (l.drop i) = l[i].size + sizes (l.drop (i + 1)) := by rw [List.drop_eq_getElem_cons h, sizes_cons]
theorem sizes_split (l : List ByteArray) (i : Nat) : sizes l = sizes (l.take i) + sizes (l.drop i) := by
  unfold sizes
  rw [← List.sum_append, ← List.map_append, List.take_append_drop]
theorem hexT_is (n : Nat) : hexT n = strOfNums (hexL n) := rfl
theorem spec_Chunked_loop (l : List ByteArray) (hl : l.length ≤ 1048576) (hs : sizes l ≤ 1048576) (d : Nat) : ∀ (i : Nat) (out : List Int), i + d = l.length → sizes (l.take i) ≤ 4000 → (0 < i → l.length ≤ 100) → out = (chunksL (l.take i)).map (fun b => ((b.toNat : Nat) : Int)) →
    Ev (fun k => spec_Chunked.l0 k l (sizes (l.take i) : Int) out (i : Int)) (chunkedR l) := by
  induction d with
  | zero =>
    intro i out hd hz hb ho
    rw [List.take_of_length_le (show l.length ≤ i by omega)] at hz ho ⊢
    have hlen : out.length = (chunksL l).length := by rw [ho, List.length_map]
    have hc := chunksL_le l hz
    refine Ev.step (f := fun _ => some (chunkedR l)) (fun k => ?_) (Ev.now _)
    simp only [spec_Chunked.l0]
    unfold chunkedR
    rw [if_neg (by omega)]
    by_cases h100 : l.length > 100
    · rw [if_pos (by omega), if_pos h100]
    · rw [if_neg (show ¬ (l.length : Int) > 100 by omega), if_pos (show (strOfNums out).size + 5 ≤ 9223372036854775807 by rw [nums_size]; omega), if_neg h100, if_neg (show ¬ sizes l > 4000 by omega)]
      congr 1
      apply ByteArray.ext
      apply Array.toList_inj.1
      rw [ByteArray.data_append, Array.toList_append, strOfNums_data, ho, List.map_map]
      have e : List.map ((fun n : Int => UInt8.ofNat n.toNat) ∘ fun b : UInt8 => ((b.toNat : Nat) : Int)) (chunksL l) = chunksL l := (List.map_congr_left fun b _ => by simp).trans (List.map_id _)
      rw [e]
  | succ d ih =>
    intro i out hd hz hb ho
    have hi : i < l.length := by omega
    have ht := sizes_take l i hi
    have hsp := sizes_split l (i + 1)
    have hw1 : wrap64 ((sizes (l.take i) : Int) + (l[i].size : Int)) = (sizes (l.take (i + 1)) : Int) := by rw [wrap_in (by omega) (by omega)]; omega
    have hw2 : wrap64 ((i : Int) + 1) = ((i + 1 : Nat) : Int) := by rw [wrap_in (by omega) (by omega)]; omega
    have stop : (sizes (l.take (i + 1)) > 4000 ∨ l.length > 100) → chunkedR l = ⟨#[]⟩ := by
      intro h
      unfold chunkedR
      by_cases h100 : l.length > 100
      · rw [if_pos h100]
      · rw [if_neg h100, if_pos (by rcases h with h | h; omega; exact absurd h h100)]
    by_cases hbig : sizes (l.take (i + 1)) > 4000 ∨ l.length > 100
    · rw [stop hbig]
      refine Ev.step (f := fun k => spec_Chunked.j1 k l (sizes (l.take (i + 1)) : Int) out (i : Int) true) (fun k => ?_) ?_
      · simp only [spec_Chunked.l0]
        rw [if_pos (by omega), if_pos (by omega), rd_tx l i hi, hw1]
        by_cases h4 : (sizes (l.take (i + 1)) : Int) > 4000
        · rw [if_pos h4]
        · rw [if_neg h4, decide_eq_true (by rcases hbig with h | h; omega; omega)]
      · refine Ev.step (f := fun _ => some ⟨#[]⟩) (fun k => ?_) (Ev.now _)
        simp only [spec_Chunked.j1]
        rw [if_pos trivial]
    · have n4 : ¬ sizes (l.take (i + 1)) > 4000 := fun h => hbig (.inl h)
      have n100 : ¬ l.length > 100 := fun h => hbig (.inr h)
      have hct := chunksL_take l i hi
      have hcl := chunksL_le (l.take i) hz
      have hlt := List.length_take_le i l
      have hlen : out.length = (chunksL (l.take i)).length := by rw [ho, List.length_map]
      refine Ev.step (f := fun k => spec_Chunked.j1 k l (sizes (l.take (i + 1)) : Int) out (i : Int) false) (fun k => ?_) ?_
      · simp only [spec_Chunked.l0]
        rw [if_pos (by omega), if_pos (by omega), rd_tx l i hi, hw1, if_neg (by omega), decide_eq_false (by omega)]
      · by_cases he : l[i].toList = ([] : List UInt8)
        · have hzero : l[i].size = 0 := (toList_nil _).1 he
          have hc0 : chunkL l[i] = [] := by unfold chunkL; rw [if_pos hzero]
          rw [hc0, List.append_nil] at hct
          refine Ev.step (fun k => ?_) (ih (i + 1) out (by omega) (by omega) (fun _ => by omega) (by rw [hct]; exact ho))
          simp only [spec_Chunked.j1]
          rw [if_neg (by simp), if_pos (by omega), if_pos (by omega), rd_tx l i hi, if_pos he, hw2]
        · have hne : l[i].size ≠ 0 := fun h => he ((toList_nil _).2 h)
          have hhl := hexL_le 3 l[i].size (by omega)
          have hhs := nums_size (hexL l[i].size)
          have h2 : (⟨#[13, 10]⟩ : ByteArray).size = 2 := rfl
          have hdat := chunk_data l[i] hne
          have hhex : Ev (fun k => spec_Hex.f k (l[i].size : Int)) (strOfNums (hexL l[i].size)) := by
            have := spec_Hex_ev (l[i].size : Int)
            have e : hexR (l[i].size : Int) = strOfNums (hexL l[i].size) := by
              unfold hexR inB
              rw [if_pos (by simp; omega), Int.toNat_natCast]
              rfl
            rw [e] at this
            exact this
          have next := ih (i + 1) (out ++ bytesOf (strOfNums (hexL l[i].size) ++ (⟨#[13, 10]⟩ : ByteArray) ++ l[i] ++ (⟨#[13, 10]⟩ : ByteArray))) (by omega) (by omega) (fun _ => by omega) (by
            rw [hct, List.map_append, ho]
            congr 1
            rw [← hdat]
            rfl)
          refine Ev.step (f := fun k => (spec_Hex.f k (l[i].size : Int)).bind fun t107 => (if t107.size + 2 ≤ 9223372036854775807 then (if (t107 ++ (⟨#[13, 10]⟩ : ByteArray)).size + l[i].size ≤ 9223372036854775807 then (if ((t107 ++ (⟨#[13, 10]⟩ : ByteArray)) ++ l[i]).size + 2 ≤ 9223372036854775807 then (if out.length + (((t107 ++ (⟨#[13, 10]⟩ : ByteArray)) ++ l[i]) ++ (⟨#[13, 10]⟩ : ByteArray)).size < 140737488355328 then (spec_Chunked.l0 k l (sizes (l.take (i + 1)) : Int) (out ++ bytesOf (((t107 ++ (⟨#[13, 10]⟩ : ByteArray)) ++ l[i]) ++ (⟨#[13, 10]⟩ : ByteArray))) ((i + 1 : Nat) : Int)) else (none)) else (none)) else (none)) else (none))) (fun k => ?_) (Ev.bind hhex ?_)
          · simp only [spec_Chunked.j1]
            rw [if_neg (by simp), if_pos (by omega), if_pos (by omega), rd_tx l i hi, if_neg he, hw2]
          · have z1 : (strOfNums (hexL l[i].size)).size + 2 ≤ 9223372036854775807 := by omega
            have z2 : (strOfNums (hexL l[i].size) ++ (⟨#[13, 10]⟩ : ByteArray)).size + l[i].size ≤ 9223372036854775807 := by rw [ByteArray.size_append, h2]; omega
            have z3 : (strOfNums (hexL l[i].size) ++ (⟨#[13, 10]⟩ : ByteArray) ++ l[i]).size + 2 ≤ 9223372036854775807 := by rw [ByteArray.size_append, ByteArray.size_append, h2]; omega
            have z4 : out.length + (strOfNums (hexL l[i].size) ++ (⟨#[13, 10]⟩ : ByteArray) ++ l[i] ++ (⟨#[13, 10]⟩ : ByteArray)).size < 140737488355328 := by rw [ByteArray.size_append, ByteArray.size_append, ByteArray.size_append, h2]; omega
            simp only [if_pos z1, if_pos z2, if_pos z3, if_pos z4]
            exact next
theorem spec_Chunked_ev (l : List ByteArray) (hl : l.length ≤ 1048576) (hs : sizes l ≤ 1048576) : Ev (fun k => spec_Chunked.f k l) (chunkedR l) := by
  unfold spec_Chunked.f
  exact spec_Chunked_loop l hl hs l.length 0 [] (by omega) (Nat.zero_le _) (fun h => by omega) rfl
end Go.Proofs.YtfbgpjhnjdhpcaaDoor.Q
