/- Functions of the Go program as Lean functions, and proofs about them, merged out of this session's texts by its program bundle.py; conditions: those that each theorem states. -/
import Derived.Below
import Derived.Carry
import Derived.ChangeOld
import Derived.ChangeSame
import Derived.Deep.Fields
import Derived.Deep.Slices
import Derived.Handed
import Derived.HandedShaped
import Derived.LaidMore
import Derived.Laws.Externs
import Derived.Laws.IdiomCopy
import Derived.Lay
import Derived.Lib.AppendStr
import Derived.Lib.Builder
import Derived.Lib.Bytealg
import Derived.Lib.Hide
import Derived.Lib.SlTrimSet
import Derived.Lib.Strings
import Derived.Lib.UnsafeStr
import Derived.OpenShut
import Derived.ProofKit
import Derived.SevenTiedAt
import Derived.Shelf.SlicesQ.IndexFunc
import Derived.ShutString
import Derived.SizedLaws
import Derived.Stop.Joined
import Derived.Test.YtfebipiccpbdbaaDoorCards
import Derived.Test.YtfebipiccpbdbaaDoorGTrim
import Derived.Test.YtfebipiccpbdbaaDoorGall
import Derived.Test.YtfebipiccpbdbaaDoorGspecl1Token
import Derived.Test.YtfebipiccpbdbaaDoorP0
import Derived.Test.YtfebipiccpbdbaaDoorPimplTokenOk
import Derived.Test.YtfebipiccpbdbaaDoorPimplTokenOk1
import Derived.Test.YtfebipiccpbdbaaDoorPimplTrimmed
import Derived.Test.YtfebipiccpbdbaaDoorPimplVisibleOk
import Derived.Test.YtfebipiccpbdbaaDoorPimplisDigit
import Derived.Test.YtfebipiccpbdbaaDoorPimplisField
import Derived.Test.YtfebipiccpbdbaaDoorPimplisLetter
import Derived.Test.YtfebipiccpbdbaaDoorPimplisVisible
import Derived.Test.YtfebipiccpbdbaaDoorPlawseqField
import Derived.Test.YtfebipiccpbdbaaDoorPlawseqFieldS
import Derived.Test.YtfebipiccpbdbaaDoorPlawsszField
import Derived.Test.YtfebipiccpbdbaaDoorPlawstoField
import Derived.Test.YtfebipiccpbdbaaDoorPlawstoFieldS
import Derived.Test.YtfebipiccpbdbaaDoorPspecFieldsOk
import Derived.Test.YtfebipiccpbdbaaDoorPspecTokenOk
import Derived.Test.YtfebipiccpbdbaaDoorPspecTrimmed
import Derived.Test.YtfebipiccpbdbaaDoorPspecVisibleOk
import Derived.Test.YtfebipiccpbdbaaDoorPspecl1Blank
import Derived.Test.YtfebipiccpbdbaaDoorPspecl4Field
import Derived.Test.YtfebipiccpbdbaaDoorPspecl4Show
import Derived.Test.YtfebipiccpbdbaaDoorRows
import Derived.Test.YtfebipiccpbdbaaDoorShelf
import Derived.Test.YtfebipiccpbdbaaDoorTie
import Derived.WalkKit
import Derived.WideShapes
/-! ## RowAidD -/
/-
  The wrap of a row that lists variables, the world's shape kept beside what it lists. No condition.
-/
namespace Go.Proofs.YtfebipiccpbdbaaDoor.RowAid
open Go
variable {H : Type} {enc : TypeId × Value → H}
theorem handed_both {a : Assume} {C : Checked} {os : Os} {f : FuncId} {fn : Func} {s : ChangeSpec} {conds : List PathCond} {apart fresh handsOn again : Bool} {X : World → Array Value → Prop}
    (hX : ∀ (w w' : World) (args : Array Value), w.heap = w'.heap → X w args → X w' args)
    (own : ownKnob C.prog.godebug = none) (started : os.Started) (noInit : C.prog.inits.idxOf? f = none) (hfn : C.prog.funcs[f]? = some fn)
    (witness : ∃ (w : World) (tape : Tape) (i : Input), w.os = os ∧ (w.forCall tape i).Shaped C.prog ∧ i.vars = [] ∧ Input.okWide C.prog (w.forCall tape i) .any w.heap.size f i ∧
      ((s.pre enc C.prog fn conds apart (w.forCall tape i).memory i.args ∧ X (w.forCall tape i).memory i.args) ∧ sizedMet enc C.prog fn (OpenSpec.ofChange s) apart (w.forCall tape i).memory i.args) ∧ a.holds C.prog (lone (Frame.enter C.prog f i.args .normal) [] (w.forCall tape i)))
    (contract : ∀ (W : World) (base : Nat) (args : Array Value) (ds gs : List (DataW H)) (before : List MemPlace),
      (∀ (j : Nat) t v, fn.params[j]? = some t → args[j]? = some v → Value.okWide C.prog W .any base t v) →
      DataW.Whole enc C.prog fn.params.toList s.vars apart W args.toList ds gs before →
      conds.all (PathCond.test C.prog ⟨fn.params.toList, ds, s.plain.varTypes C.prog, gs⟩) = true →
      (DataW.weightsEach C.prog (fn.params.toList ++ s.plain.varTypes C.prog) (ds ++ gs)).all (· ≤ reachBytes) = true → X W args → W.ShapedOpen C.prog →
      a.holds C.prog (lone (Frame.enter C.prog f args .normal) [] W) →
      Calls C.prog f args W fun e W' => ∃ v, e = .returned v ∧ s.post enc C.prog fn apart fresh handsOn again W args v W') :
    ReturnsInHanded a C os f .any (fun w args => (s.pre enc C.prog fn conds apart w args ∧ X w args) ∧ sizedMet enc C.prog fn (OpenSpec.ofChange s) apart w args) (s.post enc C.prog fn apart fresh handsOn again) := by
  refine returnsInHanded_of_calls own started noInit witness ?_
  intro w tape i _ hsh _ hok hpre hholds
  obtain ⟨_, _, _, fn', hfn', _, _, _, _, hval⟩ := hok
  have e : fn' = fn := Option.some.inj (hfn'.symm.trans hfn)
  subst e
  obtain ⟨⟨⟨ds, gs, before, hw, hc⟩, hx⟩, hz⟩ := hpre
  have hw' := DataW.Whole.of_heap (w' := w.forCall tape i) (by rfl) hw
  refine (contract (w.forCall tape i) w.heap.size i.args ds gs before hval hw' hc (hz.weights hw) (hX _ _ _ (by rfl) hx) hsh hholds).mono fun e W' ⟨v, he, hp⟩ => ?_
  subst he
  exact ChangeSpec.post_blind hp
end Go.Proofs.YtfebipiccpbdbaaDoor.RowAid
/-! ## GBuilder -/
/-
  strings.Builder at this program: what it checks ahead of each write, and a string written behind what it holds. Condition: the call's own builder, at most 2^47 bytes.
-/
namespace Go.Proofs.YtfebipiccpbdbaaDoor.P
set_option linter.unusedVariables false
set_option linter.unusedSimpArgs false
open Go.RowKit Go.Lib Go.Proofs.YtfebipiccpbdbaaDoorW.PrintWords Go.Proofs.YtfebipiccpbdbaaDoorW.PrintLast Go.Proofs.YtfebipiccpbdbaaDoorW.PrintMore

/-- A builder that the call has made, holding bytes. -/
abbrev Bld (B b : Nat) (l : List UInt8) (w : World) : Prop := Lib.IsBuilder 92 5 B b (Lib.byteCells l) w
theorem bld_size : (Tryd.prog.info? 92).map (·.size) = some 2 := by kernel_rfl
theorem bld_lies : liesAt Tryd.prog Tryd.prog.depth 92 (2 / Tryd.prog.cellsOf 92) 0 92 1 = true := by kernel_rfl
theorem byte_info : (Tryd.prog.info? 5).map (fun i => (i.zero, i.size, i.bytes)) = some (some (.int .u8 0), 1, 1) := by kernel_rfl

set_option maxHeartbeats 1000000 in
set_option maxRecDepth 100000 in
theorem builder_check_used (b : Nat) (w : World) (h0 : w.cell? ⟨b, 0, none⟩ = some (.pointer (some ⟨b, 0, none⟩))) :
    Calls Tryd.prog 112 #[.pointer (some ⟨b, 0, none⟩)] w fun e w' => e = .returned (.tuple #[]) ∧ w' = w := by
  obtain ⟨j, hj, _⟩ := Option.map_eq_some_iff.1 bld_size
  go_enter Tryd.func112, Tryd.ntmps112
  go_wp2
  rw [Lib.run_neq_ptr_same w _ Tryd.underlying90 hj]
  go_wp2
  go_end0
  exact ⟨rfl, rfl⟩
set_option maxHeartbeats 1000000 in
set_option maxRecDepth 100000 in
theorem builder_check_fresh (b : Nat) (w : World) (h0 : w.cell? ⟨b, 0, none⟩ = some (.pointer none)) (hsh : w.shape? b = some (92, 2)) (hfz : w.frozen? ⟨b, 0, none⟩ = false) :
    Calls Tryd.prog 112 #[.pointer (some ⟨b, 0, none⟩)] w fun e w' => e = .returned (.tuple #[]) ∧ w' = w.setCell ⟨b, 0, none⟩ (.pointer (some ⟨b, 0, none⟩)) := by
  obtain ⟨j, hj, hjs⟩ := Option.map_eq_some_iff.1 bld_size
  go_enter Tryd.func112, Tryd.ntmps112
  go_wp2
  rw [Lib.run_to_unsafe w ⟨b, 0, none⟩ Tryd.underlying90 Tryd.underlying124 hj (by rw [hjs]; decide) hsh (Nat.zero_lt_succ 1)]
  simp only [Result.andThen]
  rw [Oper.upon_value]
  go_wp2
  rw [run_callFunc_extern Tryd.func126 (by kernel_rfl) (by kernel_rfl) (by kernel_rfl) (e := Extern.AbiNoEscape.same) (by kernel_rfl)]
  rw [Lib.run_noEscape]
  simp only [Result.andThen]
  rw [Oper.upon_value]
  go_wp2
  rw [Lib.run_from_unsafe w ⟨b, 0, none⟩ Tryd.underlying124 Tryd.underlying90 hj hsh bld_lies]
  simp only [Result.andThen]
  rw [Oper.upon_value]
  go_wp2
  go_end0
  exact ⟨rfl, rfl⟩
theorem builder_check (B b : Nat) (bs : List Value) (w : World) (h : Lib.IsBuilder 92 5 B b bs w) :
    Calls Tryd.prog 112 #[.pointer (some ⟨b, 0, none⟩)] w fun e w' => e = .returned (.tuple #[]) ∧ (Lib.BuilderAt 92 5 B b (.pointer (some ⟨b, 0, none⟩)) bs w' ∧ Below B w w') := by
  rcases h with h | h
  · refine (builder_check_fresh b w h.cell0 h.shape h.frozen0).mono ?_
    rintro e w' ⟨rfl, rfl⟩
    exact ⟨rfl, h.used _, (Below.refl B w).setCell (p := ⟨b, 0, none⟩) h.1 _⟩
  · refine (builder_check_used b w h.cell0).mono ?_
    rintro e w' ⟨rfl, rfl⟩
    exact ⟨rfl, h, Below.refl B _⟩
set_option maxHeartbeats 2000000 in
set_option maxRecDepth 100000 in
theorem builder_write (B b : Nat) (l : List UInt8) (s : ByteArray) (w : World) (h : Bld B b l w) (hlen : l.length + s.size ≤ 140737488355328) (hBw : B ≤ w.heap.size) :
    Calls Tryd.prog 88 #[.pointer (some ⟨b, 0, none⟩), .string s] w fun e w' => e = .returned (.tuple #[.int .i64 s.size, .nilIface]) ∧ (Bld B b (l ++ s.data.toList) w' ∧ Below B w w') := by
  obtain ⟨i0, hi, hzz⟩ := Option.map_eq_some_iff.1 byte_info
  simp only [Prod.mk.injEq] at hzz
  obtain ⟨hz0, hz1, hz2⟩ := hzz
  have hbl : (Lib.byteCells l).length = l.length := Lib.byteCells_length l
  have hc := builder_check B b (Lib.byteCells l) w h
  clear h
  go_enter Tryd.func88, Tryd.ntmps88
  go_wp2_with (go_at_call 112; refine hc.mono ?_)
  rintro e w1 ⟨rfl, h1, hb1⟩
  obtain ⟨hB, v, hbk, hown, hne⟩ := h1
  have c0 : w1.cell? ⟨b, 0, none⟩ = some (.pointer (some ⟨b, 0, none⟩)) := by rw [Lib.cell_of_heap hbk]; rfl
  have c1 : w1.cell? ⟨b, 1, none⟩ = some v := by rw [Lib.cell_of_heap hbk]; rfl
  go_wp2_with (at_builtin; refine Lib.wpList_append_own_string _ rfl _ _ 38 9 rfl B 5 i0 Tryd.underlying38 Tryd.underlying9 hi hz0 hz1 hz2 _ _ _ rfl hown s rfl ?c3 ?c4 ?c5 ?_)
  case c3 => unfold maxLen; omega
  case c4 => omega
  case c5 => have := hb1.size; omega
  intro v' w2 hown' hgrow _
  have hlt : b < w1.heap.size := by
    rcases Nat.lt_or_ge b w1.heap.size with h' | h'
    · exact h'
    · simp [Array.getElem?_eq_none h'] at hbk
  have hb2 : w2.heap[b]? = some (.cells #[.pointer (some ⟨b, 0, none⟩), v] 92 (0, 0)) := by
    rw [hgrow.block b hlt (fun e => hne e.symm)]
    exact hbk
  have d0 : w2.cell? ⟨b, 0, none⟩ = some (.pointer (some ⟨b, 0, none⟩)) := by rw [Lib.cell_of_heap hb2]; rfl
  have d1 : w2.cell? ⟨b, 1, none⟩ = some v := by rw [Lib.cell_of_heap hb2]; rfl
  have f1 : w2.frozen? ⟨b, 1, none⟩ = false := Lib.frozen_of_heap hb2 1
  obtain ⟨ao, n', cap, rfl⟩ : ∃ ao n' cap, v' = .slice ao n' cap := by
    rcases hown'.2 with ⟨hv, _⟩ | ⟨g, cap, cur, hv, _⟩
    · exact ⟨_, _, _, hv⟩
    · exact ⟨_, _, _, hv⟩
  go_wp2
  go_ret2
  refine ⟨rfl, .inr ?_, ?_⟩
  · rw [Lib.byteCells_append, ← Lib.strCells_eq]
    exact Lib.BuilderAt.put (T := 92) (e := 5) hB hb2 (bs' := Lib.byteCells l ++ Lib.strCells s) (by simpa [Lib.strCells_length, Lib.byteCells_length] using hown') (by decide)
  · exact (hb1.grown hgrow (by have := hb1.size; omega) (fun k hk => (hown.lt k hk).1)).setCell (p := ⟨b, 1, none⟩) hB _
theorem bld_alloc {B b : Nat} {l : List UInt8} {w : World} (h : Bld B b l w) (o : Obj) : Bld B b l (w.alloc o) := by
  have hk : ∀ p, Lib.BuilderAt 92 5 B b p (Lib.byteCells l) w → Lib.BuilderAt 92 5 B b p (Lib.byteCells l) (w.alloc o) := by
    rintro p ⟨hB, v, hb, hown, hne⟩
    refine ⟨hB, v, ?_, hown.alloc o, hne⟩
    rw [Lib.alloc_old w o b (Lib.BuilderAt.lt ⟨hB, v, hb, hown, hne⟩)]
    exact hb
  exact h.imp (hk _) (hk _)
theorem bld_drew {B b : Nat} {l : List UInt8} {w : World} (h : Bld B b l w) : Bld B b l w.drew := h
theorem bld_below {B b : Nat} {l : List UInt8} {w w' : World} (h : Bld B b l w) (hb : Below w.heap.size w w') : Bld B b l w' := by
  have hk : ∀ p, Lib.BuilderAt 92 5 B b p (Lib.byteCells l) w → Lib.BuilderAt 92 5 B b p (Lib.byteCells l) w' := by
    rintro p ⟨hB, v, hbk, hown, hne⟩
    refine ⟨hB, v, ?_, own_move hown (fun k hk => hb.block k (hown.lt k hk).2), hne⟩
    rw [hb.block b (Lib.BuilderAt.lt ⟨hB, v, hbk, hown, hne⟩)]
    exact hbk
  exact h.imp (hk _) (hk _)
end Go.Proofs.YtfebipiccpbdbaaDoor.P
/-! ## GimplshowFields -/
/-
  impl.showFields: the lines of fields, out of a strings.Builder. Condition: at most 2^46 bytes in all.
-/
namespace Go.Proofs.YtfebipiccpbdbaaDoor.P
set_option linter.unusedVariables false
set_option linter.unusedSimpArgs false
open Go.RowKit Go.Lib Go.Proofs.YtfebipiccpbdbaaDoorW.PrintWords Go.Proofs.YtfebipiccpbdbaaDoorW.PrintLast Go.Proofs.YtfebipiccpbdbaaDoorW.PrintMore
attribute [local go_sem] max2_int min2_int max_two min_two max_three min_three max_four min_four

def lineL (x : S67) : List UInt8 := x.f0.data.toList ++ [58, 32] ++ x.f1.data.toList ++ [13, 10]
def showL (l : List S67) : List UInt8 := l.flatMap lineL
def impl_showFields.f (l0 : List S67) : Option ByteArray :=
  if (showL l0).length ≤ 70368744177664 then some ⟨(showL l0).toArray⟩ else none
theorem showL_next (l : List S67) (k : Nat) (h : k < l.length) : showL (l.take (k + 1)) = showL (l.take k) ++ lineL (l[k]'h) := by
  unfold showL
  rw [List.take_add_one, List.getElem?_eq_getElem h, List.flatMap_append]
  simp
theorem showL_le (l : List S67) (k : Nat) : (showL (l.take k)).length ≤ (showL l).length := by
  have : showL l = showL (l.take k) ++ showL (l.drop k) := by
    unfold showL
    rw [← List.flatMap_append, List.take_append_drop]
  rw [this, List.length_append]
  omega
theorem lineL_length (x : S67) : (lineL x).length = x.f0.size + x.f1.size + 4 := by
  unfold lineL
  simp only [List.length_append, List.length_cons, List.length_nil, Array.length_toList]
  show x.f0.size + 2 + x.f1.size + 2 = _
  omega
theorem line_data (x : S67) : (x.f0 ++ (⟨#[58, 32]⟩ : ByteArray) ++ x.f1 ++ (⟨#[13, 10]⟩ : ByteArray)).data.toList = lineL x := by
  unfold lineL
  simp [ByteArray.data_append]
theorem rd_T_get2 (l : List S67) (k : Nat) (h : k < l.length) : rd_T67 l (k : Int) = l[k]'h := by
  simp [rd_T67, List.getD_eq_getElem?_getD, h]

set_option maxHeartbeats 8000000 in
set_option maxRecDepth 100000 in
theorem impl_showFields.calls (A0 : Option Addr) (c0 : Nat) (l0 : List S67) (r : ByteArray) (w : World) (hr0 : Kd.C k67 w A0 l0.length l0) (hc0 : l0.length ≤ c0) (h : impl_showFields.f l0 = some r) :
    Calls Tryd.prog 55 #[.slice A0 l0.length c0] w fun e w' => e = .returned (.string r) ∧ Below w.heap.size w w' := by
  unfold impl_showFields.f at h
  split at h
  case isFalse => cases h
  rename_i hlen
  obtain rfl := Option.some.inj h
  clear h
  have hu67 := Tryd.underlying67
  have hbig := hr0.2.1
  have HR0 := Aside0.mk hr0
  clear hr0
  have HLEN := Aside0.mk hlen
  clear hlen
  have HB := Aside0.mk (Below.refl w.heap.size w)
  have BN := Aside0.mk (Lib.fresh_isBuilder 92 5 w)
  go_enter Tryd.func55, Tryd.ntmps55
  go_wp2
  go_loopg [9] l0.length (fun gg v9 wr => ∃ kk : Nat, kk ≤ l0.length ∧ l0.length - kk ≤ gg ∧ v9 = .int .i64 kk ∧ Aside0 (Bld w.heap.size w.heap.size (showL (l0.take kk)) wr) ∧ Aside0 (Below w.heap.size w wr))
  case atStart => exact ⟨0, Nat.zero_le _, by omega, rfl, ⟨BN.out⟩, ⟨below_alloc HB.out _⟩⟩
  case round =>
    clear HB BN
    obtain ⟨kk, hkk, hg, rfl, BL, HB⟩ := hrel
    by_cases hlt : kk < l0.length
    · have hltz : (kk : Int) < (l0.length : Int) := by omega
      have h0z : (0 : Int) ≤ (kk : Int) := by omega
      obtain ⟨ad, e, hx0, hx1⟩ := at_T67 HR0.out (kk : Int) h0z hltz
      subst e
      rw [rd_T_get2 l0 kk hlt] at hx0 hx1
      simp only [Int.toNat_natCast] at hx0 hx1
      have TF := Aside0.mk (showL_next l0 kk hlt)
      have hsz : (showL (l0.take kk)).length + (lineL (l0[kk]'hlt)).length ≤ 70368744177664 := by
        have := showL_le l0 (kk + 1)
        rw [TF.out, List.length_append] at this
        exact Nat.le_trans this HLEN.out
      rw [lineL_length] at hsz
      have LD := Aside0.mk (line_data (l0[kk]'hlt))
      generalize l0[kk]'hlt = x0 at hx0 hx1 TF hsz LD
      generalize showL (l0.take kk) = xs at BL TF hsz
      replace hx0 := (HB.out.cell (World.block_lt_of_cell? w _ hx0)).trans hx0
      replace hx1 := (HB.out.cell (World.block_lt_of_cell? w _ hx1)).trans hx1
      have s1 : ¬ 9223372036854775807 < x0.f0.size + 2 := by omega
      have s2 : ¬ 9223372036854775807 < (x0.f0 ++ (⟨#[58, 32]⟩ : ByteArray)).size + x0.f1.size := by
        rw [ByteArray.size_append, show (⟨#[58, 32]⟩ : ByteArray).size = 2 from rfl]; omega
      have s3 : ¬ 9223372036854775807 < (x0.f0 ++ (⟨#[58, 32]⟩ : ByteArray) ++ x0.f1).size + 2 := by
        rw [ByteArray.size_append, ByteArray.size_append, show (⟨#[58, 32]⟩ : ByteArray).size = 2 from rfl]; omega
      have s2n : (9223372036854775807 < x0.f0.size + 2 + x0.f1.size) = False := eq_false (by omega)
      have s3n : (9223372036854775807 < x0.f0.size + 2 + x0.f1.size + 2) = False := eq_false (by omega)
      have SS := Aside0.mk hsz
      clear hsz
      have hcf := builder_write w.heap.size w.heap.size xs (x0.f0 ++ (⟨#[58, 32]⟩ : ByteArray) ++ x0.f1 ++ (⟨#[13, 10]⟩ : ByteArray)) _ (bld_alloc BL.out (.cells #[.string x0.f0, .string x0.f1] 67)) (by
        have := SS.out
        rw [ByteArray.size_append, ByteArray.size_append, ByteArray.size_append, show (⟨#[58, 32]⟩ : ByteArray).size = 2 from rfl, show (⟨#[13, 10]⟩ : ByteArray).size = 2 from rfl]; omega) (Nat.le_trans HB.out.size (by simp))
      rw [LD.out, ← TF.out] at hcf
      go_wp2_with (go_at_call 88; refine hcf.mono ?_; rintro e w5 ⟨rfl, hbl5, hb5⟩; have BL5 := Aside0.mk hbl5; have HB5 := Aside0.mk ((below_alloc HB.out _).trans hb5); clear hbl5 hb5)
      go_roundg (l0.length - (kk + 1))
      case measure => omega
      case rel => exact ⟨kk + 1, by omega, by omega, by go_num, BL5, HB5⟩
    · have hltz : ¬ (kk : Int) < (l0.length : Int) := by omega
      have : kk = l0.length := by omega
      subst this
      have hO := BL.out
      rw [List.take_length] at hO
      have hcs := Tryd.Builder_String_any w.heap.size w.heap.size (showL l0) _ hO HB.out.size
      go_wp2_with (go_at_call 89; refine hcs.mono ?_; rintro e w5 ⟨rfl, hb5⟩)
      go_ret
      exact ⟨rfl, HB.out.trans hb5⟩
end Go.Proofs.YtfebipiccpbdbaaDoor.P
/-! ## PimplFieldsOk1 -/
/- Functions of the Go program as Lean functions, and proofs that each Go function comes to its Lean function's answers; conditions: those that each theorem states. Written by this session's program hprint.py, which drives the kit's printer. -/
namespace Go.Proofs.YtfebipiccpbdbaaDoor.P
open Go.RowKit Go.Proofs.YtfebipiccpbdbaaDoorW.PrintWords Go.Proofs.YtfebipiccpbdbaaDoorW.PrintLast Go.Proofs.YtfebipiccpbdbaaDoorW.PrintMore
attribute [local go_sem] max2_int min2_int max_two min_two max_three min_three max_four min_four   -- for this text's walks alone
set_option linter.unusedVariables false
set_option linter.unusedSimpArgs false

/-! ### impl_FieldsOk_1: function 51 -/
def impl_FieldsOk_1.f (a0_0 : ByteArray) (a0_1 : ByteArray) : Option (Bool) := (impl_isField.f a0_0 a0_1).bind fun t102 => (some (!t102))
set_option maxHeartbeats 8000000 in
set_option maxRecDepth 100000 in
theorem impl_FieldsOk_1.calls (a0_0 : ByteArray) (a0_1 : ByteArray) (r : Bool) (w : World) (h : impl_FieldsOk_1.f a0_0 a0_1 = some r) :
    Calls Tryd.prog 51 #[.agg #[.string a0_0, .string a0_1]] w fun e w' => e = .returned (.bool r) ∧ Below w.heap.size w w' := by
  have hu67 := Tryd.underlying67
  have HB := Aside0.mk (Below.refl w.heap.size w)
  have H : ((impl_isField.f a0_0 a0_1).bind fun t102 => (some (!t102))) = some r := h
  clear h
  replace H := Option.bind_eq_some_iff.mp H
  obtain ⟨t102, A20, H⟩ := H
  replace H : (some (!t102)) = some r := H
  have A2 := Aside0.mk A20
  clear A20
  obtain rfl := Option.some.inj H
  go_enter Tryd.func51, Tryd.ntmps51
  go_wp2_with (first | ((with_reducible refine gate_dst (N := 1) rfl ?_); refine box_event ?hg (N := 1) ?hd (cs := #[.string a0_0, .string a0_1]) (t := 67) ?hr ?_; (case hd => rfl); (case hg => rfl); (case hr => first | (go_simp; done) | (go_simp; rfl)); intro gb101 hg w3 hbox hb; have n0_ := Aside0.mk (below_step (by repeat (first | (with_reducible first | exact HB.out | apply below_alloc | apply pw_below_drewN | apply below_drew1) | exact HB.out)) hb); have n1_ := Aside0.mk (hbox); have n2_ := Aside0.mk ((by rw [hg]; exact (below_size (by repeat (first | (with_reducible first | exact HB.out | apply below_alloc | apply pw_below_drewN | apply below_drew1) | exact HB.out))) : w.heap.size ≤ gb101)); have n3_ := Aside0.mk ((by rw [hg]; exact (below_size (by repeat (first | (with_reducible first | exact HB.out | apply below_alloc | apply pw_below_drewN | apply below_drew1) | exact HB.out))) : w.heap.size ≤ gb101)); clear HB; have HB := n0_; have BK101 := n1_; have GW101 := n2_; have GE101 := n3_; clear n0_ n1_ n2_ n3_; clear hb hbox hg; have hcz4_0 : w3.cell? ⟨gb101, 0, none⟩ = some (.string a0_0) := (blk_cell BK101.out 0).trans rfl; have hcz4_1 : w3.cell? ⟨gb101, 1, none⟩ = some (.string a0_1) := (blk_cell BK101.out 1).trans rfl; have hfz4_0 := blk_frozen BK101.out 0; have hfz4_1 := blk_frozen BK101.out 1) | ((with_reducible refine gate_callee (f := 52) rfl ?_); refine goesL_ (some 4) rfl rfl Tryd.func52 (by kernel_rfl) rfl #[.agg #[.string a0_0, .string a0_1]] rfl (by (try simp only [List.map_toArray, List.map_cons, List.map_nil]); first | done | rfl | (simp only [List.length_drop, List.length_take]; rfl)) ?_; (with_reducible refine (impl_isField.calls a0_0 a0_1 t102 _ A2.out).mono ?_); rintro e w5 ⟨rfl, hb⟩; refine ⟨_, rfl, ?_⟩; have n0_ := Aside0.mk (blk_below (g := gb101) (o := .cells #[.string a0_0, .string a0_1] 67 (0, 0)) (by (with_reducible repeat (first | refine blk_drewN ?_ _ | refine blk_drew ?_ | refine blk_alloc ?_ _)); exact BK101.out) hb); have n1_ := Aside0.mk (below_step (by repeat (first | (with_reducible first | exact HB.out | apply below_alloc | apply pw_below_drewN | apply below_drew1 | refine below_set ?_ GE101.out) | exact HB.out)) hb); clear BK101; clear HB; have BK101 := n0_; have HB := n1_; clear n0_ n1_; (try clear hb); (try clear hb2); (try clear hk); (try clear hi)))
  go_ret
  exact ⟨by first | rfl | (simp [errW_none, errW_some] <;> rfl) | (simp [*, errW_none, errW_some] <;> rfl), by repeat (first | (with_reducible first | exact HB.out | apply below_alloc | apply pw_below_drewN | apply below_drew1 | refine below_set ?_ GE101.out) | exact HB.out)⟩

end Go.Proofs.YtfebipiccpbdbaaDoor.P
/-! ## GContainsField -/
/-
  slices.ContainsFunc over fields, at the predicate that the program hands it: does one of the fields meet it? No condition.
-/
namespace Go.Proofs.YtfebipiccpbdbaaDoor.P
set_option linter.unusedVariables false
set_option linter.unusedSimpArgs false
open Go.RowKit Go.Lib Go.Shelf Go.Proofs.YtfebipiccpbdbaaDoorW.PrintWords Go.Proofs.YtfebipiccpbdbaaDoorW.PrintLast Go.Proofs.YtfebipiccpbdbaaDoorW.PrintMore

theorem ifField_empty (A0 : Option Addr) (c0 : Nat) (fv : Value) (w : World) : Calls Tryd.prog 86 #[.slice A0 0 c0, fv] w fun e w' => e = .returned (.int .i64 (-1)) ∧ w' = w := by
  go_enter Tryd.func86, Tryd.ntmps86
  go_wp2
  go_loopg [5, 8] 0 (fun _ _ s8 wr => s8 = .int .i64 0 ∧ wr = w)
  case atStart => exact ⟨rfl, rfl⟩
  case round =>
    obtain ⟨rfl, rfl⟩ := hrel
    go_wp2
    go_ret
    exact ⟨rfl, rfl⟩
theorem cfField_empty (A0 : Option Addr) (c0 : Nat) (fv : Value) (w : World) : Calls Tryd.prog 50 #[.slice A0 0 c0, fv] w fun e w' => e = .returned (.bool false) ∧ w' = w := by
  have h := ifField_empty A0 c0 fv w
  go_enter Tryd.func50, Tryd.ntmps50
  go_wp2_with (go_at_call 86; refine h.mono ?_; rintro e w' ⟨rfl, rfl⟩)
  go_ret
  exact ⟨rfl, rfl⟩
/-- A predicate over fields, told at those fields at which its function answers. -/
theorem cfField_any (g : Nat) (f : S67 → Option Bool) (eg : ∀ args w, (callFunc g args).run Tryd.prog w = .ok (.enter g args) w)
    (hf : ∀ (x : S67) (r : Bool) (w : World), f x = some r → Calls Tryd.prog g #[.agg #[.string x.f0, .string x.f1]] w fun e w' => e = .returned (.bool r) ∧ Below w.heap.size w w')
    (A0 : Option Addr) (c0 : Nat) (l0 : List S67) (w : World) (hr0 : Kd.C k67 w A0 l0.length l0) (hall : ∀ x ∈ l0, (f x).isSome = true) :
    Calls Tryd.prog 50 #[.slice A0 l0.length c0, .func (.func g) #[] #[]] w fun e w' => e = .returned (.bool (l0.any fun x => f x == some true)) ∧ Below w.heap.size w w' := by
  by_cases h0 : l0 = []
  · subst h0
    refine (cfField_empty A0 c0 _ w).mono ?_
    rintro e w' ⟨rfl, rfl⟩
    exact ⟨rfl, Below.refl _ _⟩
  · obtain ⟨_, hbig, hcells⟩ := hr0
    have hpos : 0 < l0.length := List.length_pos_iff.2 h0
    obtain ⟨ad, rfl, hc⟩ := hcells hpos
    let α := (x : S67) ×' (f x).isSome = true
    let zs : List α := l0.attach.map fun x => ⟨x.1, hall x.1 x.2⟩
    have hzl : zs.length = l0.length := by simp [zs]
    have hzat : ∀ j (hj : j < zs.length), (zs[j]'hj).1 = l0[j]'(by rw [← hzl]; exact hj) := by
      intro j hj
      simp [zs]
    haveI : Inhabited α := ⟨zs[0]'(by rw [hzl]; exact hpos)⟩
    have hcell : ∀ j (hj : j < l0.length), w.cell? (ad.add (j * 2)) = some (.string (l0[j]'hj).f0) ∧ w.cell? (ad.add (j * 2 + 1)) = some (.string (l0[j]'hj).f1) := by
      intro j hj
      obtain ⟨c, hl, hK, hi⟩ := hc j _ (List.getElem?_eq_getElem hj)
      obtain rfl := k67_open hK
      exact ⟨hi 0 _ rfl, hi 1 _ rfl⟩
    have hsp : ad.spot = none ∧ ad.block < w.heap.size := by
      have h := (hcell 0 hpos).1
      unfold World.cell? at h
      have hb : (ad.add (0 * 2)).block = ad.block := rfl
      rw [hb] at h
      cases hh : w.heap[ad.block]? with
      | none => rw [hh] at h; cases h
      | some o =>
        refine ⟨?_, (Array.getElem?_eq_some_iff.1 hh).1⟩
        rw [hh] at h
        cases o with
        | cells c t z =>
          have hs : (ad.add (0 * 2)).spot = ad.spot := rfl
          rw [hs] at h
          cases hq : ad.spot with
          | none => rfl
          | some q => rw [hq] at h; simp at h
        | _ => cases h
    obtain ⟨b, off, sp⟩ := ad
    obtain ⟨rfl, hlt⟩ : sp = none ∧ b < w.heap.size := hsp
    have hcon := AnyQ.slices_ContainsFunc Tryd.layCFf 2 (by intro w; kernel_rfl) (by intro w; kernel_rfl) (fun x : α => [.string x.1.f0, .string x.1.f1]) (fun _ => rfl) (fun x : α => (f x.1) == some true) g #[] eg b off l0.length c0 zs w
      (fun W x hb => by
        obtain ⟨x, hx⟩ := x
        obtain ⟨r, hr⟩ := Option.isSome_iff_exists.1 hx
        refine (hf x r W hr).mono ?_
        rintro e w' ⟨rfl, hd⟩
        refine ⟨?_, hb.trans (hd.mono hb.size)⟩
        show _ = Ending.returned (Value.bool (f x == some true))
        rw [hr]
        cases r <;> rfl)
      (by rw [hzl]; exact Nat.le_refl _) hbig hlt
      (fun j hj i v hv => by
        have hj' : j < l0.length := by rw [← hzl]; exact hj
        have e : zs[j]! = zs[j]'hj := getElem!_pos zs j hj
        rw [e, hzat j hj] at hv
        obtain ⟨h1, h2⟩ := hcell j hj'
        match i, hv with
        | 0, hv =>
          obtain rfl := Option.some.inj hv
          rw [Go.Lib.add_plain] at h1
          exact h1
        | 1, hv =>
          obtain rfl := Option.some.inj hv
          rw [Go.Lib.add_plain] at h2
          exact h2)
    refine hcon.mono ?_
    rintro e w' ⟨rfl, hd⟩
    refine ⟨?_, hd⟩
    congr 2
    rw [List.take_of_length_le (by rw [hzl]; exact Nat.le_refl _)]
    simp [zs, List.any_map, Function.comp_def]
def impl_Field.f (l0 : List S67) (a1 : Nat) : Option Bool :=
  if a1 = 51 ∧ l0.all (fun x => (impl_FieldsOk_1.f x.f0 x.f1).isSome) = true then some (l0.any fun x => impl_FieldsOk_1.f x.f0 x.f1 == some true) else none
theorem impl_Field.calls (A0 : Option Addr) (c0 : Nat) (l0 : List S67) (a1 : Nat) (r : Bool) (w : World) (hr0 : Kd.C k67 w A0 l0.length l0) (hc0 : l0.length ≤ c0) (h : impl_Field.f l0 a1 = some r) :
    Calls Tryd.prog 50 #[.slice A0 l0.length c0, .func (.func a1) #[] #[]] w fun e w' => e = .returned (.bool r) ∧ Below w.heap.size w w' := by
  unfold impl_Field.f at h
  split at h
  · rename_i hc
    obtain ⟨rfl, ha⟩ := hc
    obtain rfl := Option.some.inj h
    exact cfField_any 51 (fun x => impl_FieldsOk_1.f x.f0 x.f1) (enters_of Tryd.func51 (by kernel_rfl) rfl) (fun x r w h => impl_FieldsOk_1.calls x.f0 x.f1 r w h) A0 c0 l0 w hr0 (List.all_eq_true.1 ha)
  · cases h
end Go.Proofs.YtfebipiccpbdbaaDoor.P
/-! ## PimplFieldsOk -/
/- Functions of the Go program as Lean functions, and proofs that each Go function comes to its Lean function's answers; conditions: those that each theorem states. Written by this session's program hprint.py, which drives the kit's printer. -/
namespace Go.Proofs.YtfebipiccpbdbaaDoor.P
open Go.RowKit Go.Proofs.YtfebipiccpbdbaaDoorW.PrintWords Go.Proofs.YtfebipiccpbdbaaDoorW.PrintLast Go.Proofs.YtfebipiccpbdbaaDoorW.PrintMore
attribute [local go_sem] max2_int min2_int max_two min_two max_three min_three max_four min_four   -- for this text's walks alone
set_option linter.unusedVariables false
set_option linter.unusedSimpArgs false

/-! ### impl_FieldsOk: function 16 -/
def impl_FieldsOk.f (l0 : List (S67)) : Option (Bool) := if (l0.length : Int) ≤ 30 then ((impl_Field.f l0 51).bind fun t101 => (some (!t101))) else (some false)
set_option maxHeartbeats 8000000 in
set_option maxRecDepth 100000 in
theorem impl_FieldsOk.calls (A0 : Option Addr) (c0 : Nat) (l0 : List (S67)) (r : Bool) (w : World) (hr0 : Kd.C k67 w A0 l0.length l0) (hc0 : l0.length ≤ c0) (h : impl_FieldsOk.f l0 = some r) :
    Calls Tryd.prog 16 #[.slice A0 l0.length c0] w fun e w' => e = .returned (.bool r) ∧ Below w.heap.size w w' := by
  have HR0 := Aside0.mk hr0
  have HC0 := Aside0.mk hc0
  clear hr0 hc0
  have HB := Aside0.mk (Below.refl w.heap.size w)
  have H : (if (l0.length : Int) ≤ 30 then ((impl_Field.f l0 51).bind fun t101 => (some (!t101))) else (some false)) = some r := h
  clear h
  by_cases c2 : (l0.length : Int) ≤ 30
  · rw [if_pos c2] at H
    have c2b0 : decide ((l0.length : Int) ≤ 30) = true := decide_eq_true c2
    have c2b1 : decide (l0.length ≤ 30) = true := decide_eq_true (by omega)
    clear c2
    replace H := Option.bind_eq_some_iff.mp H
    obtain ⟨t101, A30, H⟩ := H
    replace H : (some (!t101)) = some r := H
    have A3 := Aside0.mk A30
    clear A30
    obtain rfl := Option.some.inj H
    go_enter Tryd.func16, Tryd.ntmps16
    go_wp2_with (first | (go_at_call 50; (with_reducible refine (impl_Field.calls _ _ l0 51 t101 _ ?side1 ?side2 A3.out).mono ?_); (case side1 => repeat (first | exact HR0.out | (with_reducible refine Kd.C_alloc ?_ _) | (with_reducible refine Kd.C_drewN ?_ _) | (with_reducible refine Kd.C_drew ?_))); (case side2 => exact HC0.out); rintro e w4 ⟨rfl, hb⟩; have n0_ := Aside0.mk (below_step (by repeat (first | (with_reducible first | exact HB.out | apply below_alloc | apply pw_below_drewN | apply below_drew1) | exact HB.out)) hb); clear HB; have HB := n0_; clear n0_; (try clear hb); (try clear hb2); (try clear hk); (try clear hi)))
    go_ret
    exact ⟨by first | rfl | (simp [errW_none, errW_some] <;> rfl) | (simp [*, errW_none, errW_some] <;> rfl), by repeat (first | (with_reducible first | exact HB.out | apply below_alloc | apply pw_below_drewN | apply below_drew1) | exact HB.out)⟩
  · rw [if_neg c2] at H
    have c2b0 : decide ((l0.length : Int) ≤ 30) = false := decide_eq_false c2
    have c2b1 : decide (l0.length ≤ 30) = false := decide_eq_false (by omega)
    clear c2
    obtain rfl := Option.some.inj H
    go_enter Tryd.func16, Tryd.ntmps16
    go_wp2
    go_ret
    exact ⟨by first | rfl | (simp [errW_none, errW_some] <;> rfl) | (simp [*, errW_none, errW_some] <;> rfl), by repeat (first | (with_reducible first | exact HB.out | apply below_alloc | apply pw_below_drewN | apply below_drew1) | exact HB.out)⟩

end Go.Proofs.YtfebipiccpbdbaaDoor.P
/-! ## PimplShowFields -/
/- Functions of the Go program as Lean functions, and proofs that each Go function comes to its Lean function's answers; conditions: those that each theorem states. Written by this session's program hprint.py, which drives the kit's printer. -/
namespace Go.Proofs.YtfebipiccpbdbaaDoor.P
open Go.RowKit Go.Proofs.YtfebipiccpbdbaaDoorW.PrintWords Go.Proofs.YtfebipiccpbdbaaDoorW.PrintLast Go.Proofs.YtfebipiccpbdbaaDoorW.PrintMore
attribute [local go_sem] max2_int min2_int max_two min_two max_three min_three max_four min_four   -- for this text's walks alone
set_option linter.unusedVariables false
set_option linter.unusedSimpArgs false

/-! ### impl_ShowFields: function 19 -/
def impl_ShowFields.f (l0 : List (S67)) : Option (ByteArray) := (impl_FieldsOk.f l0).bind fun t101 => (if t101 = true then ((impl_showFields.f l0).bind fun t102 => (some t102)) else (some (⟨#[]⟩ : ByteArray)))
set_option maxHeartbeats 8000000 in
set_option maxRecDepth 100000 in
theorem impl_ShowFields.calls (A0 : Option Addr) (c0 : Nat) (l0 : List (S67)) (r : ByteArray) (w : World) (hr0 : Kd.C k67 w A0 l0.length l0) (hc0 : l0.length ≤ c0) (h : impl_ShowFields.f l0 = some r) :
    Calls Tryd.prog 19 #[.slice A0 l0.length c0] w fun e w' => e = .returned (.string r) ∧ Below w.heap.size w w' := by
  have HR0 := Aside0.mk hr0
  have HC0 := Aside0.mk hc0
  clear hr0 hc0
  have HB := Aside0.mk (Below.refl w.heap.size w)
  have H : ((impl_FieldsOk.f l0).bind fun t101 => (if t101 = true then ((impl_showFields.f l0).bind fun t102 => (some t102)) else (some (⟨#[]⟩ : ByteArray)))) = some r := h
  clear h
  replace H := Option.bind_eq_some_iff.mp H
  obtain ⟨t101, A20, H⟩ := H
  replace H : (if t101 = true then ((impl_showFields.f l0).bind fun t102 => (some t102)) else (some (⟨#[]⟩ : ByteArray))) = some r := H
  have A2 := Aside0.mk A20
  clear A20
  by_cases c3 : t101 = true
  · subst c3
    have H1 : ((impl_showFields.f l0).bind fun t102 => (some t102)) = some r := by rw [if_pos rfl] at H; exact H
    clear H
    have H := H1
    clear H1
    replace H := Option.bind_eq_some_iff.mp H
    obtain ⟨t102, A40, H⟩ := H
    replace H : (some t102) = some r := H
    have A4 := Aside0.mk A40
    clear A40
    obtain rfl := Option.some.inj H
    go_enter Tryd.func19, Tryd.ntmps19
    go_wp2_with (first | ((with_reducible refine gate_callee (f := 16) rfl ?_); refine goesL_ (some 4) rfl rfl Tryd.func16 (by kernel_rfl) rfl #[.slice A0 l0.length c0] rfl (by (try simp only [List.map_toArray, List.map_cons, List.map_nil]); first | done | rfl | (simp only [List.length_drop, List.length_take]; rfl)) ?_; (with_reducible refine (impl_FieldsOk.calls _ _ l0 true _ ?side1 ?side2 A2.out).mono ?_); (case side1 => repeat (first | exact HR0.out | (with_reducible refine Kd.C_alloc ?_ _) | (with_reducible refine Kd.C_drewN ?_ _) | (with_reducible refine Kd.C_drew ?_))); (case side2 => exact HC0.out); rintro e w5 ⟨rfl, hb⟩; refine ⟨_, rfl, ?_⟩; have n0_ := Aside0.mk (below_step (by repeat (first | (with_reducible first | exact HB.out | apply below_alloc | apply pw_below_drewN | apply below_drew1) | exact HB.out)) hb); clear HB; have HB := n0_; clear n0_; (try clear hb); (try clear hb2); (try clear hk); (try clear hi)) | ((with_reducible refine gate_callee (f := 55) rfl ?_); refine goesL_ (some 7) rfl rfl Tryd.func55 (by kernel_rfl) rfl #[.slice A0 l0.length c0] rfl (by (try simp only [List.map_toArray, List.map_cons, List.map_nil]); first | done | rfl | (simp only [List.length_drop, List.length_take]; rfl)) ?_; (with_reducible refine (impl_showFields.calls _ _ l0 t102 _ ?side1 ?side2 A4.out).mono ?_); (case side1 => repeat (first | exact (Kd.C_below HR0.out HB.out) | (with_reducible refine Kd.C_alloc ?_ _) | (with_reducible refine Kd.C_drewN ?_ _) | (with_reducible refine Kd.C_drew ?_))); (case side2 => exact HC0.out); rintro e w6 ⟨rfl, hb⟩; refine ⟨_, rfl, ?_⟩; have n0_ := Aside0.mk (below_step (by repeat (first | (with_reducible first | exact HB.out | apply below_alloc | apply pw_below_drewN | apply below_drew1) | exact HB.out)) hb); clear HB; have HB := n0_; clear n0_; (try clear hb); (try clear hb2); (try clear hk); (try clear hi)))
    go_ret
    exact ⟨by first | rfl | (simp [errW_none, errW_some] <;> rfl) | (simp [*, errW_none, errW_some] <;> rfl), by repeat (first | (with_reducible first | exact HB.out | apply below_alloc | apply pw_below_drewN | apply below_drew1) | exact HB.out)⟩
  · replace c3 := Bool.eq_false_iff.mpr c3
    subst c3
    have H1 : (some (⟨#[]⟩ : ByteArray)) = some r := by rw [if_neg (show ¬ (false = true) by decide)] at H; exact H
    clear H
    have H := H1
    clear H1
    obtain rfl := Option.some.inj H
    go_enter Tryd.func19, Tryd.ntmps19
    go_wp2_with (first | ((with_reducible refine gate_callee (f := 16) rfl ?_); refine goesL_ (some 4) rfl rfl Tryd.func16 (by kernel_rfl) rfl #[.slice A0 l0.length c0] rfl (by (try simp only [List.map_toArray, List.map_cons, List.map_nil]); first | done | rfl | (simp only [List.length_drop, List.length_take]; rfl)) ?_; (with_reducible refine (impl_FieldsOk.calls _ _ l0 false _ ?side1 ?side2 A2.out).mono ?_); (case side1 => repeat (first | exact HR0.out | (with_reducible refine Kd.C_alloc ?_ _) | (with_reducible refine Kd.C_drewN ?_ _) | (with_reducible refine Kd.C_drew ?_))); (case side2 => exact HC0.out); rintro e w7 ⟨rfl, hb⟩; refine ⟨_, rfl, ?_⟩; have n0_ := Aside0.mk (below_step (by repeat (first | (with_reducible first | exact HB.out | apply below_alloc | apply pw_below_drewN | apply below_drew1) | exact HB.out)) hb); clear HB; have HB := n0_; clear n0_; (try clear hb); (try clear hb2); (try clear hk); (try clear hi)))
    go_ret
    exact ⟨by first | rfl | (simp [errW_none, errW_some] <;> rfl) | (simp [*, errW_none, errW_some] <;> rfl), by repeat (first | (with_reducible first | exact HB.out | apply below_alloc | apply pw_below_drewN | apply below_drew1) | exact HB.out)⟩

end Go.Proofs.YtfebipiccpbdbaaDoor.P
/-! ## PlawsszFieldS -/
/- Functions of the Go program as Lean functions, and proofs that each Go function comes to its Lean function's answers; conditions: those that each theorem states. Written by this session's program hprint.py, which drives the kit's printer. -/
namespace Go.Proofs.YtfebipiccpbdbaaDoor.P
open Go.RowKit Go.Proofs.YtfebipiccpbdbaaDoorW.PrintWords Go.Proofs.YtfebipiccpbdbaaDoorW.PrintLast Go.Proofs.YtfebipiccpbdbaaDoorW.PrintMore
attribute [local go_sem] max2_int min2_int max_two min_two max_three min_three max_four min_four   -- for this text's walks alone
set_option linter.unusedVariables false
set_option linter.unusedSimpArgs false

/-! ### laws_szFieldS: function 13 -/
def laws_szFieldS.l0 : Nat → List (S65) → Int → Int → Option (Int)
  | 0, _, _, _ => none
  | k + 1, x0, x1, x5 => if x5 < (x0.length : Int) then (if 0 ≤ x5 then ((laws_szField.f ((rd_T65 x0 x5).f0) ((rd_T65 x0 x5).f1) x1).bind fun t102 => (if t102 < 0 then (some (-1)) else (laws_szFieldS.l0 k x0 t102 (wrap64 (x5 + 1))))) else (none)) else (some x1)
def laws_szFieldS.f (k : Nat) (l0 : List (S65)) (a1 : Int) : Option (Int) := if (wrap64 (a1 - (l0.length : Int))) < 0 then (some (-1)) else (laws_szFieldS.l0 k l0 (wrap64 (a1 - (l0.length : Int))) 0)
theorem laws_szFieldS.mono_l : ∀ k, (∀ y0 y1 y2, LeO (laws_szFieldS.l0 k y0 y1 y2) (laws_szFieldS.l0 (k + 1) y0 y1 y2))
  | 0 => fun _ _ _ r h => by simp [laws_szFieldS.l0] at h
  | k + 1 => by
    have ih0 := laws_szFieldS.mono_l k
    · intro y0 y1 y2
      unfold laws_szFieldS.l0
      repeat' first
      | (with_reducible exact ih0 _ _ _)
      | (with_reducible exact LeO.refl _)
      | (with_reducible exact LeO.none _)
      | (with_reducible refine LeO.ite ?_ ?_)
      | (with_reducible refine LeO.bind ?_ (fun _ => ?_))
      | exact ih0 _ _ _
      | exact LeO.none _
      | refine LeO.ite ?_ ?_
      | refine LeO.bind ?_ (fun _ => ?_)
theorem laws_szFieldS.mono : ∀ a0 a1 k, LeO (laws_szFieldS.f k a0 a1) (laws_szFieldS.f (k + 1) a0 a1) := by
  intro a0 a1 k
  have ih0 := laws_szFieldS.mono_l k
  unfold laws_szFieldS.f
  repeat' first
      | (with_reducible exact ih0 _ _ _)
      | (with_reducible exact LeO.refl _)
      | (with_reducible exact LeO.none _)
      | (with_reducible refine LeO.ite ?_ ?_)
      | (with_reducible refine LeO.bind ?_ (fun _ => ?_))
      | exact ih0 _ _ _
      | exact LeO.none _
      | refine LeO.ite ?_ ?_
      | refine LeO.bind ?_ (fun _ => ?_)
set_option maxHeartbeats 8000000 in
set_option maxRecDepth 100000 in
theorem laws_szFieldS.calls (k : Nat) (A0 : Option Addr) (c0 : Nat) (l0 : List (S65)) (a1 : Int) (r : Int) (w : World) (hr0 : Kd.C k65 w A0 l0.length l0) (hc0 : l0.length ≤ c0) (h : laws_szFieldS.f k l0 a1 = some r) :
    Calls Tryd.prog 13 #[.slice A0 l0.length c0, .int .i64 a1] w fun e w' => e = .returned (.int .i64 r) ∧ Below w.heap.size w w' := by
  have hu65 := Tryd.underlying65
  have HR0 := Aside0.mk hr0
  have HC0 := Aside0.mk hc0
  clear hr0 hc0
  have HB := Aside0.mk (Below.refl w.heap.size w)
  have H : (if (wrap64 (a1 - (l0.length : Int))) < 0 then (some (-1)) else (laws_szFieldS.l0 k l0 (wrap64 (a1 - (l0.length : Int))) 0)) = some r := h
  clear h
  by_cases c3 : (wrap64 (a1 - (l0.length : Int))) < 0
  · rw [if_pos c3] at H
    have c3b0 : decide ((wrap64 (a1 - (l0.length : Int))) < 0) = true := decide_eq_true c3
    clear c3
    obtain rfl := Option.some.inj H
    go_enter Tryd.func13, Tryd.ntmps13
    go_wp2
    go_ret
    exact ⟨by first | rfl | (simp [errW_none, errW_some] <;> rfl) | (simp [*, errW_none, errW_some] <;> rfl), by repeat (first | (with_reducible first | exact HB.out | apply below_alloc | apply pw_below_drewN | apply below_drew1) | exact HB.out)⟩
  · rw [if_neg c3] at H
    have c3b0 : decide ((wrap64 (a1 - (l0.length : Int))) < 0) = false := decide_eq_false c3
    clear c3
    have H' := Aside0.mk H
    clear H
    go_enter Tryd.func13, Tryd.ntmps13
    go_wp2
    go_loopg [1, 5] k (fun kq v1 v5 w' => ∃ (x1_1 : Int) (x5_1 : Int), v1 = .int .i64 x1_1 ∧ v5 = .int .i64 x5_1 ∧ Aside0 (laws_szFieldS.l0 kq l0 x1_1 x5_1 = some r) ∧ Aside0 (kq ≤ k) ∧ Aside0 (Below w.heap.size w w'))
    case atStart => exact ⟨(wrap64 (a1 - (l0.length : Int))), (0), (by first | rfl | (simp; done) | (simp [*]; done)), (by first | rfl | (simp; done) | (simp [*]; done)), H', ⟨Nat.le_refl _⟩, ⟨by repeat (first | (with_reducible first | exact HB.out | apply below_alloc | apply pw_below_drewN | apply below_drew1) | exact HB.out)⟩⟩
    case round =>
      clear H'
      try clear c1
      try clear p2
      try clear c3
      try clear c3b0
      obtain ⟨x1_1, x5_1, rfl, rfl, HA, HK1, HB⟩ := hrel
      cases gk with
      | zero => exact absurd HA.out (by simp [laws_szFieldS.l0])
      | succ k1 =>
        have H := HA.out
        clear HA
        simp only [laws_szFieldS.l0] at H
        by_cases c4 : x5_1 < (l0.length : Int)
        · rw [if_pos c4] at H
          have c4b0 : decide (x5_1 < (l0.length : Int)) = true := decide_eq_true c4
          clear c4
          by_cases c5 : 0 ≤ x5_1
          · rw [if_pos c5] at H
            have c5b0 : decide (0 ≤ x5_1) = true := decide_eq_true c5
            clear c5
            replace H := Option.bind_eq_some_iff.mp H
            obtain ⟨t102, A60, H⟩ := H
            replace H : (if t102 < 0 then (some (-1)) else (laws_szFieldS.l0 k1 l0 t102 (wrap64 (x5_1 + 1)))) = some r := H
            have A6 := Aside0.mk A60
            clear A60
            by_cases c7 : t102 < 0
            · rw [if_pos c7] at H
              have c7b0 : decide (t102 < 0) = true := decide_eq_true c7
              clear c7
              obtain rfl := Option.some.inj H
              have p101 : 0 ≤ (x5_1 : Int) := of_decide_eq_true (by first | (with_reducible assumption) | assumption)
              have q101 : x5_1 < (l0.length : Int) := of_decide_eq_true (by first | (with_reducible assumption) | assumption)
              obtain ⟨ad101, e101, hx101_0, hx101_1⟩ := at_T65 HR0.out x5_1 p101 q101
              cases e101
              replace hx101_0 := (HB.out.cell (World.block_lt_of_cell? w _ hx101_0)).trans hx101_0
              replace hx101_1 := (HB.out.cell (World.block_lt_of_cell? w _ hx101_1)).trans hx101_1
              replace p101 := eq_true p101
              replace q101 := eq_true q101
              go_wp2_with (first | ((with_reducible refine gate_callee (f := 47) rfl ?_); refine goesL_ (some 23) rfl rfl Tryd.func47 (by kernel_rfl) rfl #[.agg #[.string ((rd_T65 l0 x5_1).f0), .string ((rd_T65 l0 x5_1).f1)], .int .i64 x1_1] rfl (by (try simp only [List.map_toArray, List.map_cons, List.map_nil]); first | done | rfl | (simp only [List.length_drop, List.length_take]; rfl)) ?_; (with_reducible refine (laws_szField.calls ((rd_T65 l0 x5_1).f0) ((rd_T65 l0 x5_1).f1) x1_1 t102 _ A6.out).mono ?_); rintro e w8 ⟨rfl, hb⟩; refine ⟨_, rfl, ?_⟩; have n0_ := Aside0.mk (below_step (by repeat (first | (with_reducible first | exact HB.out | apply below_alloc | apply pw_below_drewN | apply below_drew1) | exact HB.out)) hb); clear HB; have HB := n0_; clear n0_; (try clear hb); (try clear hb2); (try clear hk); (try clear hi)))
              go_ret
              exact ⟨by first | rfl | (simp [errW_none, errW_some] <;> rfl) | (simp [*, errW_none, errW_some] <;> rfl), by repeat (first | (with_reducible first | exact HB.out | apply below_alloc | apply pw_below_drewN | apply below_drew1) | exact HB.out)⟩
            · rw [if_neg c7] at H
              have c7b0 : decide (t102 < 0) = false := decide_eq_false c7
              clear c7
              have H' := Aside0.mk H
              clear H
              have p101 : 0 ≤ (x5_1 : Int) := of_decide_eq_true (by first | (with_reducible assumption) | assumption)
              have q101 : x5_1 < (l0.length : Int) := of_decide_eq_true (by first | (with_reducible assumption) | assumption)
              obtain ⟨ad101, e101, hx101_0, hx101_1⟩ := at_T65 HR0.out x5_1 p101 q101
              cases e101
              replace hx101_0 := (HB.out.cell (World.block_lt_of_cell? w _ hx101_0)).trans hx101_0
              replace hx101_1 := (HB.out.cell (World.block_lt_of_cell? w _ hx101_1)).trans hx101_1
              replace p101 := eq_true p101
              replace q101 := eq_true q101
              go_wp2_with (first | ((with_reducible refine gate_callee (f := 47) rfl ?_); refine goesL_ (some 23) rfl rfl Tryd.func47 (by kernel_rfl) rfl #[.agg #[.string ((rd_T65 l0 x5_1).f0), .string ((rd_T65 l0 x5_1).f1)], .int .i64 x1_1] rfl (by (try simp only [List.map_toArray, List.map_cons, List.map_nil]); first | done | rfl | (simp only [List.length_drop, List.length_take]; rfl)) ?_; (with_reducible refine (laws_szField.calls ((rd_T65 l0 x5_1).f0) ((rd_T65 l0 x5_1).f1) x1_1 t102 _ A6.out).mono ?_); rintro e w9 ⟨rfl, hb⟩; refine ⟨_, rfl, ?_⟩; have n0_ := Aside0.mk (below_step (by repeat (first | (with_reducible first | exact HB.out | apply below_alloc | apply pw_below_drewN | apply below_drew1) | exact HB.out)) hb); clear HB; have HB := n0_; clear n0_; (try clear hb); (try clear hb2); (try clear hk); (try clear hi)))
              go_roundg k1
              case measure => have := HK1.out; omega
              case rel => exact ⟨(t102), (wrap64 (x5_1 + 1)), (by first | rfl | (simp; done) | (simp [*]; done)), (by first | rfl | (simp; done) | (simp [*]; done)), H', ⟨by have := HK1.out; omega⟩, ⟨by repeat (first | (with_reducible first | exact HB.out | apply below_alloc | apply pw_below_drewN | apply below_drew1) | exact HB.out)⟩⟩
          · rw [if_neg c5] at H
            exact absurd H (by simp)
        · rw [if_neg c4] at H
          have c4b0 : decide (x5_1 < (l0.length : Int)) = false := decide_eq_false c4
          clear c4
          obtain rfl := Option.some.inj H
          go_wp2
          go_ret
          exact ⟨by first | rfl | (simp [errW_none, errW_some] <;> rfl) | (simp [*, errW_none, errW_some] <;> rfl), by repeat (first | (with_reducible first | exact HB.out | apply below_alloc | apply pw_below_drewN | apply below_drew1) | exact HB.out)⟩

end Go.Proofs.YtfebipiccpbdbaaDoor.P
/-! ## PspecShowFields -/
/- Functions of the Go program as Lean functions, and proofs that each Go function comes to its Lean function's answers; conditions: those that each theorem states. Written by this session's program hprint.py, which drives the kit's printer. -/
namespace Go.Proofs.YtfebipiccpbdbaaDoor.P
open Go.RowKit Go.Proofs.YtfebipiccpbdbaaDoorW.PrintWords Go.Proofs.YtfebipiccpbdbaaDoorW.PrintLast Go.Proofs.YtfebipiccpbdbaaDoorW.PrintMore
attribute [local go_sem] max2_int min2_int max_two min_two max_three min_three max_four min_four   -- for this text's walks alone
set_option linter.unusedVariables false
set_option linter.unusedSimpArgs false

/-! ### spec_ShowFields: function 18 -/
def spec_ShowFields.f (k : Nat) (l0 : List (S67)) : Option (ByteArray) := (spec_FieldsOk.f k l0).bind fun t101 => (if t101 = true then ((spec_l4Show.f k l0).bind fun t102 => (some t102)) else (some (⟨#[]⟩ : ByteArray)))
theorem spec_ShowFields.mono : ∀ a0 k, LeO (spec_ShowFields.f k a0) (spec_ShowFields.f (k + 1) a0) := by
  intro a0 k
  unfold spec_ShowFields.f
  repeat' first
      | (with_reducible exact spec_FieldsOk.mono _ _)
      | (with_reducible exact spec_l4Show.mono _ _)
      | (with_reducible exact LeO.refl _)
      | (with_reducible exact LeO.none _)
      | (with_reducible refine LeO.ite ?_ ?_)
      | (with_reducible refine LeO.bind ?_ (fun _ => ?_))
      | exact spec_FieldsOk.mono _ _
      | exact spec_l4Show.mono _ _
      | exact LeO.none _
      | refine LeO.ite ?_ ?_
      | refine LeO.bind ?_ (fun _ => ?_)
set_option maxHeartbeats 8000000 in
set_option maxRecDepth 100000 in
theorem spec_ShowFields.calls (k : Nat) (A0 : Option Addr) (c0 : Nat) (l0 : List (S67)) (r : ByteArray) (w : World) (hr0 : Kd.C k67 w A0 l0.length l0) (hc0 : l0.length ≤ c0) (h : spec_ShowFields.f k l0 = some r) :
    Calls Tryd.prog 18 #[.slice A0 l0.length c0] w fun e w' => e = .returned (.string r) ∧ Below w.heap.size w w' := by
  have HR0 := Aside0.mk hr0
  have HC0 := Aside0.mk hc0
  clear hr0 hc0
  have HB := Aside0.mk (Below.refl w.heap.size w)
  have H : ((spec_FieldsOk.f k l0).bind fun t101 => (if t101 = true then ((spec_l4Show.f k l0).bind fun t102 => (some t102)) else (some (⟨#[]⟩ : ByteArray)))) = some r := h
  clear h
  replace H := Option.bind_eq_some_iff.mp H
  obtain ⟨t101, A20, H⟩ := H
  replace H : (if t101 = true then ((spec_l4Show.f k l0).bind fun t102 => (some t102)) else (some (⟨#[]⟩ : ByteArray))) = some r := H
  have A2 := Aside0.mk A20
  clear A20
  by_cases c3 : t101 = true
  · subst c3
    have H1 : ((spec_l4Show.f k l0).bind fun t102 => (some t102)) = some r := by rw [if_pos rfl] at H; exact H
    clear H
    have H := H1
    clear H1
    replace H := Option.bind_eq_some_iff.mp H
    obtain ⟨t102, A40, H⟩ := H
    replace H : (some t102) = some r := H
    have A4 := Aside0.mk A40
    clear A40
    obtain rfl := Option.some.inj H
    go_enter Tryd.func18, Tryd.ntmps18
    go_wp2_with (first | ((with_reducible refine gate_callee (f := 14) rfl ?_); refine goesL_ (some 4) rfl rfl Tryd.func14 (by kernel_rfl) rfl #[.slice A0 l0.length c0] rfl (by (try simp only [List.map_toArray, List.map_cons, List.map_nil]); first | done | rfl | (simp only [List.length_drop, List.length_take]; rfl)) ?_; (with_reducible refine (spec_FieldsOk.calls k _ _ l0 true _ ?side1 ?side2 A2.out).mono ?_); (case side1 => repeat (first | exact HR0.out | (with_reducible refine Kd.C_alloc ?_ _) | (with_reducible refine Kd.C_drewN ?_ _) | (with_reducible refine Kd.C_drew ?_))); (case side2 => exact HC0.out); rintro e w5 ⟨rfl, hb⟩; refine ⟨_, rfl, ?_⟩; have n0_ := Aside0.mk (below_step (by repeat (first | (with_reducible first | exact HB.out | apply below_alloc | apply pw_below_drewN | apply below_drew1) | exact HB.out)) hb); clear HB; have HB := n0_; clear n0_; (try clear hb); (try clear hb2); (try clear hk); (try clear hi)) | ((with_reducible refine gate_callee (f := 54) rfl ?_); refine goesL_ (some 7) rfl rfl Tryd.func54 (by kernel_rfl) rfl #[.slice A0 l0.length c0] rfl (by (try simp only [List.map_toArray, List.map_cons, List.map_nil]); first | done | rfl | (simp only [List.length_drop, List.length_take]; rfl)) ?_; (with_reducible refine (spec_l4Show.calls k _ _ l0 t102 _ ?side1 ?side2 A4.out).mono ?_); (case side1 => repeat (first | exact (Kd.C_below HR0.out HB.out) | (with_reducible refine Kd.C_alloc ?_ _) | (with_reducible refine Kd.C_drewN ?_ _) | (with_reducible refine Kd.C_drew ?_))); (case side2 => exact HC0.out); rintro e w6 ⟨rfl, hb⟩; refine ⟨_, rfl, ?_⟩; have n0_ := Aside0.mk (below_step (by repeat (first | (with_reducible first | exact HB.out | apply below_alloc | apply pw_below_drewN | apply below_drew1) | exact HB.out)) hb); clear HB; have HB := n0_; clear n0_; (try clear hb); (try clear hb2); (try clear hk); (try clear hi)))
    go_ret
    exact ⟨by first | rfl | (simp [errW_none, errW_some] <;> rfl) | (simp [*, errW_none, errW_some] <;> rfl), by repeat (first | (with_reducible first | exact HB.out | apply below_alloc | apply pw_below_drewN | apply below_drew1) | exact HB.out)⟩
  · replace c3 := Bool.eq_false_iff.mpr c3
    subst c3
    have H1 : (some (⟨#[]⟩ : ByteArray)) = some r := by rw [if_neg (show ¬ (false = true) by decide)] at H; exact H
    clear H
    have H := H1
    clear H1
    obtain rfl := Option.some.inj H
    go_enter Tryd.func18, Tryd.ntmps18
    go_wp2_with (first | ((with_reducible refine gate_callee (f := 14) rfl ?_); refine goesL_ (some 4) rfl rfl Tryd.func14 (by kernel_rfl) rfl #[.slice A0 l0.length c0] rfl (by (try simp only [List.map_toArray, List.map_cons, List.map_nil]); first | done | rfl | (simp only [List.length_drop, List.length_take]; rfl)) ?_; (with_reducible refine (spec_FieldsOk.calls k _ _ l0 false _ ?side1 ?side2 A2.out).mono ?_); (case side1 => repeat (first | exact HR0.out | (with_reducible refine Kd.C_alloc ?_ _) | (with_reducible refine Kd.C_drewN ?_ _) | (with_reducible refine Kd.C_drew ?_))); (case side2 => exact HC0.out); rintro e w7 ⟨rfl, hb⟩; refine ⟨_, rfl, ?_⟩; have n0_ := Aside0.mk (below_step (by repeat (first | (with_reducible first | exact HB.out | apply below_alloc | apply pw_below_drewN | apply below_drew1) | exact HB.out)) hb); clear HB; have HB := n0_; clear n0_; (try clear hb); (try clear hb2); (try clear hk); (try clear hi)))
    go_ret
    exact ⟨by first | rfl | (simp [errW_none, errW_some] <;> rfl) | (simp [*, errW_none, errW_some] <;> rfl), by repeat (first | (with_reducible first | exact HB.out | apply below_alloc | apply pw_below_drewN | apply below_drew1) | exact HB.out)⟩

end Go.Proofs.YtfebipiccpbdbaaDoor.P
/-! ## PlawsFnExactShowFields -/
/- Functions of the Go program as Lean functions, and proofs that each Go function comes to its Lean function's answers; conditions: those that each theorem states. Written by this session's program hprint.py, which drives the kit's printer. -/
namespace Go.Proofs.YtfebipiccpbdbaaDoor.P
open Go.RowKit Go.Proofs.YtfebipiccpbdbaaDoorW.PrintWords Go.Proofs.YtfebipiccpbdbaaDoorW.PrintLast Go.Proofs.YtfebipiccpbdbaaDoorW.PrintMore
attribute [local go_sem] max2_int min2_int max_two min_two max_three min_three max_four min_four   -- for this text's walks alone
set_option linter.unusedVariables false
set_option linter.unusedSimpArgs false

/-! ### laws_FnExactShowFields: function 4 -/
def laws_FnExactShowFields.f (k : Nat) (l0 : List (S65)) : Option (Bool) := (laws_szFieldS.f k l0 1048576).bind fun t101 => (if t101 < 0 then (some true) else ((laws_toFieldS.f k l0).bind fun t102 => ((spec_ShowFields.f k t102).bind fun t105 => ((laws_toFieldS.f k l0).bind fun t106 => ((impl_ShowFields.f t106).bind fun t109 => (if t109.toList = t105.toList then ((laws_toFieldS.f k l0).bind fun t110 => ((laws_eqFieldS.f k t106 t110).bind fun t113 => (if t113 = true then (some true) else (some false)))) else (some false)))))))
theorem laws_FnExactShowFields.mono : ∀ a0 k, LeO (laws_FnExactShowFields.f k a0) (laws_FnExactShowFields.f (k + 1) a0) := by
  intro a0 k
  unfold laws_FnExactShowFields.f
  repeat' first
      | (with_reducible exact laws_eqFieldS.mono _ _ _)
      | (with_reducible exact laws_szFieldS.mono _ _ _)
      | (with_reducible exact laws_toFieldS.mono _ _)
      | (with_reducible exact spec_ShowFields.mono _ _)
      | (with_reducible exact LeO.refl _)
      | (with_reducible exact LeO.none _)
      | (with_reducible refine LeO.ite ?_ ?_)
      | (with_reducible refine LeO.bind ?_ (fun _ => ?_))
      | exact laws_eqFieldS.mono _ _ _
      | exact laws_szFieldS.mono _ _ _
      | exact laws_toFieldS.mono _ _
      | exact spec_ShowFields.mono _ _
      | exact LeO.none _
      | refine LeO.ite ?_ ?_
      | refine LeO.bind ?_ (fun _ => ?_)
set_option maxHeartbeats 8000000 in
set_option maxRecDepth 100000 in
theorem laws_FnExactShowFields.calls (k : Nat) (A0 : Option Addr) (c0 : Nat) (l0 : List (S65)) (r : Bool) (w : World) (hr0 : Kd.C k65 w A0 l0.length l0) (hc0 : l0.length ≤ c0) (h : laws_FnExactShowFields.f k l0 = some r) :
    Calls Tryd.prog 4 #[.slice A0 l0.length c0] w fun e w' => e = .returned (.bool r) ∧ Below w.heap.size w w' := by
  have HR0 := Aside0.mk hr0
  have HC0 := Aside0.mk hc0
  clear hr0 hc0
  have HB := Aside0.mk (Below.refl w.heap.size w)
  have H : ((laws_szFieldS.f k l0 1048576).bind fun t101 => (if t101 < 0 then (some true) else ((laws_toFieldS.f k l0).bind fun t102 => ((spec_ShowFields.f k t102).bind fun t105 => ((laws_toFieldS.f k l0).bind fun t106 => ((impl_ShowFields.f t106).bind fun t109 => (if t109.toList = t105.toList then ((laws_toFieldS.f k l0).bind fun t110 => ((laws_eqFieldS.f k t106 t110).bind fun t113 => (if t113 = true then (some true) else (some false)))) else (some false)))))))) = some r := h
  clear h
  replace H := Option.bind_eq_some_iff.mp H
  obtain ⟨t101, A20, H⟩ := H
  replace H : (if t101 < 0 then (some true) else ((laws_toFieldS.f k l0).bind fun t102 => ((spec_ShowFields.f k t102).bind fun t105 => ((laws_toFieldS.f k l0).bind fun t106 => ((impl_ShowFields.f t106).bind fun t109 => (if t109.toList = t105.toList then ((laws_toFieldS.f k l0).bind fun t110 => ((laws_eqFieldS.f k t106 t110).bind fun t113 => (if t113 = true then (some true) else (some false)))) else (some false))))))) = some r := H
  have A2 := Aside0.mk A20
  clear A20
  by_cases c3 : t101 < 0
  · rw [if_pos c3] at H
    have c3b0 : decide (t101 < 0) = true := decide_eq_true c3
    clear c3
    obtain rfl := Option.some.inj H
    go_enter Tryd.func4, Tryd.ntmps4
    go_wp2_with (first | ((with_reducible refine gate_callee (f := 13) rfl ?_); refine goesL_ (some 9) rfl rfl Tryd.func13 (by kernel_rfl) rfl #[.slice A0 l0.length c0, .int .i64 1048576] rfl (by (try simp only [List.map_toArray, List.map_cons, List.map_nil]); first | done | rfl | (simp only [List.length_drop, List.length_take]; rfl)) ?_; (with_reducible refine (laws_szFieldS.calls k _ _ l0 1048576 t101 _ ?side1 ?side2 A2.out).mono ?_); (case side1 => repeat (first | exact HR0.out | (with_reducible refine Kd.C_alloc ?_ _) | (with_reducible refine Kd.C_drewN ?_ _) | (with_reducible refine Kd.C_drew ?_))); (case side2 => exact HC0.out); rintro e w4 ⟨rfl, hb⟩; refine ⟨_, rfl, ?_⟩; have n0_ := Aside0.mk (below_step (by repeat (first | (with_reducible first | exact HB.out | apply below_alloc | apply pw_below_drewN | apply below_drew1) | exact HB.out)) hb); clear HB; have HB := n0_; clear n0_; (try clear hb); (try clear hb2); (try clear hk); (try clear hi)))
    go_ret
    exact ⟨by first | rfl | (simp [errW_none, errW_some] <;> rfl) | (simp [*, errW_none, errW_some] <;> rfl), by repeat (first | (with_reducible first | exact HB.out | apply below_alloc | apply pw_below_drewN | apply below_drew1) | exact HB.out)⟩
  · rw [if_neg c3] at H
    have c3b0 : decide (t101 < 0) = false := decide_eq_false c3
    clear c3
    replace H := Option.bind_eq_some_iff.mp H
    obtain ⟨t102, A50, H⟩ := H
    replace H : ((spec_ShowFields.f k t102).bind fun t105 => ((laws_toFieldS.f k l0).bind fun t106 => ((impl_ShowFields.f t106).bind fun t109 => (if t109.toList = t105.toList then ((laws_toFieldS.f k l0).bind fun t110 => ((laws_eqFieldS.f k t106 t110).bind fun t113 => (if t113 = true then (some true) else (some false)))) else (some false))))) = some r := H
    have A5 := Aside0.mk A50
    clear A50
    replace H := Option.bind_eq_some_iff.mp H
    obtain ⟨t105, A60, H⟩ := H
    replace H : ((laws_toFieldS.f k l0).bind fun t106 => ((impl_ShowFields.f t106).bind fun t109 => (if t109.toList = t105.toList then ((laws_toFieldS.f k l0).bind fun t110 => ((laws_eqFieldS.f k t106 t110).bind fun t113 => (if t113 = true then (some true) else (some false)))) else (some false)))) = some r := H
    have A6 := Aside0.mk A60
    clear A60
    replace H := Option.bind_eq_some_iff.mp H
    obtain ⟨t106, A70, H⟩ := H
    replace H : ((impl_ShowFields.f t106).bind fun t109 => (if t109.toList = t105.toList then ((laws_toFieldS.f k l0).bind fun t110 => ((laws_eqFieldS.f k t106 t110).bind fun t113 => (if t113 = true then (some true) else (some false)))) else (some false))) = some r := H
    have A7 := Aside0.mk A70
    clear A70
    replace H := Option.bind_eq_some_iff.mp H
    obtain ⟨t109, A80, H⟩ := H
    replace H : (if t109.toList = t105.toList then ((laws_toFieldS.f k l0).bind fun t110 => ((laws_eqFieldS.f k t106 t110).bind fun t113 => (if t113 = true then (some true) else (some false)))) else (some false)) = some r := H
    have A8 := Aside0.mk A80
    clear A80
    by_cases c9 : t109.toList = t105.toList
    · rw [if_pos c9] at H
      have c9b0 : (t109.toList == t105.toList) = true := beq_iff_eq.mpr c9
      have c9b1 : (t109.toList != t105.toList) = false := bne_eq_false_iff_eq.mpr c9
      clear c9
      replace H := Option.bind_eq_some_iff.mp H
      obtain ⟨t110, A100, H⟩ := H
      replace H : ((laws_eqFieldS.f k t106 t110).bind fun t113 => (if t113 = true then (some true) else (some false))) = some r := H
      have A10 := Aside0.mk A100
      clear A100
      replace H := Option.bind_eq_some_iff.mp H
      obtain ⟨t113, A110, H⟩ := H
      replace H : (if t113 = true then (some true) else (some false)) = some r := H
      have A11 := Aside0.mk A110
      clear A110
      by_cases c12 : t113 = true
      · subst c12
        have H1 : (some true) = some r := by rw [if_pos rfl] at H; exact H
        clear H
        have H := H1
        clear H1
        obtain rfl := Option.some.inj H
        go_enter Tryd.func4, Tryd.ntmps4
        go_wp2_with (first | ((with_reducible refine gate_callee (f := 13) rfl ?_); refine goesL_ (some 9) rfl rfl Tryd.func13 (by kernel_rfl) rfl #[.slice A0 l0.length c0, .int .i64 1048576] rfl (by (try simp only [List.map_toArray, List.map_cons, List.map_nil]); first | done | rfl | (simp only [List.length_drop, List.length_take]; rfl)) ?_; (with_reducible refine (laws_szFieldS.calls k _ _ l0 1048576 t101 _ ?side1 ?side2 A2.out).mono ?_); (case side1 => repeat (first | exact HR0.out | (with_reducible refine Kd.C_alloc ?_ _) | (with_reducible refine Kd.C_drewN ?_ _) | (with_reducible refine Kd.C_drew ?_))); (case side2 => exact HC0.out); rintro e w13 ⟨rfl, hb⟩; refine ⟨_, rfl, ?_⟩; have n0_ := Aside0.mk (below_step (by repeat (first | (with_reducible first | exact HB.out | apply below_alloc | apply pw_below_drewN | apply below_drew1) | exact HB.out)) hb); clear HB; have HB := n0_; clear n0_; (try clear hb); (try clear hb2); (try clear hk); (try clear hi)) | ((with_reducible refine gate_callee (f := 15) rfl ?_); refine goesL_ (some 13) rfl rfl Tryd.func15 (by kernel_rfl) rfl #[.slice A0 l0.length c0] rfl (by (try simp only [List.map_toArray, List.map_cons, List.map_nil]); first | done | rfl | (simp only [List.length_drop, List.length_take]; rfl)) ?_; (with_reducible refine (laws_toFieldS.calls k _ _ l0 t102 _ ?side1 ?side2 A5.out).mono ?_); (case side1 => repeat (first | exact (Kd.C_below HR0.out HB.out) | (with_reducible refine Kd.C_alloc ?_ _) | (with_reducible refine Kd.C_drewN ?_ _) | (with_reducible refine Kd.C_drew ?_))); (case side2 => exact HC0.out); rintro e w14 ⟨v103, rfl, ho0, hb⟩; refine ⟨_, rfl, ?_⟩; have n0_ := Aside0.mk (Kd.R_lower ho0 (below_size (by repeat (first | (with_reducible first | exact HB.out | apply below_alloc | apply pw_below_drewN | apply below_drew1) | exact HB.out)))); have n1_ := Aside0.mk (below_step (by repeat (first | (with_reducible first | exact HB.out | apply below_alloc | apply pw_below_drewN | apply below_drew1) | exact HB.out)) hb); clear HB; have HO104 := n0_; have HB := n1_; clear n0_ n1_; (try clear hb); (try clear hb2); (try clear hk); (try clear hi); (try clear ho0); obtain ⟨Ao15, co15, eo15⟩ := Kd.R_slice HO104.out; subst eo15) | ((with_reducible refine gate_callee (f := 18) rfl ?_); refine goesL_ (some 14) rfl rfl Tryd.func18 (by kernel_rfl) rfl #[.slice Ao15 t102.length co15] rfl (by (try simp only [List.map_toArray, List.map_cons, List.map_nil]); first | done | rfl | (simp only [List.length_drop, List.length_take]; rfl)) ?_; (with_reducible refine (spec_ShowFields.calls k _ _ t102 t105 _ ?side1 ?side2 A6.out).mono ?_); (case side1 => repeat (first | exact (Kd.R_reads' HO104.out).2.2 | (with_reducible refine Kd.C_alloc ?_ _) | (with_reducible refine Kd.C_drewN ?_ _) | (with_reducible refine Kd.C_drew ?_))); (case side2 => exact (Kd.R_reads' HO104.out).2.1); rintro e w16 ⟨rfl, hb⟩; refine ⟨_, rfl, ?_⟩; have n0_ := Aside0.mk (Kd.R_below (by (with_reducible repeat (first | apply Kd.R_alloc | apply Kd.R_drewN | apply Kd.R_drew)); exact HO104.out) hb); have n1_ := Aside0.mk (below_step (by repeat (first | (with_reducible first | exact HB.out | apply below_alloc | apply pw_below_drewN | apply below_drew1) | exact HB.out)) hb); clear HO104; clear HB; have HO104 := n0_; have HB := n1_; clear n0_ n1_; (try clear hb); (try clear hb2); (try clear hk); (try clear hi)) | ((with_reducible refine gate_callee (f := 15) rfl ?_); refine goesL_ (some 16) rfl rfl Tryd.func15 (by kernel_rfl) rfl #[.slice A0 l0.length c0] rfl (by (try simp only [List.map_toArray, List.map_cons, List.map_nil]); first | done | rfl | (simp only [List.length_drop, List.length_take]; rfl)) ?_; (with_reducible refine (laws_toFieldS.calls k _ _ l0 t106 _ ?side1 ?side2 A7.out).mono ?_); (case side1 => repeat (first | exact (Kd.C_below HR0.out HB.out) | (with_reducible refine Kd.C_alloc ?_ _) | (with_reducible refine Kd.C_drewN ?_ _) | (with_reducible refine Kd.C_drew ?_))); (case side2 => exact HC0.out); rintro e w17 ⟨v107, rfl, ho0, hb⟩; refine ⟨_, rfl, ?_⟩; have n0_ := Aside0.mk (Kd.R_elder' (by (with_reducible repeat (first | apply Kd.R_alloc | apply Kd.R_drewN | apply Kd.R_drew)); exact HO104.out) (Kd.R_base ho0) hb); have n1_ := Aside0.mk (Kd.R_lower (Kd.R_new' ho0 (Kd.R_lt (by (with_reducible repeat (first | apply Kd.R_alloc | apply Kd.R_drewN | apply Kd.R_drew)); exact HO104.out))) (below_size (by repeat (first | (with_reducible first | exact HB.out | apply below_alloc | apply pw_below_drewN | apply below_drew1) | exact HB.out)))); have n2_ := Aside0.mk (below_step (by repeat (first | (with_reducible first | exact HB.out | apply below_alloc | apply pw_below_drewN | apply below_drew1) | exact HB.out)) hb); clear HO104; clear HB; have HO104 := n0_; have HO108 := n1_; have HB := n2_; clear n0_ n1_ n2_; (try clear hb); (try clear hb2); (try clear hk); (try clear hi); (try clear ho0); obtain ⟨Ao18, co18, eo18⟩ := Kd.R_slice HO108.out; subst eo18) | ((with_reducible refine gate_callee (f := 19) rfl ?_); refine goesL_ (some 18) rfl rfl Tryd.func19 (by kernel_rfl) rfl #[.slice Ao18 t106.length co18] rfl (by (try simp only [List.map_toArray, List.map_cons, List.map_nil]); first | done | rfl | (simp only [List.length_drop, List.length_take]; rfl)) ?_; (with_reducible refine (impl_ShowFields.calls _ _ t106 t109 _ ?side1 ?side2 A8.out).mono ?_); (case side1 => repeat (first | exact (Kd.R_reads' HO108.out).2.2 | (with_reducible refine Kd.C_alloc ?_ _) | (with_reducible refine Kd.C_drewN ?_ _) | (with_reducible refine Kd.C_drew ?_))); (case side2 => exact (Kd.R_reads' HO108.out).2.1); rintro e w19 ⟨rfl, hb⟩; refine ⟨_, rfl, ?_⟩; have n0_ := Aside0.mk (Kd.R_below (by (with_reducible repeat (first | apply Kd.R_alloc | apply Kd.R_drewN | apply Kd.R_drew)); exact HO104.out) hb); have n1_ := Aside0.mk (Kd.R_below (by (with_reducible repeat (first | apply Kd.R_alloc | apply Kd.R_drewN | apply Kd.R_drew)); exact HO108.out) hb); have n2_ := Aside0.mk (below_step (by repeat (first | (with_reducible first | exact HB.out | apply below_alloc | apply pw_below_drewN | apply below_drew1) | exact HB.out)) hb); clear HO104; clear HO108; clear HB; have HO104 := n0_; have HO108 := n1_; have HB := n2_; clear n0_ n1_ n2_; (try clear hb); (try clear hb2); (try clear hk); (try clear hi)) | ((with_reducible refine gate_callee (f := 15) rfl ?_); refine goesL_ (some 24) rfl rfl Tryd.func15 (by kernel_rfl) rfl #[.slice A0 l0.length c0] rfl (by (try simp only [List.map_toArray, List.map_cons, List.map_nil]); first | done | rfl | (simp only [List.length_drop, List.length_take]; rfl)) ?_; (with_reducible refine (laws_toFieldS.calls k _ _ l0 t110 _ ?side1 ?side2 A10.out).mono ?_); (case side1 => repeat (first | exact (Kd.C_below HR0.out HB.out) | (with_reducible refine Kd.C_alloc ?_ _) | (with_reducible refine Kd.C_drewN ?_ _) | (with_reducible refine Kd.C_drew ?_))); (case side2 => exact HC0.out); rintro e w20 ⟨v111, rfl, ho0, hb⟩; refine ⟨_, rfl, ?_⟩; have n0_ := Aside0.mk (Kd.R_elder' (by (with_reducible repeat (first | apply Kd.R_alloc | apply Kd.R_drewN | apply Kd.R_drew)); exact HO104.out) (Kd.R_base ho0) hb); have n1_ := Aside0.mk (Kd.R_elder' (by (with_reducible repeat (first | apply Kd.R_alloc | apply Kd.R_drewN | apply Kd.R_drew)); exact HO108.out) (Kd.R_base ho0) hb); have n2_ := Aside0.mk (Kd.R_lower (Kd.R_new' (Kd.R_new' ho0 (Kd.R_lt (by (with_reducible repeat (first | apply Kd.R_alloc | apply Kd.R_drewN | apply Kd.R_drew)); exact HO104.out))) (Kd.R_lt (by (with_reducible repeat (first | apply Kd.R_alloc | apply Kd.R_drewN | apply Kd.R_drew)); exact HO108.out))) (below_size (by repeat (first | (with_reducible first | exact HB.out | apply below_alloc | apply pw_below_drewN | apply below_drew1) | exact HB.out)))); have n3_ := Aside0.mk (below_step (by repeat (first | (with_reducible first | exact HB.out | apply below_alloc | apply pw_below_drewN | apply below_drew1) | exact HB.out)) hb); clear HO104; clear HO108; clear HB; have HO104 := n0_; have HO108 := n1_; have HO112 := n2_; have HB := n3_; clear n0_ n1_ n2_ n3_; (try clear hb); (try clear hb2); (try clear hk); (try clear hi); (try clear ho0); obtain ⟨Ao21, co21, eo21⟩ := Kd.R_slice HO112.out; subst eo21) | ((with_reducible refine gate_callee (f := 17) rfl ?_); refine goesL_ (some 25) rfl rfl Tryd.func17 (by kernel_rfl) rfl #[.slice Ao18 t106.length co18, .slice Ao21 t110.length co21] rfl (by (try simp only [List.map_toArray, List.map_cons, List.map_nil]); first | done | rfl | (simp only [List.length_drop, List.length_take]; rfl)) ?_; (with_reducible refine (laws_eqFieldS.calls k _ _ t106 _ _ t110 true _ ?side1 ?side2 ?side3 ?side4 A11.out).mono ?_); (case side1 => repeat (first | exact (Kd.R_reads' HO108.out).2.2 | (with_reducible refine Kd.C_alloc ?_ _) | (with_reducible refine Kd.C_drewN ?_ _) | (with_reducible refine Kd.C_drew ?_))); (case side2 => exact (Kd.R_reads' HO108.out).2.1); (case side3 => repeat (first | exact (Kd.R_reads' HO112.out).2.2 | (with_reducible refine Kd.C_alloc ?_ _) | (with_reducible refine Kd.C_drewN ?_ _) | (with_reducible refine Kd.C_drew ?_))); (case side4 => exact (Kd.R_reads' HO112.out).2.1); rintro e w22 ⟨rfl, hb⟩; refine ⟨_, rfl, ?_⟩; have n0_ := Aside0.mk (Kd.R_below (by (with_reducible repeat (first | apply Kd.R_alloc | apply Kd.R_drewN | apply Kd.R_drew)); exact HO104.out) hb); have n1_ := Aside0.mk (Kd.R_below (by (with_reducible repeat (first | apply Kd.R_alloc | apply Kd.R_drewN | apply Kd.R_drew)); exact HO108.out) hb); have n2_ := Aside0.mk (Kd.R_below (by (with_reducible repeat (first | apply Kd.R_alloc | apply Kd.R_drewN | apply Kd.R_drew)); exact HO112.out) hb); have n3_ := Aside0.mk (below_step (by repeat (first | (with_reducible first | exact HB.out | apply below_alloc | apply pw_below_drewN | apply below_drew1) | exact HB.out)) hb); clear HO104; clear HO108; clear HO112; clear HB; have HO104 := n0_; have HO108 := n1_; have HO112 := n2_; have HB := n3_; clear n0_ n1_ n2_ n3_; (try clear hb); (try clear hb2); (try clear hk); (try clear hi)))
        go_ret
        exact ⟨by first | rfl | (simp [errW_none, errW_some] <;> rfl) | (simp [*, errW_none, errW_some] <;> rfl), by repeat (first | (with_reducible first | exact HB.out | apply below_alloc | apply pw_below_drewN | apply below_drew1) | exact HB.out)⟩
      · replace c12 := Bool.eq_false_iff.mpr c12
        subst c12
        have H1 : (some false) = some r := by rw [if_neg (show ¬ (false = true) by decide)] at H; exact H
        clear H
        have H := H1
        clear H1
        obtain rfl := Option.some.inj H
        go_enter Tryd.func4, Tryd.ntmps4
        go_wp2_with (first | ((with_reducible refine gate_callee (f := 13) rfl ?_); refine goesL_ (some 9) rfl rfl Tryd.func13 (by kernel_rfl) rfl #[.slice A0 l0.length c0, .int .i64 1048576] rfl (by (try simp only [List.map_toArray, List.map_cons, List.map_nil]); first | done | rfl | (simp only [List.length_drop, List.length_take]; rfl)) ?_; (with_reducible refine (laws_szFieldS.calls k _ _ l0 1048576 t101 _ ?side1 ?side2 A2.out).mono ?_); (case side1 => repeat (first | exact HR0.out | (with_reducible refine Kd.C_alloc ?_ _) | (with_reducible refine Kd.C_drewN ?_ _) | (with_reducible refine Kd.C_drew ?_))); (case side2 => exact HC0.out); rintro e w23 ⟨rfl, hb⟩; refine ⟨_, rfl, ?_⟩; have n0_ := Aside0.mk (below_step (by repeat (first | (with_reducible first | exact HB.out | apply below_alloc | apply pw_below_drewN | apply below_drew1) | exact HB.out)) hb); clear HB; have HB := n0_; clear n0_; (try clear hb); (try clear hb2); (try clear hk); (try clear hi)) | ((with_reducible refine gate_callee (f := 15) rfl ?_); refine goesL_ (some 13) rfl rfl Tryd.func15 (by kernel_rfl) rfl #[.slice A0 l0.length c0] rfl (by (try simp only [List.map_toArray, List.map_cons, List.map_nil]); first | done | rfl | (simp only [List.length_drop, List.length_take]; rfl)) ?_; (with_reducible refine (laws_toFieldS.calls k _ _ l0 t102 _ ?side1 ?side2 A5.out).mono ?_); (case side1 => repeat (first | exact (Kd.C_below HR0.out HB.out) | (with_reducible refine Kd.C_alloc ?_ _) | (with_reducible refine Kd.C_drewN ?_ _) | (with_reducible refine Kd.C_drew ?_))); (case side2 => exact HC0.out); rintro e w24 ⟨v103, rfl, ho0, hb⟩; refine ⟨_, rfl, ?_⟩; have n0_ := Aside0.mk (Kd.R_lower ho0 (below_size (by repeat (first | (with_reducible first | exact HB.out | apply below_alloc | apply pw_below_drewN | apply below_drew1) | exact HB.out)))); have n1_ := Aside0.mk (below_step (by repeat (first | (with_reducible first | exact HB.out | apply below_alloc | apply pw_below_drewN | apply below_drew1) | exact HB.out)) hb); clear HB; have HO104 := n0_; have HB := n1_; clear n0_ n1_; (try clear hb); (try clear hb2); (try clear hk); (try clear hi); (try clear ho0); obtain ⟨Ao25, co25, eo25⟩ := Kd.R_slice HO104.out; subst eo25) | ((with_reducible refine gate_callee (f := 18) rfl ?_); refine goesL_ (some 14) rfl rfl Tryd.func18 (by kernel_rfl) rfl #[.slice Ao25 t102.length co25] rfl (by (try simp only [List.map_toArray, List.map_cons, List.map_nil]); first | done | rfl | (simp only [List.length_drop, List.length_take]; rfl)) ?_; (with_reducible refine (spec_ShowFields.calls k _ _ t102 t105 _ ?side1 ?side2 A6.out).mono ?_); (case side1 => repeat (first | exact (Kd.R_reads' HO104.out).2.2 | (with_reducible refine Kd.C_alloc ?_ _) | (with_reducible refine Kd.C_drewN ?_ _) | (with_reducible refine Kd.C_drew ?_))); (case side2 => exact (Kd.R_reads' HO104.out).2.1); rintro e w26 ⟨rfl, hb⟩; refine ⟨_, rfl, ?_⟩; have n0_ := Aside0.mk (Kd.R_below (by (with_reducible repeat (first | apply Kd.R_alloc | apply Kd.R_drewN | apply Kd.R_drew)); exact HO104.out) hb); have n1_ := Aside0.mk (below_step (by repeat (first | (with_reducible first | exact HB.out | apply below_alloc | apply pw_below_drewN | apply below_drew1) | exact HB.out)) hb); clear HO104; clear HB; have HO104 := n0_; have HB := n1_; clear n0_ n1_; (try clear hb); (try clear hb2); (try clear hk); (try clear hi)) | ((with_reducible refine gate_callee (f := 15) rfl ?_); refine goesL_ (some 16) rfl rfl Tryd.func15 (by kernel_rfl) rfl #[.slice A0 l0.length c0] rfl (by (try simp only [List.map_toArray, List.map_cons, List.map_nil]); first | done | rfl | (simp only [List.length_drop, List.length_take]; rfl)) ?_; (with_reducible refine (laws_toFieldS.calls k _ _ l0 t106 _ ?side1 ?side2 A7.out).mono ?_); (case side1 => repeat (first | exact (Kd.C_below HR0.out HB.out) | (with_reducible refine Kd.C_alloc ?_ _) | (with_reducible refine Kd.C_drewN ?_ _) | (with_reducible refine Kd.C_drew ?_))); (case side2 => exact HC0.out); rintro e w27 ⟨v107, rfl, ho0, hb⟩; refine ⟨_, rfl, ?_⟩; have n0_ := Aside0.mk (Kd.R_elder' (by (with_reducible repeat (first | apply Kd.R_alloc | apply Kd.R_drewN | apply Kd.R_drew)); exact HO104.out) (Kd.R_base ho0) hb); have n1_ := Aside0.mk (Kd.R_lower (Kd.R_new' ho0 (Kd.R_lt (by (with_reducible repeat (first | apply Kd.R_alloc | apply Kd.R_drewN | apply Kd.R_drew)); exact HO104.out))) (below_size (by repeat (first | (with_reducible first | exact HB.out | apply below_alloc | apply pw_below_drewN | apply below_drew1) | exact HB.out)))); have n2_ := Aside0.mk (below_step (by repeat (first | (with_reducible first | exact HB.out | apply below_alloc | apply pw_below_drewN | apply below_drew1) | exact HB.out)) hb); clear HO104; clear HB; have HO104 := n0_; have HO108 := n1_; have HB := n2_; clear n0_ n1_ n2_; (try clear hb); (try clear hb2); (try clear hk); (try clear hi); (try clear ho0); obtain ⟨Ao28, co28, eo28⟩ := Kd.R_slice HO108.out; subst eo28) | ((with_reducible refine gate_callee (f := 19) rfl ?_); refine goesL_ (some 18) rfl rfl Tryd.func19 (by kernel_rfl) rfl #[.slice Ao28 t106.length co28] rfl (by (try simp only [List.map_toArray, List.map_cons, List.map_nil]); first | done | rfl | (simp only [List.length_drop, List.length_take]; rfl)) ?_; (with_reducible refine (impl_ShowFields.calls _ _ t106 t109 _ ?side1 ?side2 A8.out).mono ?_); (case side1 => repeat (first | exact (Kd.R_reads' HO108.out).2.2 | (with_reducible refine Kd.C_alloc ?_ _) | (with_reducible refine Kd.C_drewN ?_ _) | (with_reducible refine Kd.C_drew ?_))); (case side2 => exact (Kd.R_reads' HO108.out).2.1); rintro e w29 ⟨rfl, hb⟩; refine ⟨_, rfl, ?_⟩; have n0_ := Aside0.mk (Kd.R_below (by (with_reducible repeat (first | apply Kd.R_alloc | apply Kd.R_drewN | apply Kd.R_drew)); exact HO104.out) hb); have n1_ := Aside0.mk (Kd.R_below (by (with_reducible repeat (first | apply Kd.R_alloc | apply Kd.R_drewN | apply Kd.R_drew)); exact HO108.out) hb); have n2_ := Aside0.mk (below_step (by repeat (first | (with_reducible first | exact HB.out | apply below_alloc | apply pw_below_drewN | apply below_drew1) | exact HB.out)) hb); clear HO104; clear HO108; clear HB; have HO104 := n0_; have HO108 := n1_; have HB := n2_; clear n0_ n1_ n2_; (try clear hb); (try clear hb2); (try clear hk); (try clear hi)) | ((with_reducible refine gate_callee (f := 15) rfl ?_); refine goesL_ (some 24) rfl rfl Tryd.func15 (by kernel_rfl) rfl #[.slice A0 l0.length c0] rfl (by (try simp only [List.map_toArray, List.map_cons, List.map_nil]); first | done | rfl | (simp only [List.length_drop, List.length_take]; rfl)) ?_; (with_reducible refine (laws_toFieldS.calls k _ _ l0 t110 _ ?side1 ?side2 A10.out).mono ?_); (case side1 => repeat (first | exact (Kd.C_below HR0.out HB.out) | (with_reducible refine Kd.C_alloc ?_ _) | (with_reducible refine Kd.C_drewN ?_ _) | (with_reducible refine Kd.C_drew ?_))); (case side2 => exact HC0.out); rintro e w30 ⟨v111, rfl, ho0, hb⟩; refine ⟨_, rfl, ?_⟩; have n0_ := Aside0.mk (Kd.R_elder' (by (with_reducible repeat (first | apply Kd.R_alloc | apply Kd.R_drewN | apply Kd.R_drew)); exact HO104.out) (Kd.R_base ho0) hb); have n1_ := Aside0.mk (Kd.R_elder' (by (with_reducible repeat (first | apply Kd.R_alloc | apply Kd.R_drewN | apply Kd.R_drew)); exact HO108.out) (Kd.R_base ho0) hb); have n2_ := Aside0.mk (Kd.R_lower (Kd.R_new' (Kd.R_new' ho0 (Kd.R_lt (by (with_reducible repeat (first | apply Kd.R_alloc | apply Kd.R_drewN | apply Kd.R_drew)); exact HO104.out))) (Kd.R_lt (by (with_reducible repeat (first | apply Kd.R_alloc | apply Kd.R_drewN | apply Kd.R_drew)); exact HO108.out))) (below_size (by repeat (first | (with_reducible first | exact HB.out | apply below_alloc | apply pw_below_drewN | apply below_drew1) | exact HB.out)))); have n3_ := Aside0.mk (below_step (by repeat (first | (with_reducible first | exact HB.out | apply below_alloc | apply pw_below_drewN | apply below_drew1) | exact HB.out)) hb); clear HO104; clear HO108; clear HB; have HO104 := n0_; have HO108 := n1_; have HO112 := n2_; have HB := n3_; clear n0_ n1_ n2_ n3_; (try clear hb); (try clear hb2); (try clear hk); (try clear hi); (try clear ho0); obtain ⟨Ao31, co31, eo31⟩ := Kd.R_slice HO112.out; subst eo31) | ((with_reducible refine gate_callee (f := 17) rfl ?_); refine goesL_ (some 25) rfl rfl Tryd.func17 (by kernel_rfl) rfl #[.slice Ao28 t106.length co28, .slice Ao31 t110.length co31] rfl (by (try simp only [List.map_toArray, List.map_cons, List.map_nil]); first | done | rfl | (simp only [List.length_drop, List.length_take]; rfl)) ?_; (with_reducible refine (laws_eqFieldS.calls k _ _ t106 _ _ t110 false _ ?side1 ?side2 ?side3 ?side4 A11.out).mono ?_); (case side1 => repeat (first | exact (Kd.R_reads' HO108.out).2.2 | (with_reducible refine Kd.C_alloc ?_ _) | (with_reducible refine Kd.C_drewN ?_ _) | (with_reducible refine Kd.C_drew ?_))); (case side2 => exact (Kd.R_reads' HO108.out).2.1); (case side3 => repeat (first | exact (Kd.R_reads' HO112.out).2.2 | (with_reducible refine Kd.C_alloc ?_ _) | (with_reducible refine Kd.C_drewN ?_ _) | (with_reducible refine Kd.C_drew ?_))); (case side4 => exact (Kd.R_reads' HO112.out).2.1); rintro e w32 ⟨rfl, hb⟩; refine ⟨_, rfl, ?_⟩; have n0_ := Aside0.mk (Kd.R_below (by (with_reducible repeat (first | apply Kd.R_alloc | apply Kd.R_drewN | apply Kd.R_drew)); exact HO104.out) hb); have n1_ := Aside0.mk (Kd.R_below (by (with_reducible repeat (first | apply Kd.R_alloc | apply Kd.R_drewN | apply Kd.R_drew)); exact HO108.out) hb); have n2_ := Aside0.mk (Kd.R_below (by (with_reducible repeat (first | apply Kd.R_alloc | apply Kd.R_drewN | apply Kd.R_drew)); exact HO112.out) hb); have n3_ := Aside0.mk (below_step (by repeat (first | (with_reducible first | exact HB.out | apply below_alloc | apply pw_below_drewN | apply below_drew1) | exact HB.out)) hb); clear HO104; clear HO108; clear HO112; clear HB; have HO104 := n0_; have HO108 := n1_; have HO112 := n2_; have HB := n3_; clear n0_ n1_ n2_ n3_; (try clear hb); (try clear hb2); (try clear hk); (try clear hi)))
        go_ret
        exact ⟨by first | rfl | (simp [errW_none, errW_some] <;> rfl) | (simp [*, errW_none, errW_some] <;> rfl), by repeat (first | (with_reducible first | exact HB.out | apply below_alloc | apply pw_below_drewN | apply below_drew1) | exact HB.out)⟩
    · rw [if_neg c9] at H
      have c9b0 : (t109.toList == t105.toList) = false := beq_eq_false_iff_ne.mpr c9
      have c9b1 : (t109.toList != t105.toList) = true := bne_iff_ne.mpr c9
      obtain rfl := Option.some.inj H
      go_enter Tryd.func4, Tryd.ntmps4
      go_wp2_with (first | ((with_reducible refine gate_callee (f := 13) rfl ?_); refine goesL_ (some 9) rfl rfl Tryd.func13 (by kernel_rfl) rfl #[.slice A0 l0.length c0, .int .i64 1048576] rfl (by (try simp only [List.map_toArray, List.map_cons, List.map_nil]); first | done | rfl | (simp only [List.length_drop, List.length_take]; rfl)) ?_; (with_reducible refine (laws_szFieldS.calls k _ _ l0 1048576 t101 _ ?side1 ?side2 A2.out).mono ?_); (case side1 => repeat (first | exact HR0.out | (with_reducible refine Kd.C_alloc ?_ _) | (with_reducible refine Kd.C_drewN ?_ _) | (with_reducible refine Kd.C_drew ?_))); (case side2 => exact HC0.out); rintro e w33 ⟨rfl, hb⟩; refine ⟨_, rfl, ?_⟩; have n0_ := Aside0.mk (below_step (by repeat (first | (with_reducible first | exact HB.out | apply below_alloc | apply pw_below_drewN | apply below_drew1) | exact HB.out)) hb); clear HB; have HB := n0_; clear n0_; (try clear hb); (try clear hb2); (try clear hk); (try clear hi)) | ((with_reducible refine gate_callee (f := 15) rfl ?_); refine goesL_ (some 13) rfl rfl Tryd.func15 (by kernel_rfl) rfl #[.slice A0 l0.length c0] rfl (by (try simp only [List.map_toArray, List.map_cons, List.map_nil]); first | done | rfl | (simp only [List.length_drop, List.length_take]; rfl)) ?_; (with_reducible refine (laws_toFieldS.calls k _ _ l0 t102 _ ?side1 ?side2 A5.out).mono ?_); (case side1 => repeat (first | exact (Kd.C_below HR0.out HB.out) | (with_reducible refine Kd.C_alloc ?_ _) | (with_reducible refine Kd.C_drewN ?_ _) | (with_reducible refine Kd.C_drew ?_))); (case side2 => exact HC0.out); rintro e w34 ⟨v103, rfl, ho0, hb⟩; refine ⟨_, rfl, ?_⟩; have n0_ := Aside0.mk (Kd.R_lower ho0 (below_size (by repeat (first | (with_reducible first | exact HB.out | apply below_alloc | apply pw_below_drewN | apply below_drew1) | exact HB.out)))); have n1_ := Aside0.mk (below_step (by repeat (first | (with_reducible first | exact HB.out | apply below_alloc | apply pw_below_drewN | apply below_drew1) | exact HB.out)) hb); clear HB; have HO104 := n0_; have HB := n1_; clear n0_ n1_; (try clear hb); (try clear hb2); (try clear hk); (try clear hi); (try clear ho0); obtain ⟨Ao35, co35, eo35⟩ := Kd.R_slice HO104.out; subst eo35) | ((with_reducible refine gate_callee (f := 18) rfl ?_); refine goesL_ (some 14) rfl rfl Tryd.func18 (by kernel_rfl) rfl #[.slice Ao35 t102.length co35] rfl (by (try simp only [List.map_toArray, List.map_cons, List.map_nil]); first | done | rfl | (simp only [List.length_drop, List.length_take]; rfl)) ?_; (with_reducible refine (spec_ShowFields.calls k _ _ t102 t105 _ ?side1 ?side2 A6.out).mono ?_); (case side1 => repeat (first | exact (Kd.R_reads' HO104.out).2.2 | (with_reducible refine Kd.C_alloc ?_ _) | (with_reducible refine Kd.C_drewN ?_ _) | (with_reducible refine Kd.C_drew ?_))); (case side2 => exact (Kd.R_reads' HO104.out).2.1); rintro e w36 ⟨rfl, hb⟩; refine ⟨_, rfl, ?_⟩; have n0_ := Aside0.mk (Kd.R_below (by (with_reducible repeat (first | apply Kd.R_alloc | apply Kd.R_drewN | apply Kd.R_drew)); exact HO104.out) hb); have n1_ := Aside0.mk (below_step (by repeat (first | (with_reducible first | exact HB.out | apply below_alloc | apply pw_below_drewN | apply below_drew1) | exact HB.out)) hb); clear HO104; clear HB; have HO104 := n0_; have HB := n1_; clear n0_ n1_; (try clear hb); (try clear hb2); (try clear hk); (try clear hi)) | ((with_reducible refine gate_callee (f := 15) rfl ?_); refine goesL_ (some 16) rfl rfl Tryd.func15 (by kernel_rfl) rfl #[.slice A0 l0.length c0] rfl (by (try simp only [List.map_toArray, List.map_cons, List.map_nil]); first | done | rfl | (simp only [List.length_drop, List.length_take]; rfl)) ?_; (with_reducible refine (laws_toFieldS.calls k _ _ l0 t106 _ ?side1 ?side2 A7.out).mono ?_); (case side1 => repeat (first | exact (Kd.C_below HR0.out HB.out) | (with_reducible refine Kd.C_alloc ?_ _) | (with_reducible refine Kd.C_drewN ?_ _) | (with_reducible refine Kd.C_drew ?_))); (case side2 => exact HC0.out); rintro e w37 ⟨v107, rfl, ho0, hb⟩; refine ⟨_, rfl, ?_⟩; have n0_ := Aside0.mk (Kd.R_elder' (by (with_reducible repeat (first | apply Kd.R_alloc | apply Kd.R_drewN | apply Kd.R_drew)); exact HO104.out) (Kd.R_base ho0) hb); have n1_ := Aside0.mk (Kd.R_lower (Kd.R_new' ho0 (Kd.R_lt (by (with_reducible repeat (first | apply Kd.R_alloc | apply Kd.R_drewN | apply Kd.R_drew)); exact HO104.out))) (below_size (by repeat (first | (with_reducible first | exact HB.out | apply below_alloc | apply pw_below_drewN | apply below_drew1) | exact HB.out)))); have n2_ := Aside0.mk (below_step (by repeat (first | (with_reducible first | exact HB.out | apply below_alloc | apply pw_below_drewN | apply below_drew1) | exact HB.out)) hb); clear HO104; clear HB; have HO104 := n0_; have HO108 := n1_; have HB := n2_; clear n0_ n1_ n2_; (try clear hb); (try clear hb2); (try clear hk); (try clear hi); (try clear ho0); obtain ⟨Ao38, co38, eo38⟩ := Kd.R_slice HO108.out; subst eo38) | ((with_reducible refine gate_callee (f := 19) rfl ?_); refine goesL_ (some 18) rfl rfl Tryd.func19 (by kernel_rfl) rfl #[.slice Ao38 t106.length co38] rfl (by (try simp only [List.map_toArray, List.map_cons, List.map_nil]); first | done | rfl | (simp only [List.length_drop, List.length_take]; rfl)) ?_; (with_reducible refine (impl_ShowFields.calls _ _ t106 t109 _ ?side1 ?side2 A8.out).mono ?_); (case side1 => repeat (first | exact (Kd.R_reads' HO108.out).2.2 | (with_reducible refine Kd.C_alloc ?_ _) | (with_reducible refine Kd.C_drewN ?_ _) | (with_reducible refine Kd.C_drew ?_))); (case side2 => exact (Kd.R_reads' HO108.out).2.1); rintro e w39 ⟨rfl, hb⟩; refine ⟨_, rfl, ?_⟩; have n0_ := Aside0.mk (Kd.R_below (by (with_reducible repeat (first | apply Kd.R_alloc | apply Kd.R_drewN | apply Kd.R_drew)); exact HO104.out) hb); have n1_ := Aside0.mk (Kd.R_below (by (with_reducible repeat (first | apply Kd.R_alloc | apply Kd.R_drewN | apply Kd.R_drew)); exact HO108.out) hb); have n2_ := Aside0.mk (below_step (by repeat (first | (with_reducible first | exact HB.out | apply below_alloc | apply pw_below_drewN | apply below_drew1) | exact HB.out)) hb); clear HO104; clear HO108; clear HB; have HO104 := n0_; have HO108 := n1_; have HB := n2_; clear n0_ n1_ n2_; (try clear hb); (try clear hb2); (try clear hk); (try clear hi)))
      go_ret
      exact ⟨by first | rfl | (simp [errW_none, errW_some] <;> rfl) | (simp [*, errW_none, errW_some] <;> rfl), by repeat (first | (with_reducible first | exact HB.out | apply below_alloc | apply pw_below_drewN | apply below_drew1) | exact HB.out)⟩

/-- THE ONE PURE STATEMENT of laws_FnExactShowFields. -/
def laws_FnExactShowFields.Pure : Prop := ∀ (l0 : List (S65)), l0.length ≤ 9223372036854775807 → (∀ x ∈ l0, x.f0.size ≤ 9223372036854775807 ∧ x.f1.size ≤ 9223372036854775807) → ∃ k, laws_FnExactShowFields.f k l0 = some true
theorem laws_FnExactShowFields.walk (P : laws_FnExactShowFields.Pure) (A0 : Option Addr) (c0 : Nat) (l0 : List (S65)) (w : World) (wl0 : l0.length ≤ 9223372036854775807) (we0 : ∀ x ∈ l0, x.f0.size ≤ 9223372036854775807 ∧ x.f1.size ≤ 9223372036854775807) (hr0 : Kd.C k65 w A0 l0.length l0) (hc0 : l0.length ≤ c0) :
    Calls Tryd.prog 4 #[.slice A0 l0.length c0] w fun e w' => e = .returned (.bool true) ∧ Below w.heap.size w w' := by
  obtain ⟨k, h⟩ := P l0 wl0 we0
  refine (laws_FnExactShowFields.calls k A0 c0 l0 true w hr0 hc0 h).mono ?_
  rintro e w' ⟨rfl, hd⟩
  exact ⟨rfl, hd⟩

end Go.Proofs.YtfebipiccpbdbaaDoor.P
/-! ## Q0 -/
/-
  Small laws on the printed functions' words: loops over a text's bytes, from some number of rounds on. No condition beyond those that each law states.
-/
namespace Go.Proofs.YtfebipiccpbdbaaDoor.Q
open Go.RowKit Go.Proofs.YtfebipiccpbdbaaDoorW.PrintWords Go.Proofs.YtfebipiccpbdbaaDoorW.PrintLast Go.Proofs.YtfebipiccpbdbaaDoorW.PrintMore

theorem wrap_in {i : Int} (h0 : -9223372036854775808 ≤ i) (h1 : i ≤ 9223372036854775807) : wrap64 i = i := by unfold wrap64; omega
theorem wrap_next {i : Nat} {n : Nat} (h : i < n) (hn : n ≤ 4611686018427387904) : wrap64 ((i : Int) + 1) = ((i + 1 : Nat) : Int) := by unfold wrap64; omega

theorem toList_data (s : ByteArray) : s.toList = s.data.toList := ByteArray.toList_eq s
theorem eq_of_toList {a b : ByteArray} (h : a.toList = b.toList) : a = b := by
  rw [toList_data, toList_data] at h
  exact ByteArray.ext (Array.toList_inj.1 h)
theorem bt_get (s : ByteArray) (i : Nat) (h : i < s.size) : (bytesOf s)[i]? = some (bt s i) := by
  rw [← rd_bytesOf]
  have h1 : i < (bytesOf s).length := by rw [bytesOf_length]; exact h
  simp [rd, List.getD_eq_getElem?_getD, List.getElem?_eq_getElem h1]
theorem drop_bt (s : ByteArray) (i : Nat) (h : i < s.size) : (bytesOf s).drop i = bt s i :: (bytesOf s).drop (i + 1) := by
  have h1 : i < (bytesOf s).length := by rw [bytesOf_length]; exact h
  rw [List.drop_eq_getElem_cons h1]
  have := bt_get s i h
  rw [List.getElem?_eq_getElem h1] at this
  rw [Option.some.inj this]
theorem mem_bytes {s : ByteArray} {c : Int} (h : c ∈ bytesOf s) : 0 ≤ c ∧ c ≤ 255 := by
  unfold bytesOf at h
  obtain ⟨b, _, rfl⟩ := List.mem_map.1 h
  have := b.toNat_lt
  omega
theorem bytes_nums (l : List Int) (h : ∀ c ∈ l, 0 ≤ c ∧ c ≤ 255) : bytesOf (strOfNums l) = l := by
  unfold bytesOf
  rw [strOfNums_data, List.map_map]
  refine (List.map_congr_left fun c hc => ?_).trans (List.map_id l)
  have := h c hc
  simp only [Function.comp, UInt8.toNat_ofNat', id]
  omega
theorem nums_bytes (s : ByteArray) : strOfNums (bytesOf s) = s := by
  apply ByteArray.ext
  apply Array.toList_inj.1
  rw [strOfNums_data]
  unfold bytesOf
  rw [List.map_map]
  refine (List.map_congr_left fun c hc => ?_).trans (List.map_id _)
  simp
theorem bytes_inj {a b : ByteArray} (h : bytesOf a = bytesOf b) : a = b := by rw [← nums_bytes a, ← nums_bytes b, h]
theorem bytes_append (a b : ByteArray) : bytesOf (a ++ b) = bytesOf a ++ bytesOf b := by
  unfold bytesOf
  rw [← List.map_append]
  simp [ByteArray.data_append]

/-- A loop over bytes: what a round does with its state and a byte; an end ahead of time. -/
def runL {σ β : Type} (f : σ → Int → σ ⊕ β) (fin : σ → β) : List Int → σ → β
  | [], st => fin st
  | c :: cs, st => match f st c with
    | .inl st' => runL f fin cs st'
    | .inr b => b
/-- The printed loop comes to what 'runL' comes to, from some number of rounds on. -/
theorem ev_run {σ β : Type} (s : ByteArray) (I : σ → Nat → Prop) (f : σ → Int → σ ⊕ β) (fin : σ → β) (g : Nat → σ → Int → Option β) (K : Nat)
    (hstep : ∀ k st (i : Nat), K ≤ k → i < s.size → I st i → (∀ st', f st (bt s i) = .inl st' → g (k + 1) st i = g k st' ((i + 1 : Nat) : Int) ∧ I st' (i + 1)) ∧ (∀ b, f st (bt s i) = .inr b → g (k + 1) st i = some b))
    (hend : ∀ k st, K ≤ k → I st s.size → g (k + 1) st (s.size : Int) = some (fin st)) (st : σ) (h0 : I st 0) :
    Ev (fun k => g k st 0) (runL f fin (bytesOf s) st) := by
  have key : ∀ (d i : Nat) (st : σ), i + d = s.size → I st i → ∀ k, K + d < k → g k st (i : Int) = some (runL f fin ((bytesOf s).drop i) st) := by
    intro d
    induction d with
    | zero =>
      intro i st hd hI k hk
      obtain ⟨k, rfl⟩ : ∃ m, k = m + 1 := ⟨k - 1, by omega⟩
      have e : i = s.size := by omega
      subst e
      rw [hend k st (by omega) hI, List.drop_of_length_le (by rw [bytesOf_length]; exact Nat.le_refl _)]
      rfl
    | succ d ih =>
      intro i st hd hI k hk
      obtain ⟨k, rfl⟩ : ∃ m, k = m + 1 := ⟨k - 1, by omega⟩
      obtain ⟨h1, h2⟩ := hstep k st i (by omega) (by omega) hI
      rw [drop_bt s i (by omega)]
      show g (k + 1) st i = some (match f st (bt s i) with | .inl st' => runL f fin ((bytesOf s).drop (i + 1)) st' | .inr b => b)
      cases hf : f st (bt s i) with
      | inl st' =>
        obtain ⟨e, hI'⟩ := h1 st' hf
        rw [e]
        exact ih (i + 1) st' (by omega) hI' k (by omega)
      | inr b => exact h2 b hf
  refine ⟨K + s.size + 1, fun k hk => ?_⟩
  have := key s.size 0 st (by omega) h0 k (by omega)
  rw [List.drop_zero] at this
  exact this

/-- A loop that asks each byte. -/
theorem ev_all (s : ByteArray) (p : Int → Bool) (g : Nat → Int → Option Bool) (K : Nat)
    (h1 : ∀ k (i : Nat), K ≤ k → i < s.size → p (bt s i) = true → g (k + 1) i = g k ((i + 1 : Nat) : Int))
    (h0 : ∀ k (i : Nat), K ≤ k → i < s.size → p (bt s i) = false → g (k + 1) i = some false)
    (he : ∀ k, K ≤ k → g (k + 1) (s.size : Int) = some true) : Ev (fun k => g k 0) ((bytesOf s).all p) := by
  have h := ev_run (σ := Unit) (β := Bool) s (fun _ _ => True) (fun _ c => if p c = true then .inl () else .inr false) (fun _ => true) (fun k _ i => g k i) K
    (fun k st i hk hi _ => ⟨fun st' e => ⟨h1 k i hk hi (by
        by_cases hp : p (bt s i) = true
        · exact hp
        · rw [if_neg hp] at e; cases e), trivial⟩, fun b e => by
        by_cases hp : p (bt s i) = true
        · rw [if_pos hp] at e; cases e
        · rw [if_neg hp] at e
          obtain rfl : false = b := by injection e
          exact h0 k i hk hi (by simpa using hp)⟩)
    (fun k st hk _ => he k hk) () trivial
  have e : ∀ l : List Int, runL (σ := Unit) (β := Bool) (fun _ c => if p c = true then .inl () else .inr false) (fun _ => true) l () = l.all p := by
    intro l
    induction l with
    | nil => rfl
    | cons c cs ih =>
      rw [List.all_cons]
      unfold runL
      by_cases hp : p c = true
      · simp only [hp, if_true, Bool.true_and]; exact ih
      · simp only [(by simpa using hp : p c = false), Bool.false_and, Bool.false_eq_true, if_false]
  rw [e] at h
  exact h
theorem runL_all {β : Type} (p : Int → Bool) (r b : β) (l : List Int) : runL (σ := Unit) (fun _ c => if p c = true then .inl () else .inr b) (fun _ => r) l () = if l.all p = true then r else b := by
  induction l with
  | nil => rfl
  | cons c cs ih =>
    rw [List.all_cons]
    unfold runL
    by_cases hp : p c = true
    · simp only [hp, if_true, Bool.true_and]; exact ih
    · simp only [(by simpa using hp : p c = false), Bool.false_and, Bool.false_eq_true, if_false]
/-- A loop that asks each byte, and goes on behind it. -/
theorem ev_allr {β : Type} (s : ByteArray) (p : Int → Bool) (r b : β) (g : Nat → Int → Option β) (K : Nat)
    (h1 : ∀ k (i : Nat), K ≤ k → i < s.size → p (bt s i) = true → g (k + 1) i = g k ((i + 1 : Nat) : Int))
    (h0 : ∀ k (i : Nat), K ≤ k → i < s.size → p (bt s i) = false → g (k + 1) i = some b)
    (he : ∀ k, K ≤ k → g (k + 1) (s.size : Int) = some r) : Ev (fun k => g k 0) (if (bytesOf s).all p = true then r else b) := by
  rw [← runL_all p r b (bytesOf s)]
  refine ev_run (σ := Unit) s (fun _ _ => True) (fun _ c => if p c = true then .inl () else .inr b) (fun _ => r) (fun k _ i => g k i) K
    (fun k st i hk hi _ => ⟨fun st' e => ⟨h1 k i hk hi (by
        by_cases hp : p (bt s i) = true
        · exact hp
        · rw [if_neg hp] at e; cases e), trivial⟩, fun b' e => by
        by_cases hp : p (bt s i) = true
        · rw [if_pos hp] at e; cases e
        · rw [if_neg hp] at e
          obtain rfl : b = b' := by injection e
          exact h0 k i hk hi (by simpa using hp)⟩)
    (fun k st hk _ => he k hk) () trivial
/-- A loop that puts something behind a list for each byte. -/
theorem runL_flat {β : Type} (f : Int → List Int) (fin : List Int → β) (l st : List Int) : runL (fun st c => .inl (st ++ f c)) fin l st = fin (st ++ l.flatMap f) := by
  induction l generalizing st with
  | nil => simp [runL]
  | cons c cs ih =>
    unfold runL
    simp only [ih, List.flatMap_cons, List.append_assoc]
theorem ev_const {α : Type} {x : Option α} {r : α} (h : x = some r) : Ev (fun _ => x) r := ⟨0, fun _ _ => h⟩
theorem ev_eq {α : Type} {g : Nat → Option α} {r r' : α} (h : Ev g r) (e : r = r') : Ev g r' := e ▸ h
/-- From a number of rounds on: a law that holds at each such number. -/
theorem ev_now {α : Type} {g : Nat → Option α} {r : α} (K : Nat) (h : ∀ k, K ≤ k → g k = some r) : Ev g r := ⟨K, h⟩
theorem all_congr' {l : List Int} {p q : Int → Bool} (h : ∀ c ∈ l, p c = q c) : l.all p = l.all q := by
  induction l with
  | nil => rfl
  | cons a l ih =>
    rw [List.all_cons, List.all_cons, h a List.mem_cons_self, ih fun c hc => h c (List.mem_cons_of_mem _ hc)]
end Go.Proofs.YtfebipiccpbdbaaDoor.Q
/-! ## Qlist -/
/-
  Loops over lists, as the printed functions run them. No condition.
-/
namespace Go.Proofs.YtfebipiccpbdbaaDoor.Q
set_option linter.unusedVariables false
set_option linter.unusedSimpArgs false
open Go.RowKit Go.Proofs.YtfebipiccpbdbaaDoor.P Go.Proofs.YtfebipiccpbdbaaDoorW.PrintWords Go.Proofs.YtfebipiccpbdbaaDoorW.PrintLast Go.Proofs.YtfebipiccpbdbaaDoorW.PrintMore

theorem drop_at {α : Type} (l : List α) (d : α) (i : Nat) (h : i < l.length) : l.drop i = l.getD i d :: l.drop (i + 1) := by
  rw [List.getD_eq_getElem?_getD, List.getElem?_eq_getElem h]
  exact List.drop_eq_getElem_cons h
/-- A loop over a list: what a round does with its state and an element; an end ahead of time. -/
def runA {α σ β : Type} (f : σ → α → σ ⊕ β) (fin : σ → β) : List α → σ → β
  | [], st => fin st
  | c :: cs, st => match f st c with
    | .inl st' => runA f fin cs st'
    | .inr b => b
theorem ev_list {α σ β : Type} (l : List α) (d : α) (I : σ → Nat → Prop) (f : σ → α → σ ⊕ β) (fin : σ → β) (g : Nat → σ → Int → Option β)
    (hstep : ∀ st (i : Nat), i < l.length → I st i → (∀ st', f st (l.getD i d) = .inl st' → I st' (i + 1) ∧ ∀ r, Ev (fun k => g k st' ((i + 1 : Nat) : Int)) r → Ev (fun k => g k st (i : Int)) r) ∧ (∀ b, f st (l.getD i d) = .inr b → Ev (fun k => g k st (i : Int)) b))
    (hend : ∀ st, I st l.length → Ev (fun k => g k st (l.length : Int)) (fin st)) (st : σ) (h0 : I st 0) :
    Ev (fun k => g k st 0) (runA f fin l st) := by
  have key : ∀ (n i : Nat) (st : σ), i + n = l.length → I st i → Ev (fun k => g k st (i : Int)) (runA f fin (l.drop i) st) := by
    intro n
    induction n with
    | zero =>
      intro i st hd hI
      have e : i = l.length := by omega
      subst e
      rw [List.drop_of_length_le (Nat.le_refl _)]
      exact hend st hI
    | succ n ih =>
      intro i st hd hI
      obtain ⟨h1, h2⟩ := hstep st i (by omega) hI
      rw [drop_at l d i (by omega)]
      show Ev _ (match f st (l.getD i d) with | .inl st' => runA f fin (l.drop (i + 1)) st' | .inr b => b)
      cases hf : f st (l.getD i d) with
      | inl st' =>
        obtain ⟨hI', hr⟩ := h1 st' hf
        exact hr _ (ih (i + 1) st' (by omega) hI')
      | inr b => exact h2 b hf
  have := key l.length 0 st (by omega) h0
  rw [List.drop_zero] at this
  exact this
theorem mem_getD {α : Type} {l : List α} {d : α} {i : Nat} (h : i < l.length) : l.getD i d ∈ l := by
  rw [List.getD_eq_getElem?_getD, List.getElem?_eq_getElem h]
  exact List.getElem_mem h
/-- A loop that asks each element, and goes on behind it. -/
theorem ev_listAll {α β : Type} (l : List α) (d : α) (p : α → Bool) (r b : β) (g : Nat → Int → Option β)
    (h1 : ∀ (i : Nat), i < l.length → p (l.getD i d) = true → ∀ x, Ev (fun k => g k ((i + 1 : Nat) : Int)) x → Ev (fun k => g k (i : Int)) x)
    (h0 : ∀ (i : Nat), i < l.length → p (l.getD i d) = false → Ev (fun k => g k (i : Int)) b)
    (he : Ev (fun k => g k (l.length : Int)) r) : Ev (fun k => g k 0) (if l.all p = true then r else b) := by
  have h := ev_list (σ := Unit) (β := β) l d (fun _ _ => True) (fun _ c => if p c = true then .inl () else .inr b) (fun _ => r) (fun k _ i => g k i)
    (fun st i hi _ => ⟨fun st' e => ⟨trivial, by
        by_cases hp : p (l.getD i d) = true
        · exact h1 i hi hp
        · rw [if_neg hp] at e; cases e⟩, fun b' e => (by
        by_cases hp : p (l.getD i d) = true
        · rw [if_pos hp] at e; cases e
        · rw [if_neg hp] at e
          obtain rfl : b = b' := by injection e
          exact h0 i hi (by simpa using hp))⟩)
    (fun st _ => he) () trivial
  have e : ∀ l : List α, runA (σ := Unit) (β := β) (fun _ c => if p c = true then .inl () else .inr b) (fun _ => r) l () = if l.all p = true then r else b := by
    intro l
    induction l with
    | nil => rfl
    | cons c cs ih =>
      rw [List.all_cons]
      unfold runA
      by_cases hp : p c = true
      · simp only [hp, if_true, Bool.true_and]; exact ih
      · simp only [(by simpa using hp : p c = false), Bool.false_and, Bool.false_eq_true, if_false]
  rw [e] at h
  exact h
theorem all_congrA {α : Type} {l : List α} {p q : α → Bool} (h : ∀ c ∈ l, p c = q c) : l.all p = l.all q := by
  induction l with
  | nil => rfl
  | cons a l ih =>
    rw [List.all_cons, List.all_cons, h a List.mem_cons_self, ih fun c hc => h c (List.mem_cons_of_mem _ hc)]
end Go.Proofs.YtfebipiccpbdbaaDoor.Q
/-! ## Qall -/
/-
  What the byte predicates of impl and spec come to, and 'all' over each. No condition but a text's greatest length.
-/
namespace Go.Proofs.YtfebipiccpbdbaaDoor.Q
set_option linter.unusedVariables false
set_option linter.unusedSimpArgs false
open Go.RowKit Go.Proofs.YtfebipiccpbdbaaDoor.P Go.Proofs.YtfebipiccpbdbaaDoorW.PrintWords Go.Proofs.YtfebipiccpbdbaaDoorW.PrintLast Go.Proofs.YtfebipiccpbdbaaDoorW.PrintMore

def visB (c : Int) : Bool := decide (32 ≤ c) && decide (c ≤ 126) || decide (c = 9)
def digB (c : Int) : Bool := decide (48 ≤ c) && decide (c ≤ 57)
def letB (c : Int) : Bool := decide (97 ≤ c) && decide (c ≤ 122) || decide (65 ≤ c) && decide (c ≤ 90)
def hexB (c : Int) : Bool := digB c || decide (97 ≤ c) && decide (c ≤ 102) || decide (65 ≤ c) && decide (c ≤ 70)
def tagB (c : Int) : Bool := decide (33 ≤ c) && decide (c ≤ 126) && decide (c ≠ 34)
def tokB (c : Int) : Bool := letB c || digB c || decide (c ∈ [33, 35, 36, 37, 38, 39, 42, 43, 45, 46, 94, 95, 124, 126, 96])
def plaB (c : Int) : Bool := letB c || digB c || decide (c ∈ [45, 46, 95, 126, 47, 58, 64, 33, 36, 38, 39, 40, 41, 42, 43, 44, 59, 61])

theorem impl_isVisible_is (c : Int) : impl_isVisible.f c = some (visB c) := by
  unfold impl_isVisible.f visB
  by_cases h1 : c ≥ 32 <;> by_cases h2 : c ≤ 126 <;> simp [h1, h2] <;> (try omega) <;> (try (by_cases h3 : c = 9 <;> simp [h3] <;> omega))
theorem impl_isDigit_is (c : Int) : impl_isDigit.f c = some (digB c) := by
  unfold impl_isDigit.f digB
  by_cases h1 : c ≥ 48 <;> simp [h1] <;> omega
theorem impl_isLetter_is (c : Int) : impl_isLetter.f c = some (letB c) := by
  unfold impl_isLetter.f letB
  by_cases h1 : c ≥ 97 <;> by_cases h2 : c ≤ 122 <;> by_cases h3 : c ≥ 65 <;> by_cases h4 : c ≤ 90 <;> simp [h1, h2, h3, h4] <;> omega

/-- A law on bytes, tried at each. -/
theorem byte_cases {p : Int → Prop} (h : ∀ n : Fin 256, p (n.val : Int)) (c : Int) (h0 : 0 ≤ c) (h1 : c ≤ 255) : p c := by
  have := h ⟨c.toNat, by omega⟩
  rwa [show ((⟨c.toNat, by omega⟩ : Fin 256).val : Int) = c from by show (c.toNat : Int) = c; omega] at this
theorem impl_TokenOk_1_is (c : Int) (h0 : 0 ≤ c) (h1 : c ≤ 255) : impl_TokenOk_1.f c = some (tokB c) :=
  byte_cases (p := fun c => impl_TokenOk_1.f c = some (tokB c)) (by decide +kernel) c h0 h1
theorem spec_l1Token_is (c : Int) (h0 : 0 ≤ c) (h1 : c ≤ 255) : spec_l1Token.f c = some (tokB c) :=
  byte_cases (p := fun c => spec_l1Token.f c = some (tokB c)) (by decide +kernel) c h0 h1
/-- A hexadecimal digit's value, or -1. -/
def hexV (c : Int) : Int := if digB c = true then c - 48 else if 97 ≤ c ∧ c ≤ 102 then c - 87 else if 65 ≤ c ∧ c ≤ 70 then c - 55 else -1
theorem hexV_neg (c : Int) : decide (hexV c < 0) = !hexB c := by
  unfold hexV hexB
  cases h0 : digB c
  · by_cases h1 : 97 ≤ c ∧ c ≤ 102
    · simp [h1]; omega
    · by_cases h2 : 65 ≤ c ∧ c ≤ 70
      · have h1' : (decide (97 ≤ c) && decide (c ≤ 102)) = false := by simp; omega
        simp [h1, h1', h2]; omega
      · have h1' : (decide (97 ≤ c) && decide (c ≤ 102)) = false := by simp; omega
        have h2' : (decide (65 ≤ c) && decide (c ≤ 70)) = false := by simp; omega
        simp [h1, h1', h2, h2']
  · unfold digB at h0
    simp at h0
    simp
    omega
/-- 'all' over a predicate. -/
theorem all_vis (s : ByteArray) (hs : s.size ≤ 9223372036854775807) : impl_all.f s 111 = some ((bytesOf s).all visB) := by
  unfold impl_all.f
  rw [if_pos hs]
  simp only [Nat.reduceEqDiff, if_true, if_false, reduceIte]
  rw [all_congr' fun c hc => (by rw [impl_isVisible_is]; cases visB c <;> rfl : (impl_isVisible.f c == some true) = visB c)]
theorem all_dig (s : ByteArray) (hs : s.size ≤ 9223372036854775807) : impl_all.f s 95 = some ((bytesOf s).all digB) := by
  unfold impl_all.f
  rw [if_pos hs]
  simp only [Nat.reduceEqDiff, if_true, if_false, reduceIte]
  rw [all_congr' fun c hc => (by rw [impl_isDigit_is]; cases digB c <;> rfl : (impl_isDigit.f c == some true) = digB c)]
theorem all_tok (s : ByteArray) (hs : s.size ≤ 9223372036854775807) : impl_all.f s 93 = some ((bytesOf s).all tokB) := by
  unfold impl_all.f
  rw [if_pos hs]
  simp only [Nat.reduceEqDiff, if_true, if_false, reduceIte]
  rw [all_congr' fun c hc => (by rw [impl_TokenOk_1_is c (mem_bytes hc).1 (mem_bytes hc).2]; cases tokB c <;> rfl : (impl_TokenOk_1.f c == some true) = tokB c)]
end Go.Proofs.YtfebipiccpbdbaaDoor.Q
/-! ## Qtok -/
/-
  TokenOk of spec and impl come to one and the same. No condition but a text's greatest length.
-/
namespace Go.Proofs.YtfebipiccpbdbaaDoor.Q
set_option linter.unusedVariables false
set_option linter.unusedSimpArgs false
open Go.RowKit Go.Proofs.YtfebipiccpbdbaaDoor.P Go.Proofs.YtfebipiccpbdbaaDoorW.PrintWords Go.Proofs.YtfebipiccpbdbaaDoorW.PrintLast Go.Proofs.YtfebipiccpbdbaaDoorW.PrintMore

def tokOk (s : ByteArray) : Bool := decide (1 ≤ s.size) && decide (s.size ≤ 64) && (bytesOf s).all tokB
theorem spec_TokenOk_ev (s : ByteArray) (hs : s.size ≤ 4611686018427387904) : Ev (fun k => spec_TokenOk.f k s) (tokOk s) := by
  unfold spec_TokenOk.f tokOk
  by_cases h : (s.size : Int) < 1
  · simp only [if_pos h]
    rw [decide_eq_false (by omega : ¬ 1 ≤ s.size)]
    exact Ev.step (f := fun _ => some false) (fun k => by simp only [spec_TokenOk.j0, if_true]) (Ev.now _)
  · simp only [if_neg h]
    rw [decide_eq_true (by omega : 1 ≤ s.size)]
    by_cases h' : (s.size : Int) > 64
    · rw [decide_eq_true h', decide_eq_false (by omega : ¬ s.size ≤ 64)]
      exact Ev.step (f := fun _ => some false) (fun k => by simp only [spec_TokenOk.j0, if_true]) (Ev.now _)
    · rw [decide_eq_false h', decide_eq_true (by omega : s.size ≤ 64), Bool.true_and, Bool.true_and]
      refine Ev.step (f := fun k => spec_TokenOk.l0 k s 0) (fun k => by simp only [spec_TokenOk.j0, Bool.false_eq_true, if_false]) ?_
      refine ev_all s tokB (fun k i => spec_TokenOk.l0 k s i) 0 (fun k i _ hi hp => ?_) (fun k i _ hi hp => ?_) (fun k _ => ?_)
      · simp only [spec_TokenOk.l0]
        rw [if_pos (by omega), if_pos (by omega), spec_l1Token_is _ (bt_range s i).1 (bt_range s i).2, hp, wrap_next hi hs]
        rfl
      · simp only [spec_TokenOk.l0]
        rw [if_pos (by omega), if_pos (by omega), spec_l1Token_is _ (bt_range s i).1 (bt_range s i).2, hp]
        rfl
      · simp only [spec_TokenOk.l0]
        rw [if_neg (by omega)]
theorem impl_TokenOk_is (s : ByteArray) (hs : s.size ≤ 4611686018427387904) : impl_TokenOk.f s = some (tokOk s) := by
  unfold impl_TokenOk.f tokOk
  by_cases h : (s.size : Int) ≥ 1
  · rw [if_pos h]
    by_cases h' : (s.size : Int) ≤ 64
    · rw [if_pos h', all_tok s (by omega), decide_eq_true (by omega : 1 ≤ s.size), decide_eq_true (by omega : s.size ≤ 64), Bool.true_and, Bool.true_and]; rfl
    · rw [if_neg h', decide_eq_false (by omega : ¬ s.size ≤ 64), Bool.and_false]; rfl
  · rw [if_neg h, decide_eq_false (by omega : ¬ 1 ≤ s.size)]; rfl
end Go.Proofs.YtfebipiccpbdbaaDoor.Q
/-! ## Qbytes -/
/-
  Bytes of parts of a text. No condition.
-/
namespace Go.Proofs.YtfebipiccpbdbaaDoor.Q
set_option linter.unusedVariables false
set_option linter.unusedSimpArgs false
open Go.RowKit Go.Proofs.YtfebipiccpbdbaaDoor.P Go.Proofs.YtfebipiccpbdbaaDoorW.PrintWords Go.Proofs.YtfebipiccpbdbaaDoorW.PrintLast Go.Proofs.YtfebipiccpbdbaaDoorW.PrintMore

theorem bytes_extract (s : ByteArray) (a b : Nat) : bytesOf (s.extract a b) = ((bytesOf s).drop a).take (b - a) := by
  unfold bytesOf
  rw [Lib.extract_data, List.map_take, List.map_drop]
theorem bytes_last (s : ByteArray) (h : 0 < s.size) : bytesOf s = bytesOf (s.extract 0 (s.size - 1)) ++ [bt s ((s.size - 1 : Nat) : Int)] := by
  rw [bytes_extract, List.drop_zero, Nat.sub_zero]
  have h1 := drop_bt s (s.size - 1) (by omega)
  have h2 : (bytesOf s).drop (s.size - 1 + 1) = [] := List.drop_of_length_le (by rw [bytesOf_length]; omega)
  rw [h2] at h1
  rw [← h1, List.take_append_drop]
theorem bytes_first (s : ByteArray) (h : 0 < s.size) : bytesOf s = bt s 0 :: bytesOf (s.extract 1 s.size) := by
  rw [bytes_extract]
  have h1 := drop_bt s 0 h
  rw [List.drop_zero] at h1
  rw [List.take_of_length_le (by rw [List.length_drop, bytesOf_length]; exact Nat.le_refl _)]
  exact h1
theorem size_extract (s : ByteArray) (a b : Nat) (hb : b ≤ s.size) : (s.extract a b).size = b - a := by
  rw [← bytesOf_length, bytes_extract, List.length_take, List.length_drop, bytesOf_length]
  omega
theorem toList_nil (s : ByteArray) : s.toList = [] ↔ s.size = 0 := by
  rw [toList_data, ← data_length]
  exact List.length_eq_zero_iff.symm
theorem bytes_nil (s : ByteArray) (h : s.size = 0) : bytesOf s = [] := List.eq_nil_of_length_eq_zero (by rw [bytesOf_length]; exact h)
theorem bytes_ofList (l : List UInt8) : bytesOf ⟨l.toArray⟩ = l.map fun b => (b.toNat : Int) := by
  unfold bytesOf
  rfl
theorem bytes_two (s : ByteArray) (i : Nat) (h : i + 2 ≤ s.size) : bytesOf (s.extract i (i + 2)) = [bt s (i : Int), bt s ((i + 1 : Nat) : Int)] := by
  rw [bytes_extract, drop_bt s i (by omega), drop_bt s (i + 1) (by omega), show i + 2 - i = 2 from by omega]
  rfl
end Go.Proofs.YtfebipiccpbdbaaDoor.Q
/-! ## Qtrim -/
/-
  Trimmed of spec and impl: a text without the blanks at its ends. Condition: a text's greatest length.
-/
namespace Go.Proofs.YtfebipiccpbdbaaDoor.Q
set_option linter.unusedVariables false
set_option linter.unusedSimpArgs false
open Go.RowKit Go.Proofs.YtfebipiccpbdbaaDoor.P Go.Proofs.YtfebipiccpbdbaaDoorW.PrintWords Go.Proofs.YtfebipiccpbdbaaDoorW.PrintLast Go.Proofs.YtfebipiccpbdbaaDoorW.PrintMore

def blaB (c : Int) : Bool := decide (c = 32) || decide (c = 9)
/-- A list without the blanks at its beginning, at its end. -/
def dropL (l : List Int) : List Int := l.dropWhile blaB
def dropR (l : List Int) : List Int := (l.reverse.dropWhile blaB).reverse
def trimN (l : List Int) : List Int := dropL (dropR l)
theorem dropR_nil : dropR [] = [] := rfl
theorem dropR_snoc (l : List Int) (c : Int) : dropR (l ++ [c]) = if blaB c = true then dropR l else l ++ [c] := by
  unfold dropR
  rw [List.reverse_append, List.reverse_singleton, List.singleton_append, List.dropWhile_cons]
  split
  · rfl
  · simp
theorem dropL_cons (l : List Int) (c : Int) : dropL (c :: l) = if blaB c = true then dropL l else c :: l := by
  unfold dropL
  rw [List.dropWhile_cons]
theorem drop_comm (l : List Int) : dropR (dropL l) = dropL (dropR l) := by
  induction l with
  | nil => rfl
  | cons c cs ih =>
    rw [dropL_cons]
    by_cases h : blaB c = true
    · rw [if_pos h, ih]
      have key : ∀ l : List Int, dropL (dropR (c :: l)) = dropL (dropR l) := by
        intro l
        have aux : ∀ n : Nat, ∀ l : List Int, l.length = n → dropL (dropR (c :: l)) = dropL (dropR l) := by
          intro n
          induction n with
          | zero =>
            intro l hl
            obtain rfl := List.eq_nil_of_length_eq_zero hl
            have : dropR [c] = [] := by
              have := dropR_snoc [] c
              rw [List.nil_append, if_pos h] at this
              exact this
            rw [this, dropR_nil]
          | succ n ihn =>
            intro l hl
            obtain ⟨l', x, rfl⟩ : ∃ l' x, l = l' ++ [x] := ⟨l.dropLast, l.getLast (by intro e; rw [e] at hl; cases hl), (List.dropLast_concat_getLast _).symm⟩
            rw [← List.cons_append, dropR_snoc, dropR_snoc]
            by_cases hx : blaB x = true
            · rw [if_pos hx, if_pos hx]
              exact ihn l' (by simpa using hl)
            · rw [if_neg hx, if_neg hx, List.cons_append, dropL_cons, if_pos h]
        exact aux _ l rfl
      exact (key cs).symm
    · rw [if_neg h]
      have : ∃ l', dropR (c :: cs) = c :: l' := by
        have aux : ∀ n : Nat, ∀ l : List Int, l.length = n → ∃ l', dropR (c :: l) = c :: l' := by
          intro n
          induction n with
          | zero =>
            intro l hl
            obtain rfl := List.eq_nil_of_length_eq_zero hl
            have := dropR_snoc [] c
            rw [List.nil_append, if_neg h] at this
            exact ⟨[], this⟩
          | succ n ihn =>
            intro l hl
            obtain ⟨l', x, rfl⟩ : ∃ l' x, l = l' ++ [x] := ⟨l.dropLast, l.getLast (by intro e; rw [e] at hl; cases hl), (List.dropLast_concat_getLast _).symm⟩
            rw [← List.cons_append, dropR_snoc]
            by_cases hx : blaB x = true
            · rw [if_pos hx]
              exact ihn l' (by simpa using hl)
            · rw [if_neg hx]
              exact ⟨l' ++ [x], rfl⟩
        exact aux _ cs rfl
      obtain ⟨l', e⟩ := this
      rw [e, dropL_cons, if_neg h]
theorem spec_l1Blank_is (c : Int) : spec_l1Blank.f c = some (blaB c) := by
  unfold spec_l1Blank.f blaB
  by_cases h : c = 32
  · simp [h]
  · by_cases h2 : c = 9 <;> simp [h, h2]
theorem spec_Trimmed_right (n : Nat) : ∀ s : ByteArray, s.size = n → n ≤ 4611686018427387904 → Ev (fun k => spec_Trimmed.l1 k s) (strOfNums (dropR (bytesOf s))) := by
  induction n with
  | zero =>
    intro s hs _
    refine Ev.step (f := fun _ => some s) (fun k => ?_) (ev_eq (Ev.now _) ?_)
    · simp only [spec_Trimmed.l1]
      rw [if_pos ((toList_nil s).2 hs)]
    · rw [bytes_nil s hs, dropR_nil, ← bytes_nil s hs, nums_bytes]
  | succ n ih =>
    intro s hs hn
    have e := bytes_last s (by omega)
    have hi : wrap64 ((s.size : Int) - 1) = ((s.size - 1 : Nat) : Int) := by rw [wrap_in (by omega) (by omega)]; omega
    rw [e, dropR_snoc, ← e]
    by_cases hb : blaB (bt s ((s.size - 1 : Nat) : Int)) = true
    · rw [if_pos hb]
      refine Ev.step (f := fun k => spec_Trimmed.l1 k (s.extract 0 (s.size - 1))) (fun k => ?_) (ih _ (by rw [size_extract s _ _ (by omega)]; omega) (by omega))
      simp only [spec_Trimmed.l1]
      rw [if_neg (by rw [toList_nil]; omega), hi, if_pos (by omega), if_pos (by omega), spec_l1Blank_is]
      simp only [Option.bind_some]
      rw [if_pos hb, if_pos (by omega), Int.toNat_natCast]
    · rw [if_neg hb, nums_bytes]
      refine Ev.step (f := fun _ => some s) (fun k => ?_) (Ev.now _)
      simp only [spec_Trimmed.l1]
      rw [if_neg (by rw [toList_nil]; omega), hi, if_pos (by omega), if_pos (by omega), spec_l1Blank_is]
      simp only [Option.bind_some]
      rw [if_neg hb]
theorem spec_Trimmed_left (n : Nat) : ∀ s : ByteArray, s.size = n → n ≤ 4611686018427387904 → Ev (fun k => spec_Trimmed.l0 k s) (strOfNums (dropR (dropL (bytesOf s)))) := by
  induction n with
  | zero =>
    intro s hs h0
    refine Ev.step (f := fun k => spec_Trimmed.j1 k s) (fun k => ?_) (Ev.step (f := fun k => spec_Trimmed.l1 k s) (fun k => ?_) (ev_eq (spec_Trimmed_right 0 s hs h0) ?_))
    · simp only [spec_Trimmed.l0]
      rw [if_pos ((toList_nil s).2 hs)]
    · simp only [spec_Trimmed.j1]
    · rw [bytes_nil s hs]; rfl
  | succ n ih =>
    intro s hs hn
    have e := bytes_first s (by omega)
    rw [e, dropL_cons, ← e]
    by_cases hb : blaB (bt s 0) = true
    · rw [if_pos hb]
      refine Ev.step (f := fun k => spec_Trimmed.l0 k (s.extract 1 s.size)) (fun k => ?_) (ih _ (by rw [size_extract s _ _ (by omega)]; omega) (by omega))
      simp only [spec_Trimmed.l0]
      rw [if_neg (by rw [toList_nil]; omega), if_pos (by omega), spec_l1Blank_is]
      simp only [Option.bind_some]
      rw [if_pos hb, if_pos (by omega)]
    · rw [if_neg hb]
      refine Ev.step (f := fun k => spec_Trimmed.j1 k s) (fun k => ?_) (Ev.step (f := fun k => spec_Trimmed.l1 k s) (fun k => ?_) (spec_Trimmed_right _ s rfl (by omega)))
      · simp only [spec_Trimmed.l0]
        rw [if_neg (by rw [toList_nil]; omega), if_pos (by omega), spec_l1Blank_is]
        simp only [Option.bind_some]
        rw [if_neg hb]
      · simp only [spec_Trimmed.j1]
/-- A text without the blanks at its ends. -/
def trimT (s : ByteArray) : ByteArray := strOfNums (trimN (bytesOf s))
theorem spec_Trimmed_ev (s : ByteArray) (hs : s.size ≤ 4611686018427387904) : Ev (fun k => spec_Trimmed.f k s) (trimT s) := by
  unfold spec_Trimmed.f trimT trimN
  rw [← drop_comm]
  exact spec_Trimmed_left _ s rfl hs
theorem bla_u8 (b : UInt8) : ([32, 9] : List UInt8).contains b = blaB (b.toNat : Int) := by
  have n32 : (b.toNat : Int) = 32 → b = 32 := fun h => by
    refine UInt8.toNat_inj.1 ?_
    have e : b.toNat = 32 := by omega
    rw [e]; rfl
  have n9 : (b.toNat : Int) = 9 → b = 9 := fun h => by
    refine UInt8.toNat_inj.1 ?_
    have e : b.toNat = 9 := by omega
    rw [e]; rfl
  have h1 : b = 32 ↔ (b.toNat : Int) = 32 := ⟨fun h => by rw [h]; rfl, n32⟩
  have h2 : b = 9 ↔ (b.toNat : Int) = 9 := ⟨fun h => by rw [h]; rfl, n9⟩
  unfold blaB
  rw [show decide ((b.toNat : Int) = 32) = decide (b = 32) from decide_eq_decide.2 h1.symm, show decide ((b.toNat : Int) = 9) = decide (b = 9) from decide_eq_decide.2 h2.symm]
  by_cases a : b = 32
  · simp [a]
  · by_cases c : b = 9 <;> simp [a, c]
theorem dropW_map (l : List UInt8) : (l.dropWhile (([32, 9] : List UInt8).contains ·)).map (fun b => (b.toNat : Int)) = dropL (l.map fun b => (b.toNat : Int)) := by
  induction l with
  | nil => rfl
  | cons b l ih =>
    rw [List.map_cons, dropL_cons, List.dropWhile_cons, bla_u8]
    split
    · exact ih
    · rfl
theorem impl_Trimmed_is (s : ByteArray) (hs : s.size ≤ 9223372036854775807) : impl_Trimmed.f s = some (trimT s) := by
  unfold impl_Trimmed.f strings_Trim.f
  rw [if_pos ⟨hs, by decide, by decide⟩]
  refine congrArg some (bytes_inj ?_)
  have h0 : ∀ c ∈ trimN (bytesOf s), 0 ≤ c ∧ c ≤ 255 := by
    intro c hc
    refine mem_bytes (s := s) ?_
    unfold trimN dropL dropR at hc
    have h1 := (List.dropWhile_sublist _).subset hc
    rw [List.mem_reverse] at h1
    have h2 := (List.dropWhile_sublist _).subset h1
    rwa [List.mem_reverse] at h2
  unfold trimT
  rw [bytes_nums _ h0, bytes_ofList]
  unfold Lib.trimS Lib.trimLeftS Lib.trimRightS trimN dropR
  rw [show ((⟨#[32, 9]⟩ : ByteArray).data.toList) = ([32, 9] : List UInt8) from rfl, dropW_map, List.map_reverse, dropW_map, List.map_reverse]
  rfl
end Go.Proofs.YtfebipiccpbdbaaDoor.Q
/-! ## Qvis -/
/-
  VisibleOk of spec and impl come to one and the same. No condition but a text's greatest length.
-/
namespace Go.Proofs.YtfebipiccpbdbaaDoor.Q
set_option linter.unusedVariables false
set_option linter.unusedSimpArgs false
open Go.RowKit Go.Proofs.YtfebipiccpbdbaaDoor.P Go.Proofs.YtfebipiccpbdbaaDoorW.PrintWords Go.Proofs.YtfebipiccpbdbaaDoorW.PrintLast Go.Proofs.YtfebipiccpbdbaaDoorW.PrintMore

def visOk (s : ByteArray) : Bool := decide (s.size ≤ 400) && (bytesOf s).all visB
theorem spec_VisibleOk_ev (s : ByteArray) (hs : s.size ≤ 4611686018427387904) : Ev (fun k => spec_VisibleOk.f k s) (visOk s) := by
  unfold spec_VisibleOk.f visOk
  by_cases h : (s.size : Int) > 400
  · simp only [if_pos h]
    exact ev_const (by rw [decide_eq_false (by omega), Bool.false_and])
  · simp only [if_neg h]
    rw [decide_eq_true (by omega), Bool.true_and]
    refine ev_all s visB (fun k i => spec_VisibleOk.l0 k s i) 0 (fun k i _ hi hp => ?_) (fun k i _ hi hp => ?_) (fun k _ => ?_)
    · simp only [spec_VisibleOk.l0]
      rw [if_pos (by omega), if_pos (by omega), wrap_next hi hs]
      unfold visB at hp
      by_cases h1 : bt s i < 32
      · have h9 : bt s i = 9 := by simp at hp; omega
        rw [if_pos h1, if_pos h9]
      · rw [if_neg h1]
        by_cases h2 : bt s i > 126
        · have h9 : bt s i = 9 := by simp at hp; omega
          rw [if_pos h2, if_pos h9]
        · rw [if_neg h2]
    · simp only [spec_VisibleOk.l0]
      rw [if_pos (by omega), if_pos (by omega)]
      unfold visB at hp
      simp at hp
      by_cases h1 : bt s i < 32
      · rw [if_pos h1, if_neg hp.2]
      · rw [if_neg h1, if_pos (by omega), if_neg hp.2]
    · simp only [spec_VisibleOk.l0]
      rw [if_neg (by omega)]
theorem impl_VisibleOk_is (s : ByteArray) (hs : s.size ≤ 4611686018427387904) : impl_VisibleOk.f s = some (visOk s) := by
  unfold impl_VisibleOk.f visOk
  by_cases h : (s.size : Int) ≤ 400
  · rw [if_pos h, all_vis s (by omega), decide_eq_true (by omega), Bool.true_and]; rfl
  · rw [if_neg h, decide_eq_false (by omega), Bool.false_and]
end Go.Proofs.YtfebipiccpbdbaaDoor.Q
/-! ## Qfields -/
/-
  Fields: what a field is, FieldsOk of spec and impl, and how laws measure, copy and compare fields. Condition: the texts' greatest lengths.
-/
namespace Go.Proofs.YtfebipiccpbdbaaDoor.Q
set_option linter.unusedVariables false
set_option linter.unusedSimpArgs false
open Go.RowKit Go.Proofs.YtfebipiccpbdbaaDoor.P Go.Proofs.YtfebipiccpbdbaaDoorW.PrintWords Go.Proofs.YtfebipiccpbdbaaDoorW.PrintLast Go.Proofs.YtfebipiccpbdbaaDoorW.PrintMore

abbrev Fld := S67
abbrev FldL := S65
def isFieldB (n v : ByteArray) : Bool := tokOk n && (visOk v && (trimT v).toList == v.toList)
theorem spec_l4Field_ev (n v : ByteArray) (hn : n.size ≤ 4611686018427387904) (hv : v.size ≤ 4611686018427387904) : Ev (fun k => spec_l4Field.f k n v) (isFieldB n v) := by
  unfold spec_l4Field.f isFieldB
  refine Ev.bind (spec_TokenOk_ev n hn) ?_
  cases tokOk n
  · exact Ev.now _
  · simp only [if_true, Bool.true_and]
    refine Ev.bind (spec_VisibleOk_ev v hv) ?_
    cases visOk v
    · exact Ev.now _
    · simp only [if_true, Bool.true_and]
      exact Ev.bind (spec_Trimmed_ev v hv) (Ev.now _)
theorem impl_isField_is (n v : ByteArray) (hn : n.size ≤ 4611686018427387904) (hv : v.size ≤ 4611686018427387904) : impl_isField.f n v = some (isFieldB n v) := by
  unfold impl_isField.f isFieldB
  rw [impl_TokenOk_is n hn, impl_VisibleOk_is v hv, impl_Trimmed_is v (by omega)]
  cases tokOk n <;> cases visOk v <;> rfl
/-- Fields whose texts are not longer than a machine's memory. -/
def Mild (l : List Fld) : Prop := l.length ≤ 1048576 ∧ ∀ x ∈ l, x.f0.size ≤ 1048576 ∧ x.f1.size ≤ 1048576
def fieldsOk (l : List Fld) : Bool := decide (l.length ≤ 30) && l.all fun x => isFieldB x.f0 x.f1
theorem rd_fld (l : List Fld) (i : Nat) : rd_T67 l (i : Int) = l.getD i z67 := by
  unfold rd_T67
  rw [Int.toNat_natCast]
theorem rd_fldL (l : List FldL) (i : Nat) : rd_T65 l (i : Int) = l.getD i z65 := by
  unfold rd_T65
  rw [Int.toNat_natCast]
theorem spec_FieldsOk_ev (l : List Fld) (h : Mild l) : Ev (fun k => spec_FieldsOk.f k l) (fieldsOk l) := by
  unfold spec_FieldsOk.f fieldsOk
  have hl := h.1
  by_cases h0 : (l.length : Int) > 30
  · simp only [if_pos h0]
    rw [decide_eq_false (by omega), Bool.false_and]
    exact Ev.now _
  · simp only [if_neg h0]
    rw [decide_eq_true (by omega), Bool.true_and]
    refine ev_eq (ev_listAll l z67 (fun x => isFieldB x.f0 x.f1) true false (fun k i => spec_FieldsOk.l0 k l i) (fun i hi hp x hx => ?_) (fun i hi hp => ?_) ?_) (by cases l.all _ <;> rfl)
    · have hm := h.2 _ (mem_getD (d := z67) hi)
      refine Ev.step (f := fun k => (spec_l4Field.f k (l.getD i z67).f0 (l.getD i z67).f1).bind fun t => if t = true then spec_FieldsOk.l0 k l (((i + 1 : Nat) : Int)) else some false) (fun k => ?_) (Ev.bind (spec_l4Field_ev _ _ (by omega) (by omega)) ?_)
      · simp only [spec_FieldsOk.l0]
        rw [if_pos (by omega), if_pos (by omega), rd_fld, wrap_next hi (by omega)]
      · simp only [hp, if_true]
        exact hx
    · have hm := h.2 _ (mem_getD (d := z67) hi)
      refine Ev.step (f := fun k => (spec_l4Field.f k (l.getD i z67).f0 (l.getD i z67).f1).bind fun t => if t = true then spec_FieldsOk.l0 k l (((i + 1 : Nat) : Int)) else some false) (fun k => ?_) (Ev.bind (spec_l4Field_ev _ _ (by omega) (by omega)) ?_)
      · simp only [spec_FieldsOk.l0]
        rw [if_pos (by omega), if_pos (by omega), rd_fld, wrap_next hi (by omega)]
      · simp only [hp]
        exact Ev.now _
    · refine Ev.step (f := fun _ => some true) (fun k => ?_) (Ev.now _)
      simp only [spec_FieldsOk.l0]
      rw [if_neg (by omega)]
theorem impl_FieldsOk_is (l : List Fld) (h : Mild l) : impl_FieldsOk.f l = some (fieldsOk l) := by
  unfold impl_FieldsOk.f fieldsOk
  by_cases h0 : (l.length : Int) ≤ 30
  · rw [if_pos h0, decide_eq_true (by omega), Bool.true_and]
    have hx : ∀ x ∈ l, impl_FieldsOk_1.f x.f0 x.f1 = some (!isFieldB x.f0 x.f1) := by
      intro x hx
      have := h.2 x hx
      unfold impl_FieldsOk_1.f
      rw [impl_isField_is _ _ (by omega) (by omega)]
      rfl
    unfold impl_Field.f
    rw [if_pos ⟨rfl, List.all_eq_true.2 fun x hm => by rw [hx x hm]; rfl⟩]
    simp only [Option.bind_some]
    refine congrArg some ?_
    have : ∀ m : List Fld, (∀ x ∈ m, impl_FieldsOk_1.f x.f0 x.f1 = some (!isFieldB x.f0 x.f1)) → (!(m.any fun x => impl_FieldsOk_1.f x.f0 x.f1 == some true)) = m.all fun x => isFieldB x.f0 x.f1 := by
      intro m
      induction m with
      | nil => intro _; rfl
      | cons a m ih =>
        intro hm
        rw [List.any_cons, List.all_cons, hm a List.mem_cons_self, Bool.not_or, ih fun x hx => hm x (List.mem_cons_of_mem _ hx)]
        cases isFieldB a.f0 a.f1 <;> rfl
    exact this l hx
  · rw [if_neg h0, decide_eq_false (by omega), Bool.false_and]
/-- A field as the laws have it, turned into one of the program's. -/
def conv (x : FldL) : Fld := ⟨x.f0, x.f1⟩
/-- How laws measure fields: what is left, or nothing. -/
theorem szFieldS_ev (l : List FldL) (left : Int) (h0 : 0 ≤ left) (h1 : left ≤ 1048576) (hl : l.length ≤ 9223372036854775807) (hx : ∀ x ∈ l, x.f0.size ≤ 9223372036854775807 ∧ x.f1.size ≤ 9223372036854775807) :
    ∃ r, Ev (fun k => laws_szFieldS.f k l left) r ∧ r ≤ left ∧ (0 ≤ r → Mild (l.map conv)) := by
  have hw : wrap64 (left - (l.length : Int)) = left - (l.length : Int) := wrap_in (by omega) (by omega)
  unfold laws_szFieldS.f
  rw [hw]
  by_cases hn : left - (l.length : Int) < 0
  · simp only [if_pos hn]
    exact ⟨-1, Ev.now _, by omega, fun h => by omega⟩
  · simp only [if_neg hn]
    have key : ∀ (n i : Nat) (st : Int), i + n = l.length → 0 ≤ st → st ≤ 1048576 → ∃ r, Ev (fun k => laws_szFieldS.l0 k l st (i : Int)) r ∧ r ≤ st ∧ (0 ≤ r → ∀ x ∈ l.drop i, x.f0.size ≤ 1048576 ∧ x.f1.size ≤ 1048576) := by
      intro n
      induction n with
      | zero =>
        intro i st hd _ _
        refine ⟨st, Ev.step (f := fun _ => some st) (fun k => ?_) (Ev.now _), Int.le_refl _, fun _ x hx => ?_⟩
        · simp only [laws_szFieldS.l0]
          rw [if_neg (by omega)]
        · rw [List.drop_of_length_le (by omega)] at hx
          cases hx
      | succ n ih =>
        intro i st hd s0 s1
        have hm := hx _ (mem_getD (l := l) (d := z65) (i := i) (by omega))
        obtain ⟨x, hxe⟩ : ∃ x, l.getD i z65 = x := ⟨_, rfl⟩
        rw [hxe] at hm
        have e0 : ∀ k, laws_szFieldS.l0 (k + 1) l st (i : Int) = (laws_szField.f x.f0 x.f1 st).bind fun t => if t < 0 then some (-1) else laws_szFieldS.l0 k l t (((i + 1 : Nat) : Int)) := by
          intro k
          simp only [laws_szFieldS.l0]
          have hw2 : wrap64 ((i : Int) + 1) = ((i + 1 : Nat) : Int) := by rw [wrap_in (by omega) (by omega)]; omega
          rw [if_pos (by omega), if_pos (by omega), rd_fldL, hxe, hw2]
        have e1 : laws_szField.f x.f0 x.f1 st = some (if st - (x.f0.size : Int) < 0 then -1 else if st - (x.f0.size : Int) - (x.f1.size : Int) < 0 then -1 else st - (x.f0.size : Int) - (x.f1.size : Int)) := by
          unfold laws_szField.f
          rw [wrap_in (i := st - (x.f0.size : Int)) (by omega) (by omega)]
          by_cases a : st - (x.f0.size : Int) < 0
          · rw [if_pos a, if_pos a]
          · rw [if_neg a, if_neg a, wrap_in (i := st - (x.f0.size : Int) - (x.f1.size : Int)) (by omega) (by omega)]
            by_cases b : st - (x.f0.size : Int) - (x.f1.size : Int) < 0
            · rw [if_pos b, if_pos b]
            · rw [if_neg b, if_neg b]
        obtain ⟨t, ht⟩ : ∃ t, (if st - (x.f0.size : Int) < 0 then -1 else if st - (x.f0.size : Int) - (x.f1.size : Int) < 0 then -1 else st - (x.f0.size : Int) - (x.f1.size : Int)) = t := ⟨_, rfl⟩
        rw [ht] at e1
        by_cases hneg : t < 0
        · refine ⟨-1, Ev.step (f := fun _ => some (-1)) (fun k => ?_) (Ev.now _), by omega, fun h => by omega⟩
          rw [e0, e1]
          simp only [Option.bind_some, if_pos hneg]
        · have hb : t ≤ st ∧ x.f0.size ≤ 1048576 ∧ x.f1.size ≤ 1048576 := by
            split at ht
            · omega
            · split at ht <;> omega
          obtain ⟨r, hr, hle, hq⟩ := ih (i + 1) t (by omega) (by omega) (by omega)
          refine ⟨r, Ev.step (f := fun k => laws_szFieldS.l0 k l t (((i + 1 : Nat) : Int))) (fun k => ?_) hr, by omega, fun h z hz => ?_⟩
          · rw [e0, e1]
            simp only [Option.bind_some, if_neg hneg]
          · rw [drop_at l z65 i (by omega), hxe] at hz
            rcases List.mem_cons.1 hz with rfl | hz
            · exact hb.2
            · exact hq h z hz
    obtain ⟨r, hr, hle, hq⟩ := key l.length 0 (left - (l.length : Int)) (by omega) (by omega) (by omega)
    refine ⟨r, hr, by omega, fun h => ⟨by rw [List.length_map]; omega, fun x hx => ?_⟩⟩
    obtain ⟨y, hy, rfl⟩ := List.mem_map.1 hx
    rw [List.drop_zero] at hq
    exact hq h y hy
theorem toFieldS_ev (l : List FldL) (hl : l.length ≤ 1048576) : Ev (fun k => laws_toFieldS.f k l) (l.map conv) := by
  unfold laws_toFieldS.f
  have key : ∀ (n i : Nat), i + n = l.length → Ev (fun k => laws_toFieldS.l0 k l ((l.map conv).take i ++ List.replicate n z67) (i : Int)) (l.map conv) := by
    intro n
    induction n with
    | zero =>
      intro i hd
      refine Ev.step (f := fun _ => some (l.map conv)) (fun k => ?_) (Ev.now _)
      simp only [laws_toFieldS.l0]
      rw [if_neg (by omega), List.replicate_zero, List.append_nil, List.take_of_length_le (by rw [List.length_map]; omega)]
    | succ n ih =>
      intro i hd
      refine Ev.step (f := fun k => laws_toFieldS.l0 k l ((l.map conv).take (i + 1) ++ List.replicate n z67) (((i + 1 : Nat) : Int))) (fun k => ?_) (ih (i + 1) (by omega))
      simp only [laws_toFieldS.l0, laws_toField.f, Option.bind_some]
      have hlen : ((l.map conv).take i ++ List.replicate (n + 1) z67).length = l.length := by
        rw [List.length_append, List.length_take, List.length_map, List.length_replicate]; omega
      rw [if_pos (by omega), if_pos (by omega), hlen, if_pos (by omega), rd_fldL, wrap_next (by omega : i < l.length) (by omega), Int.toNat_natCast]
      have hi : i < (l.map conv).length := by rw [List.length_map]; omega
      have e : (l.map conv).take (i + 1) = (l.map conv).take i ++ [conv (l.getD i z65)] := by
        rw [List.take_add_one, List.getElem?_eq_getElem hi, List.getElem_map, List.getD_eq_getElem?_getD, List.getElem?_eq_getElem (by omega : i < l.length)]
        rfl
      rw [e, List.set_append, List.length_take, List.length_map, if_neg (by omega), Nat.min_eq_left (by omega), Nat.sub_self, List.replicate_succ, List.set_cons_zero, List.append_assoc]
      rfl
  have h0 := key l.length 0 (by omega)
  rw [List.take_zero, List.nil_append] at h0
  refine Ev.congr (fun k => ?_) h0
  rw [Int.toNat_natCast, if_pos (by omega), if_pos (by omega)]
  rfl
theorem eqFieldS_self (l : List Fld) (hl : l.length ≤ 1048576) : Ev (fun k => laws_eqFieldS.f k l l) true := by
  unfold laws_eqFieldS.f
  simp only [if_true]
  refine ev_eq (ev_listAll l z67 (fun _ => true) true false (fun k i => laws_eqFieldS.l0 k l l i) (fun i hi _ x hx => Ev.step (f := fun k => laws_eqFieldS.l0 k l l (((i + 1 : Nat) : Int))) (fun k => ?_) hx) (fun i hi hp => by cases hp) (Ev.step (f := fun _ => some true) (fun k => ?_) (Ev.now _))) (by simp)
  · simp only [laws_eqFieldS.l0, laws_eqField.f]
    rw [if_pos (by omega), if_pos (by omega), if_pos (by omega), wrap_next hi (by omega)]
    simp
  · simp only [laws_eqFieldS.l0]
    rw [if_neg (by omega)]
end Go.Proofs.YtfebipiccpbdbaaDoor.Q
/-! ## Qshow -/
/-
  The lines of fields: l4Show of spec, showFields of impl. Condition: the texts' greatest lengths.
-/
namespace Go.Proofs.YtfebipiccpbdbaaDoor.Q
set_option linter.unusedVariables false
set_option linter.unusedSimpArgs false
open Go.RowKit Go.Proofs.YtfebipiccpbdbaaDoor.P Go.Proofs.YtfebipiccpbdbaaDoorW.PrintWords Go.Proofs.YtfebipiccpbdbaaDoorW.PrintLast Go.Proofs.YtfebipiccpbdbaaDoorW.PrintMore

def showT (l : List Fld) : ByteArray := ⟨(showL l).toArray⟩
theorem showT_bytes (l : List Fld) : bytesOf (showT l) = (showL l).map fun b => (b.toNat : Int) := bytes_ofList _
theorem showT_nums (l : List Fld) : strOfNums ((showL l).map fun b => (b.toNat : Int)) = showT l := by rw [← showT_bytes, nums_bytes]
theorem showT_size (l : List Fld) : (showT l).size = (showL l).length := by
  show (showL l).toArray.size = _
  simp
theorem line_bytes (x : Fld) : bytesOf (x.f0 ++ (⟨#[58, 32]⟩ : ByteArray) ++ x.f1 ++ (⟨#[13, 10]⟩ : ByteArray)) = (lineL x).map fun b => (b.toNat : Int) := by
  unfold bytesOf
  rw [line_data]
theorem showL_length_le (l : List Fld) (m : Nat) (h : ∀ x ∈ l, x.f0.size ≤ m ∧ x.f1.size ≤ m) : (showL l).length ≤ l.length * (2 * m + 4) := by
  unfold showL
  induction l with
  | nil => simp
  | cons a l ih =>
    rw [List.flatMap_cons, List.length_append, lineL_length, List.length_cons, Nat.add_mul, Nat.one_mul]
    have := h a List.mem_cons_self
    have := ih fun x hx => h x (List.mem_cons_of_mem _ hx)
    omega
theorem spec_l4Show_ev (l : List Fld) (hl : l.length ≤ 1048577) (hm : ∀ x ∈ l, x.f0.size ≤ 1048576 ∧ x.f1.size ≤ 1048576) : Ev (fun k => spec_l4Show.f k l) (showT l) := by
  unfold spec_l4Show.f
  have hz := showL_length_le l 1048576 hm
  have hz2 : l.length * (2 * 1048576 + 4) ≤ 1048577 * (2 * 1048576 + 4) := Nat.mul_le_mul_right _ hl
  have key : ∀ (n i : Nat), i + n = l.length → Ev (fun k => spec_l4Show.l0 k l ((showL (l.take i)).map fun b => (b.toNat : Int)) (i : Int)) (showT l) := by
    intro n
    induction n with
    | zero =>
      intro i hi
      rw [List.take_of_length_le (by omega)]
      refine Ev.step (f := fun _ => some (showT l)) (fun k => ?_) (Ev.now _)
      simp only [spec_l4Show.l0]
      rw [if_neg (by omega), showT_nums]
    | succ n ih =>
      intro i hi
      have hlt : i < l.length := by omega
      have h1 := hm _ (mem_getD (d := z67) hlt)
      have hn := showL_next l i hlt
      have hle := showL_le l (i + 1)
      rw [hn, List.length_append] at hle
      have e : l.getD i z67 = l[i]'hlt := by rw [List.getD_eq_getElem?_getD, List.getElem?_eq_getElem hlt]; rfl
      have h2 := ih (i + 1) (by omega)
      rw [hn, List.map_append, ← line_bytes] at h2
      rw [e] at h1
      have hll := lineL_length (l[i]'hlt)
      refine Ev.step (fun k => ?_) h2
      simp only [spec_l4Show.l0]
      rw [rd_fld, e, wrap_next hlt (by omega)]
      generalize l[i]'hlt = x at h1 hle hll
      have a1 : (x.f0 ++ (⟨#[58, 32]⟩ : ByteArray)).size = x.f0.size + 2 := by rw [ByteArray.size_append]; rfl
      have a2 : (x.f0 ++ (⟨#[58, 32]⟩ : ByteArray) ++ x.f1).size = x.f0.size + 2 + x.f1.size := by rw [ByteArray.size_append, a1]
      have a3 : (x.f0 ++ (⟨#[58, 32]⟩ : ByteArray) ++ x.f1 ++ (⟨#[13, 10]⟩ : ByteArray)).size = x.f0.size + 2 + x.f1.size + 2 := by rw [ByteArray.size_append, a2]; rfl
      rw [if_pos (by omega), if_pos (by omega), if_pos (by omega), if_pos (by omega), if_pos (by omega), if_pos (by rw [List.length_map]; omega)]
  exact key l.length 0 (by omega)
theorem impl_showFields_is (l : List Fld) (hl : l.length ≤ 1048577) (hm : ∀ x ∈ l, x.f0.size ≤ 1048576 ∧ x.f1.size ≤ 1048576) : impl_showFields.f l = some (showT l) := by
  unfold impl_showFields.f
  have hz := showL_length_le l 1048576 hm
  have hz2 : l.length * (2 * 1048576 + 4) ≤ 1048577 * (2 * 1048576 + 4) := Nat.mul_le_mul_right _ hl
  rw [if_pos (by omega)]
  rfl
theorem showT_size_le (l : List Fld) (hl : l.length ≤ 1048577) (hm : ∀ x ∈ l, x.f0.size ≤ 1048576 ∧ x.f1.size ≤ 1048576) : (showT l).size ≤ 70368744177664 := by
  rw [showT_size]
  have hz := showL_length_le l 1048576 hm
  have hz2 : l.length * (2 * 1048576 + 4) ≤ 1048577 * (2 * 1048576 + 4) := Nat.mul_le_mul_right _ hl
  omega
end Go.Proofs.YtfebipiccpbdbaaDoor.Q
/-! ## PureFnExactShowFields -/
/-
  FnExactShowFields answers true at every list of fields: both functions write the same text, and the argument stays as it was. No condition.
-/
namespace Go.Proofs.YtfebipiccpbdbaaDoor.Pure
set_option linter.unusedVariables false
set_option linter.unusedSimpArgs false
open Go.RowKit Go.Proofs.YtfebipiccpbdbaaDoor.P Go.Proofs.YtfebipiccpbdbaaDoor.Q Go.Proofs.YtfebipiccpbdbaaDoorW.PrintWords
theorem FnExactShowFields : laws_FnExactShowFields.Pure := by
  intro l hl hx
  unfold laws_FnExactShowFields.f
  obtain ⟨r, hr, hle, hm⟩ := szFieldS_ev l 1048576 (by decide) (by decide) hl hx
  refine Ev.rounds (r := true) (Ev.bind hr ?_)
  by_cases h0 : r < 0
  · simp only [if_pos h0]
    exact Ev.now _
  · simp only [if_neg h0]
    have m := hm (by omega)
    have hlen : l.length ≤ 1048576 := by have := m.1; rwa [List.length_map] at this
    have hS : Ev (fun k => spec_ShowFields.f k (l.map conv)) (if fieldsOk (l.map conv) = true then showT (l.map conv) else ⟨#[]⟩) := by
      unfold spec_ShowFields.f
      refine Ev.bind (spec_FieldsOk_ev _ m) ?_
      cases fieldsOk (l.map conv)
      · exact Ev.now _
      · simp only [if_true]
        exact Ev.bind (spec_l4Show_ev _ (by have := m.1; omega) m.2) (Ev.now _)
    have hI : impl_ShowFields.f (l.map conv) = some (if fieldsOk (l.map conv) = true then showT (l.map conv) else ⟨#[]⟩) := by
      unfold impl_ShowFields.f
      rw [impl_FieldsOk_is _ m, impl_showFields_is _ (by have := m.1; omega) m.2]
      cases fieldsOk (l.map conv) <;> rfl
    refine Ev.bind (toFieldS_ev l hlen) (Ev.bind hS (Ev.bind (toFieldS_ev l hlen) (Ev.bind (ev_const hI) ?_)))
    simp only [if_true]
    refine Ev.bind (toFieldS_ev l hlen) (Ev.bind (eqFieldS_self _ m.1) (Ev.now _))
end Go.Proofs.YtfebipiccpbdbaaDoor.Pure
/-! ## RowAid -/
/-
  A struct of one-cell fields that came in by value, opened field by field. No condition.
-/
namespace Go.Proofs.YtfebipiccpbdbaaDoor.RowAid
open Go.ChangeShapes Go.WideShapes Go.Deep
variable {H : Type} {enc : TypeId × Value → H} {P : Program} {w : World} {base : Nat} {spare : Nat → Bool} {held : Bool}
theorem open_one {r : Reach} {b0 : Nat} {t : TypeId} {fs : Array Field} {v : Value} {d : DataW H} {p : List MemPlace} (hs : P.underlying t = some (.struct fs)) (hone : oneCellFields P fs = true) (hC : P.cellsOf t = fs.size)
    (hv : Value.okWide P w r b0 t v) (h : DataW.Trod enc P w base spare held t v d p) :
    ∃ cs : List Value, v = .agg cs.toArray ∧ cs.length = fs.size ∧ ∃ n, ∀ (i : Nat) (f : Field) (c : Value), fs[i]? = some f → cs[i]? = some c → ∃ y, DataW.trod enc P w base spare held n f.type [c] = some y := by
  obtain ⟨⟨cs⟩, rfl, hsz⟩ := okWide_struct hs hv
  obtain ⟨fuel, hf⟩ := h
  obtain ⟨xs, n, _, _, hl, hx, hg⟩ := DataW.trod_struct hs hf
  have hcl : cs.length = fs.size := by
    have : (⟨cs⟩ : Array Value).size = cs.length := rfl
    omega
  refine ⟨cs, rfl, hcl, n, fun i f c hi hc => ?_⟩
  have hlt : i < fs.size := (Array.getElem?_eq_some_iff.1 hi).1
  obtain ⟨ho, hk⟩ := hone_of hone i f hi
  have h1 := hg i f hi
  have hcc : (Value.agg ⟨cs⟩).cells.toList = cs := rfl
  rw [hcc, ho, hk] at h1
  have hd : (cs.drop i).take 1 = [c] := by
    have hi' : i < cs.length := by omega
    rw [List.drop_eq_getElem_cons hi', List.take_succ_cons, List.take_zero]
    rw [List.getElem?_eq_getElem hi'] at hc
    rw [Option.some.inj hc]
  rw [hd] at h1
  have hxl : xs[i]? = some (xs[i]'(by omega)) := List.getElem?_eq_getElem (by omega)
  exact ⟨_, h1.trans hxl⟩
end Go.Proofs.YtfebipiccpbdbaaDoor.RowAid
/-! ## RowAidS -/
/-
  Slices that came in, opened element by element: structs of one-cell fields, and one-cell elements. No condition.
-/
namespace Go.Proofs.YtfebipiccpbdbaaDoor.RowAid
open Go.ChangeShapes Go.WideShapes Go.Deep
variable {H : Type} {enc : TypeId × Value → H} {P : Program} {w : World} {base : Nat} {spare : Nat → Bool} {held : Bool}
/-- What each place has, put into a list. -/
theorem list_of {α : Type} (n : Nat) (Q : Nat → α → Prop) (h : ∀ i, i < n → ∃ x, Q i x) : ∃ l : List α, l.length = n ∧ ∀ i x, l[i]? = some x → Q i x := by
  induction n with
  | zero => exact ⟨[], rfl, fun i x hx => by simp at hx⟩
  | succ n ih =>
    obtain ⟨l, hl, hq⟩ := ih fun i hi => h i (by omega)
    obtain ⟨z, hz⟩ := h n (Nat.lt_succ_self n)
    refine ⟨l ++ [z], by simp [hl], fun i x hx => ?_⟩
    by_cases hi : i < n
    · rw [List.getElem?_append_left (by omega)] at hx
      exact hq i x hx
    · by_cases he : i = n
      · subst he
        rw [List.getElem?_append_right (by omega), hl, Nat.sub_self] at hx
        obtain rfl := Option.some.inj hx
        exact hz
      · rw [List.getElem?_eq_none (by simp; omega)] at hx
        cases hx
/-- A slice of structs of one-cell fields: each field's cell, and what it reads as. -/
theorem open_structs {t e : TypeId} {fs : Array Field} {n : Nat} {c : Value} {y : DataW H × List MemPlace} (ht : P.underlying t = some (.slice e)) (he : P.underlying e = some (.struct fs)) (hone : oneCellFields P fs = true) (hC : P.cellsOf e = fs.size)
    (h : DataW.trod enc P w base spare held n t [c] = some y) :
    c = .slice none 0 0 ∨ ∃ (a : Addr) (len cap : Nat), c = .slice (some a) len cap ∧ len ≤ cap ∧ cap ≤ maxLen ∧
      ∀ i, i < len → ∃ m, ∀ (j : Nat) (f : Field), fs[j]? = some f → ∃ (v : Value) (z : DataW H × List MemPlace), w.cell? (a.add (i * fs.size + j)) = some v ∧ DataW.trod enc P w base spare held m f.type [v] = some z := by
  rcases open_slice ht h with ⟨h0, _⟩ | ⟨a, len, cap, m, k, D, Pl, hcs, _, hl, hm, hmm, _, hi⟩
  · exact .inl (List.cons.inj h0).1
  · refine .inr ⟨a, len, cap, (List.cons.inj hcs).1, hl, hm, fun i hil => ?_⟩
    obtain ⟨cs', hc, ht'⟩ := hi i (by rw [hmm]; split <;> omega)
    rw [hC] at hc
    obtain ⟨_, hcl, hat⟩ := World.cells?_some hc
    obtain ⟨xs, q, _, _, _, hlen, hg⟩ := DataW.trod_struct he ht'
    refine ⟨q, fun j f hj => ?_⟩
    have hjl : j < fs.size := (Array.getElem?_eq_some_iff.1 hj).1
    obtain ⟨ho, hk⟩ := hone_of hone j f hj
    have h1 := hg j f hj
    have hd : (cs'.drop j).take 1 = [cs'[j]'(by omega)] := by
      rw [List.drop_eq_getElem_cons (by omega), List.take_succ_cons, List.take_zero]
    rw [ho, hk, hd, List.getElem?_eq_getElem (by omega : j < xs.length)] at h1
    have h2 := hat j hjl
    rw [add_add, List.getElem?_eq_getElem (by omega : j < cs'.length)] at h2
    exact ⟨_, _, h2, h1⟩
/-- A slice of one-cell elements. -/
theorem open_ones {t e : TypeId} {n : Nat} {c : Value} {y : DataW H × List MemPlace} (ht : P.underlying t = some (.slice e)) (hC : P.cellsOf e = 1)
    (h : DataW.trod enc P w base spare held n t [c] = some y) :
    c = .slice none 0 0 ∨ ∃ (a : Addr) (len cap : Nat), c = .slice (some a) len cap ∧ len ≤ cap ∧ cap ≤ maxLen ∧
      ∀ i, i < len → ∃ (m : Nat) (v : Value) (z : DataW H × List MemPlace), w.cell? (a.add (i * 1)) = some v ∧ DataW.trod enc P w base spare held m e [v] = some z := by
  rcases open_slice ht h with ⟨h0, _⟩ | ⟨a, len, cap, m, k, D, Pl, hcs, _, hl, hm, hmm, _, hi⟩
  · exact .inl (List.cons.inj h0).1
  · refine .inr ⟨a, len, cap, (List.cons.inj hcs).1, hl, hm, fun i hil => ?_⟩
    obtain ⟨cs', hc, ht'⟩ := hi i (by rw [hmm]; split <;> omega)
    rw [hC] at hc
    obtain ⟨_, hcl, hat⟩ := World.cells?_some hc
    match cs', hcl with
    | [v], _ =>
      have h2 := hat 0 (Nat.lt_succ_self 0)
      rw [show (a.add (i * 1)).add 0 = a.add (i * 1) from rfl] at h2
      exact ⟨k, v, _, h2, ht'⟩
end Go.Proofs.YtfebipiccpbdbaaDoor.RowAid
/-! ## LawFnExactShowFields -/
/- The statement of FnExactShowFields, for every input: the row, out of the pure statement and the printed walk. No condition. -/
namespace Go.Proofs.YtfebipiccpbdbaaDoor.fnExactShowFields
open Go.ChangeShapes Go.WideShapes Go.ChangeAt Go.RowKit
open Go.Proofs.YtfebipiccpbdbaaDoorW.PrintWords Go.Proofs.YtfebipiccpbdbaaDoorW.PrintLast Go.Proofs.YtfebipiccpbdbaaDoorW.PrintMore Go.Proofs.YtfebipiccpbdbaaDoor.P
open Go.ChangeMaps (open_string shut_string)
set_option linter.unusedVariables false
theorem own : ownKnob Tryd.prog.godebug = none := by kernel_rfl
theorem laidOut : laidOutB Tryd.prog = true := by kernel_rfl
set_option maxRecDepth 100000 in
theorem rows_t22 {H : Type} {enc : TypeId × Value → H} {w : World} {base : Nat} {spare : Nat → Bool} {held : Bool} {n : Nat} {c : Value} {y : DataW H × List MemPlace} (h : DataW.trod enc Tryd.prog w base spare held n 22 [c] = some y) :
    ∃ (A : Option Addr) (cap : Nat) (l : List S65), c = .slice A l.length cap ∧ Kd.C k65 w A l.length l ∧ l.length ≤ cap ∧ l.length ≤ 9223372036854775807 ∧ ∀ x ∈ l, x.f0.size ≤ 9223372036854775807 ∧ x.f1.size ≤ 9223372036854775807 := by
  rcases RowAid.open_structs Tryd.underlying22 Tryd.underlying65 (by kernel_rfl) (by kernel_rfl) h with rfl | ⟨x, len, cap, rfl, hl, hm, hi⟩
  · exact ⟨none, 0, [], rfl, ⟨rfl, Nat.zero_le _, fun h => absurd h (by decide)⟩, Nat.le_refl _, Nat.zero_le _, fun x hx => by cases hx⟩
  · obtain ⟨l, hlen, hl2⟩ := RowAid.list_of len (fun i (z : S65) => w.cell? (x.add (i * 2 + 0)) = some (.string z.f0) ∧ w.cell? (x.add (i * 2 + 1)) = some (.string z.f1) ∧ z.f0.size ≤ 9223372036854775807 ∧ z.f1.size ≤ 9223372036854775807) (fun i hil => by
      obtain ⟨m, hf⟩ := hi i hil
      obtain ⟨v0, y0, e0, t0⟩ := hf 0 _ rfl
      obtain ⟨s0, q0, _, w0⟩ := DataW.trod_string Tryd.underlying9 t0
      obtain rfl := (List.cons.inj q0).1
      obtain ⟨v1, y1, e1, t1⟩ := hf 1 _ rfl
      obtain ⟨s1, q1, _, w1⟩ := DataW.trod_string Tryd.underlying9 t1
      obtain rfl := (List.cons.inj q1).1
      exact ⟨⟨s0, s1⟩, e0, e1, w0, w1⟩)
    subst hlen
    have hb : l.length ≤ 9223372036854775807 := Nat.le_trans hl (Nat.le_trans hm (by decide))
    refine ⟨some x, cap, l, rfl, ⟨rfl, hb, fun _ => ⟨x, rfl, fun j p hj => ⟨[.string p.f0, .string p.f1], rfl, k65_mk w p, fun i u hu => ?_⟩⟩⟩, hl, hb, fun z hz => ?_⟩
    · match i, hu with
      | 0, hu => obtain rfl := Option.some.inj hu; exact (hl2 j p hj).1
      | 1, hu => obtain rfl := Option.some.inj hu; exact (hl2 j p hj).2.1
    · obtain ⟨j, hj⟩ := List.getElem?_of_mem hz
      exact (hl2 j z hj).2.2
set_option maxRecDepth 100000 in
set_option maxHeartbeats 2000000 in
theorem lifted (os : Os) (started : os.Started) (H : Type) (enc : TypeId × Value → H) :
    ReturnsInHanded {} Tryd.checked os 4 .any (fun w args => (Rows.fnExactShowFieldsSpec.pre enc Tryd.prog Tryd.f4 [] false w args ∧ laidMetH Tryd.prog Rows.fnExactShowFieldsRow.laid w) ∧ sizedMet enc Tryd.prog Tryd.f4 (OpenSpec.ofChange Rows.fnExactShowFieldsSpec) false w args) (Rows.fnExactShowFieldsSpec.post enc Tryd.prog Tryd.f4 false true false false) := by
  refine RowAid.handed_both (C := Tryd.checked) (X := fun w _ => laidMetH Tryd.prog Rows.fnExactShowFieldsRow.laid w) (fun _ _ _ hh h => h.of_heap hh) own started (by kernel_rfl) Tryd.func4
    (ChangeSpec.witness_shaped (enc := enc) (C := Tryd.checked) (os := os) (X := fun w _ => laidMetH Tryd.prog Rows.fnExactShowFieldsRow.laid w) false (World.laidAll Tryd.prog os Rows.fnExactShowFieldsRow.laid) #[.slice none 0 0] 8 (World.laidAll_os _ _ _)
      (World.shaped_of_ZipB (by kernel_rfl) (by kernel_rfl)) (by kernel_rfl) (by kernel_rfl) (by kernel_rfl)
      (by rw [MakeChecks.laidMetH_plain _ _ _ (by kernel_rfl)]; exact laidMet_laidAll _ (by kernel_rfl) (by kernel_rfl))) ?_
  intro W base args ds gs before hval0 hW hcnd hsz0 hL hSh _
  have hsz : (DataW.weightsEach Tryd.prog (Tryd.f4.params.toList ++ Rows.fnExactShowFieldsSpec.plain.varTypes Tryd.prog) (ds ++ gs)).all (· ≤ reachBytes) = true := hsz0
  have hval : ∀ (j : Nat) t v, Tryd.f4.params[j]? = some t → args[j]? = some v → Value.okWide Tryd.prog W .any base t v := hval0
  have hW' := hW
  obtain ⟨p, q, hA0, hV, rfl, hfz, hnd⟩ := hW
  have hA : DataW.TrodAll enc Tryd.prog W 0 (fun _ => true) true Tryd.f4.params.toList args.toList ds p := hA0
  rw [Tryd.params4] at hA hval hsz
  obtain ⟨v0, vs0, d0, ds0, p0, q0, hargs, rfl, rfl, h0, r0⟩ := trodAll_cons hA
  obtain ⟨rfl, rfl, rfl⟩ := trodAll_nil r0
  obtain rfl : args = #[v0] := by cases args; simp_all
  obtain ⟨rfl, rfl⟩ := trodVars_none hV
  obtain ⟨xa0, xn0, xc0, rfl⟩ := okWide_slice Tryd.underlying22 (hval 0 22 v0 rfl rfl)
  have k0 := h0
  have lt0 : ∀ x ∈ p0, x.block < W.heap.size := by obtain ⟨m, hm⟩ := k0; exact DataW.trod_lt m _ _ _ hm
  obtain ⟨fu0, hf0⟩ := h0
  obtain ⟨A0, c0, l0, e0, hr0, hc0, wl0, we0⟩ := rows_t22 (c := .slice xa0 xn0 xc0) hf0
  cases e0
  clear hA0 hval0 hsz0 hsz
  refine (P.laws_FnExactShowFields.walk Pure.FnExactShowFields xa0 xc0 l0 W wl0 we0 hr0 hc0).mono fun e W' ⟨he, bel⟩ => ?_
  subst he
  exact ⟨_, rfl, _, _, _, [], _, [], hW', trodAll_mk1 (shut_bool Tryd.underlying4 _), (trodAll_cons_mk (Below.trod laidOut (by kernel_rfl) (of_decide_eq_true (by kernel_rfl)) k0 bel lt0) trodAll_mk0), rfl, bel.frame _, fun h => by cases h⟩
theorem over : Rows.fnExactShowFieldsRow.holds Tryd.pinned (OpenSpec.ofChange Rows.fnExactShowFieldsSpec) :=
  OpenClaim.holds_of_wide 4 Tryd.f4 rfl rfl rfl rfl rfl rfl rfl ⟨rfl, rfl, rfl, rfl, rfl⟩ rfl rfl rfl rfl rfl (by kernel_rfl) Tryd.func4 (by kernel_rfl)
    (of_decide_eq_true (by kernel_rfl)) (by unfold Func.isWrapper; first | (rw [if_pos (by decide +kernel)]; kernel_rfl) | (rw [if_neg (by decide +kernel)]; exact ⟨rfl, rfl⟩))
    (fun os started H enc _ => lifted os started H enc)
theorem proved : Rows.FnExactShowFieldsSaid := over
#print axioms proved
end Go.Proofs.YtfebipiccpbdbaaDoor.fnExactShowFields
namespace Go.Proofs.YtfebipiccpbdbaaDoor
/-- The tied card, under a short name, for the claim. -/
theorem fnExactShowFields_card : Rows.FnExactShowFieldsCardSaid :=
  Claim7.holds_tied_plain_at .later [] [.data, .pinned] true (true, "090dd8b52d5a9aab87a70a45cd45ba9354c43069745460516db811f4df20d7d4") false
    fnExactShowFields.proved (fun _ h => by cases h) (by kernel_rfl) (fun _ h => by cases h) fnExactShowFields_row_tie rfl ⟨rfl, rfl⟩ (by kernel_rfl) rfl
    (fun f fn hf hfn => by
      obtain rfl : f = 4 := Option.some.inj ((show Tryd.prog.funcNamed "loop.example/g00207/laws.FnExactShowFields" = some 4 by kernel_rfl).symm.trans hf) |>.symm
      obtain rfl : fn = Tryd.f4 := (Option.some.inj (Tryd.func4.symm.trans hfn)).symm
      exact ⟨by kernel_rfl, fun j t ht => by
        rw [Tryd.params4] at ht
        have hm : t ∈ [22] := by simpa using Array.mem_of_getElem? ht
        have hall : ([22].all fun u => !Tryd.prog.wantsStandIn u) = true := by kernel_rfl
        exact (show Tryd.prog.wantsStandIn t = false by simpa using List.all_eq_true.1 hall t hm)⟩)
    (by kernel_rfl)
#print axioms fnExactShowFields_card
end Go.Proofs.YtfebipiccpbdbaaDoor
