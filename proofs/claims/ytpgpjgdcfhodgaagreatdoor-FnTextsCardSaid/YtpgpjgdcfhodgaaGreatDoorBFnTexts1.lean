/- Functions of the Go program as Lean functions, and proofs about them, merged out of this session's texts by its program bundle.py; conditions: those that each theorem states. -/
import Derived.Below
import Derived.ChangeOld
import Derived.Handed
import Derived.HandedShaped
import Derived.LaidMore
import Derived.Laws.BitsLemmas
import Derived.Laws.BytesArg
import Derived.Lay
import Derived.Lib.Bytealg
import Derived.Lib.ConvBytes
import Derived.Lib.Hide
import Derived.Lib.ItoaNum
import Derived.Lib.LaidTab
import Derived.Lib.SlBytesConst
import Derived.Lib.SlTrimSet
import Derived.Lib.SmallJoins
import Derived.Lib.Strings
import Derived.OpenShut
import Derived.ProofKit
import Derived.SevenTiedAt
import Derived.ShutString
import Derived.SizedLaws
import Derived.Sort.Grow
import Derived.Stop.Joined
import Derived.Test.YtpgpjgdcfhodgaaGreatDoorCards
import Derived.Test.YtpgpjgdcfhodgaaGreatDoorGall
import Derived.Test.YtpgpjgdcfhodgaaGreatDoorGimplquoted
import Derived.Test.YtpgpjgdcfhodgaaGreatDoorGspecl1Bend
import Derived.Test.YtpgpjgdcfhodgaaGreatDoorP0
import Derived.Test.YtpgpjgdcfhodgaaGreatDoorPimplTokenOk1
import Derived.Test.YtpgpjgdcfhodgaaGreatDoorPimplUnquoted
import Derived.Test.YtpgpjgdcfhodgaaGreatDoorPimplVisibleOk
import Derived.Test.YtpgpjgdcfhodgaaGreatDoorPimplisDigit
import Derived.Test.YtpgpjgdcfhodgaaGreatDoorPimplisLetter
import Derived.Test.YtpgpjgdcfhodgaaGreatDoorPimplisVisible
import Derived.Test.YtpgpjgdcfhodgaaGreatDoorProg
import Derived.Test.YtpgpjgdcfhodgaaGreatDoorPspecDrawTokenOk
import Derived.Test.YtpgpjgdcfhodgaaGreatDoorPspecDrawVisibleOk
import Derived.Test.YtpgpjgdcfhodgaaGreatDoorPspecTrimmed
import Derived.Test.YtpgpjgdcfhodgaaGreatDoorPspecUnquoted
import Derived.Test.YtpgpjgdcfhodgaaGreatDoorPspecVisibleOk
import Derived.Test.YtpgpjgdcfhodgaaGreatDoorPspecl1Below
import Derived.Test.YtpgpjgdcfhodgaaGreatDoorPspecl1Blank
import Derived.Test.YtpgpjgdcfhodgaaGreatDoorPspecl1Byte
import Derived.Test.YtpgpjgdcfhodgaaGreatDoorPspecl1DrawText
import Derived.Test.YtpgpjgdcfhodgaaGreatDoorPspecl1New
import Derived.Test.YtpgpjgdcfhodgaaGreatDoorPspecl1Once
import Derived.Test.YtpgpjgdcfhodgaaGreatDoorPspecl1Quoted
import Derived.Test.YtpgpjgdcfhodgaaGreatDoorRows
import Derived.Test.YtpgpjgdcfhodgaaGreatDoorShelf
import Derived.Test.YtpgpjgdcfhodgaaGreatDoorTie
import Derived.Test.YtpgpjgdcfhodgaaGreatDoorWSized
import Derived.Test.YtpgpjgdcfhodgaaGreatDoorXA
import Derived.Test.YtpgpjgdcfhodgaaGreatDoorXB
import Derived.WalkKit
namespace Go.Proofs.YtpgpjgdcfhodgaaGreatDoor.RowAid
open Go
variable {H : Type} {enc : TypeId × Value → H}
theorem handed_both {a : Assume} {C : Checked} {os : Os} {f : FuncId} {fn : Func} {s : ChangeSpec} {conds : List PathCond} {apart fresh handsOn again : Bool} {X : World → Array Value → Prop}
    (hX : ∀ (w w' : World) (args : Array Value), w.heap = w'.heap → X w args → X w' args)
    (own : ownKnob C.prog.godebug = none) (started : os.Started) (noInit : C.prog.inits.idxOf? f = none) (hfn : C.prog.funcs[f]? = some fn)
    (witness : ∃ (w : World) (tape : Tape) (i : Input), w.os = os ∧ (w.forCall tape i).Shaped C.prog ∧ i.vars = [] ∧ Input.okWide C.prog (w.forCall tape i) .any w.heap.size f i ∧
      ((s.pre enc C.prog fn conds apart (w.forCall tape i).memory i.args ∧ X (w.forCall tape i).memory i.args) ∧ sizedMet enc C.prog fn (OpenSpec.ofChange s) apart (w.forCall tape i).memory i.args) ∧ a.holds C.prog (lone (Frame.enter C.prog f i.args .normal) [] (w.forCall tape i)))
    (contract : ∀ (W : World) (base : Nat) (args : Array Value) (ds gs : List (DataW H)) (before : List MemPlace),
      (∀ (j : Nat) t v, fn.params[j]? = some t → args[j]? = some v → Value.okWide C.prog W .any base t v) →
      DataW.Whole enc C.prog fn.params.toList s.vars apart W args.toList ds gs before →
      conds.all (PathCond.test C.prog ⟨fn.params.toList, ds, s.plain.varTypes C.prog, gs⟩) = true →
      (DataW.weightsEach C.prog (fn.params.toList ++ s.plain.varTypes C.prog) (ds ++ gs)).all (· ≤ reachBytes) = true → X W args → W.ShapedOpen C.prog →
      a.holds C.prog (lone (Frame.enter C.prog f args .normal) [] W) →
      Calls C.prog f args W fun e W' => ∃ v, e = .returned v ∧ s.post enc C.prog fn apart fresh handsOn again W args v W') :
    ReturnsInHanded a C os f .any (fun w args => (s.pre enc C.prog fn conds apart w args ∧ X w args) ∧ sizedMet enc C.prog fn (OpenSpec.ofChange s) apart w args) (s.post enc C.prog fn apart fresh handsOn again) := by
  refine returnsInHanded_of_calls own started noInit witness ?_
  intro w tape i _ hsh _ hok hpre hholds
  obtain ⟨_, _, _, fn', hfn', _, _, _, _, hval⟩ := hok
  have e : fn' = fn := Option.some.inj (hfn'.symm.trans hfn)
  subst e
  obtain ⟨⟨⟨ds, gs, before, hw, hc⟩, hx⟩, hz⟩ := hpre
  have hw' := DataW.Whole.of_heap (w' := w.forCall tape i) (by rfl) hw
  refine (contract (w.forCall tape i) w.heap.size i.args ds gs before hval hw' hc (hz.weights hw) (hX _ _ _ (by rfl) hx) hsh hholds).mono fun e W' ⟨v, he, hp⟩ => ?_
  subst he
  exact ChangeSpec.post_blind hp
end Go.Proofs.YtpgpjgdcfhodgaaGreatDoor.RowAid
namespace Go.Proofs.YtpgpjgdcfhodgaaGreatDoor.P
set_option linter.unusedVariables false
set_option linter.unusedSimpArgs false
open Go.RowKit Go.Lib Go.Proofs.YtpgpjgdcfhodgaaGreatDoorW.PrintWords Go.Proofs.YtpgpjgdcfhodgaaGreatDoorW.PrintLast Go.Proofs.YtpgpjgdcfhodgaaGreatDoorW.PrintMore

/-- A great letter made small. -/
def low8 (c : Int) : Int := if 65 ≤ c then (if c ≤ 90 then c + 32 else c) else c
/-- The bytes behind k rounds. -/
def lowAt (s : ByteArray) (k j : Nat) : Int := if j < k then low8 (bt s j) else bt s j
theorem lowAt_next (s : ByteArray) (k j : Nat) (h : j ≠ k) : lowAt s (k + 1) j = lowAt s k j := by
  unfold lowAt
  by_cases h1 : j < k
  · rw [if_pos h1, if_pos (by omega)]
  · rw [if_neg h1, if_neg (by omega)]
theorem lowAt_here (s : ByteArray) (k : Nat) : lowAt s (k + 1) k = low8 (bt s k) := by unfold lowAt; rw [if_pos (by omega)]
theorem lowAt_now (s : ByteArray) (k : Nat) : lowAt s k k = bt s k := by unfold lowAt; rw [if_neg (by omega)]
def LowCells (w wr : World) (s : ByteArray) (k : Nat) : Prop :=
  (∀ j, j < s.size → wr.cell? ⟨w.heap.size, j, none⟩ = some (.int .u8 (lowAt s k j))) ∧ (∀ j, j < s.size → wr.frozen? ⟨w.heap.size, j, none⟩ = false) ∧ Below w.heap.size w wr
theorem LowCells.start (w : World) (s : ByteArray) : LowCells w (bytesWorld w 5 s) s 0 := by
  refine ⟨fun j hj => ?_, fun j hj => ?_, ?_⟩
  · rw [bytesWorld_cell w 5 s j hj]
    have : bt s j = ((s.data.toList.getD j 0).toNat : Int) := by
      rw [← rd_bytesOf]
      have h' : j < s.data.toList.length := by rw [data_length]; exact hj
      simp [rd, bytesOf, List.getD_eq_getElem?_getD, List.getElem?_eq_getElem h']
    rw [← this]
    rfl
  · have hz : s.size ≤ (bytesCells w 5 s).size := by simp only [bytesCells, Array.size_append, Array.size_map]; exact Nat.le_add_right _ _
    simp [World.frozen?, bytesWorld_at_new]
    omega
  · exact bytes_below (Below.refl _ w) (Nat.le_refl _) 5 s
theorem LowCells.skip {w wr : World} {s : ByteArray} {k : Nat} (h : LowCells w wr s k) (hk : k < s.size) (e : low8 (bt s k) = bt s k) : LowCells w wr s (k + 1) :=
  ⟨fun j hj => by
    by_cases h1 : j = k
    · subst h1
      rw [h.1 j hj, lowAt_here, lowAt_now, e]
    · rw [lowAt_next s k j h1, h.1 j hj], h.2.1, h.2.2⟩
theorem LowCells.put {w wr : World} {s : ByteArray} {k : Nat} (h : LowCells w wr s k) (hk : k < s.size) (c : Int) (e : low8 (bt s k) = c) : LowCells w (wr.setCell ⟨w.heap.size, k, none⟩ (.int .u8 c)) s (k + 1) :=
  ⟨fun j hj => by
    by_cases h1 : j = k
    · subst h1
      rw [World.cell?_setCell_same _ _ _ (h.1 j hj), lowAt_here, e]
    · rw [World.cell?_setCell_other _ _ _ _ (by intro e2; injection e2 with _ e3; exact h1 e3.symm), lowAt_next s k j h1, h.1 j hj],
   fun j hj => by rw [World.frozen?_setCell]; exact h.2.1 j hj, h.2.2.setCell (Nat.le_refl _) _⟩
theorem LowCells.done {w wr : World} {s : ByteArray} {k : Nat} (h : LowCells w wr s k) (hk : s.size ≤ k) (j : Nat) (hj : j < s.size) : wr.cell? ⟨w.heap.size, 0 + j, none⟩ = some (.int .u8 (((bytesOf s).map low8).getD j 0)) := by
  rw [Nat.zero_add, h.1 j hj]
  have h1 : j < (bytesOf s).length := by rw [bytesOf_length]; exact hj
  unfold lowAt
  rw [if_pos (by omega), ← rd_bytesOf]
  simp [rd, List.getD_eq_getElem?_getD, List.getElem?_eq_getElem h1]

set_option maxHeartbeats 1000000 in
theorem impl_Lower_any (s : ByteArray) (w : World) (hs : s.size ≤ 9223372036854775807) :
    Calls Tryz.prog 20 #[.string s] w fun e w' => e = .returned (.string (strOfNums ((bytesOf s).map low8))) ∧ Below w.heap.size w w' := by
  have kc := fun W : World => Lib.run_convert_string_bytes (P := Tryz.prog) W 9 22 5 s Tryz.underlying9 Tryz.underlying22 Tryz.underlying5
  have hmap : ((bytesOf s).map low8).length = s.size := by rw [List.length_map, bytesOf_length]
  have H0 := Lib.hid hmap
  clear hmap
  have S0 := Lib.hid (LowCells.start w s)
  go_enter Tryz.func20, Tryz.ntmps20
  go_wp2
  go_loopw [10] (fun i wr => ∃ k : Nat, k ≤ s.size ∧ i = .int .i64 k ∧ Aside (LowCells w wr s k)) (fun i _ => s.size - (intOf i).toNat)
  case atStart => exact ⟨0, Nat.zero_le _, rfl, S0.out⟩
  case round =>
    obtain ⟨k, hk, rfl, A⟩ := hrel
    by_cases hlt : k < s.size
    · have hcell := A.out.1 k hlt
      rw [lowAt_now] at hcell
      have hfro := A.out.2.1 k hlt
      have hr := bt_range s k
      obtain ⟨c, hc⟩ : ∃ c, bt s k = c := ⟨_, rfl⟩
      rw [hc] at hcell hr
      have HC := Lib.hid hc
      clear hc
      obtain ⟨hr0, hr1⟩ := hr
      have hltz : (k : Int) < (s.size : Int) := by omega
      by_cases h1 : (65 : Int) ≤ c
      · by_cases h2 : c ≤ 90
        · go_wp2
          go_roundw
          case rel => exact ⟨k + 1, by omega, by go_num, show Aside _ from A.out.put hlt _ (by rw [HC.out]; unfold low8; rw [if_pos h1, if_pos h2]; omega)⟩
          case measure => simp [intOf]; omega
        · go_wp2
          go_roundw
          case rel => exact ⟨k + 1, by omega, by go_num, show Aside _ from A.out.skip hlt (by rw [HC.out]; unfold low8; rw [if_pos h1, if_neg h2])⟩
          case measure => simp [intOf]; omega
      · go_wp2
        go_roundw
        case rel => exact ⟨k + 1, by omega, by go_num, show Aside _ from A.out.skip hlt (by rw [HC.out]; unfold low8; rw [if_neg h1])⟩
        case measure => simp [intOf]; omega
    · have hltz : ¬ (k : Int) < (s.size : Int) := by omega
      have kb := fun cap => run_convert_bytes_arg (P := Tryz.prog) wr 22 5 Tryz.underlying22 Tryz.underlying5 w.heap.size 0 s.size cap ((bytesOf s).map low8) H0.out (A.out.done (by omega)) 9 Tryz.underlying9
      go_wp2
      go_ret
      exact ⟨rfl, A.out.2.2⟩

def impl_Lower.f (a0 : ByteArray) : Option ByteArray := if a0.size ≤ 9223372036854775807 then some (strOfNums ((bytesOf a0).map low8)) else none
theorem impl_Lower.calls (a0 : ByteArray) (r : ByteArray) (w : World) (h : impl_Lower.f a0 = some r) :
    Calls Tryz.prog 20 #[.string a0] w fun e w' => e = .returned (.string r) ∧ Below w.heap.size w w' := by
  unfold impl_Lower.f at h
  split at h
  · obtain rfl := Option.some.inj h
    exact impl_Lower_any a0 w (by assumption)
  · cases h
set_option maxHeartbeats 1000000 in
theorem spec_Lower_any (s : ByteArray) (w : World) (hs : s.size ≤ 9223372036854775807) :
    Calls Tryz.prog 21 #[.string s] w fun e w' => e = .returned (.string (strOfNums ((bytesOf s).map low8))) ∧ Below w.heap.size w w' := by
  have kc := fun W : World => Lib.run_convert_string_bytes (P := Tryz.prog) W 9 22 5 s Tryz.underlying9 Tryz.underlying22 Tryz.underlying5
  have hmap : ((bytesOf s).map low8).length = s.size := by rw [List.length_map, bytesOf_length]
  have H0 := Lib.hid hmap
  clear hmap
  have S0 := Lib.hid (LowCells.start w s)
  go_enter Tryz.func21, Tryz.ntmps21
  go_wp2
  go_loopw [4] (fun i wr => ∃ k : Nat, k ≤ s.size ∧ i = .int .i64 k ∧ Aside (LowCells w wr s k)) (fun i _ => s.size - (intOf i).toNat)
  case atStart => exact ⟨0, Nat.zero_le _, rfl, S0.out⟩
  case round =>
    obtain ⟨k, hk, rfl, A⟩ := hrel
    by_cases hlt : k < s.size
    · have hcell := A.out.1 k hlt
      rw [lowAt_now] at hcell
      have hfro := A.out.2.1 k hlt
      have hr := bt_range s k
      obtain ⟨c, hc⟩ : ∃ c, bt s k = c := ⟨_, rfl⟩
      rw [hc] at hcell hr
      have HC := Lib.hid hc
      clear hc
      obtain ⟨hr0, hr1⟩ := hr
      have hltz : (k : Int) < (s.size : Int) := by omega
      by_cases h1 : (65 : Int) ≤ c
      · by_cases h2 : c ≤ 90
        · go_wp2
          go_roundw
          case rel => exact ⟨k + 1, by omega, by go_num, show Aside _ from A.out.put hlt _ (by rw [HC.out]; unfold low8; rw [if_pos h1, if_pos h2])⟩
          case measure => simp [intOf]; omega
        · go_wp2
          go_roundw
          case rel => exact ⟨k + 1, by omega, by go_num, show Aside _ from A.out.skip hlt (by rw [HC.out]; unfold low8; rw [if_pos h1, if_neg h2])⟩
          case measure => simp [intOf]; omega
      · go_wp2
        go_roundw
        case rel => exact ⟨k + 1, by omega, by go_num, show Aside _ from A.out.skip hlt (by rw [HC.out]; unfold low8; rw [if_neg h1])⟩
        case measure => simp [intOf]; omega
    · have hltz : ¬ (k : Int) < (s.size : Int) := by omega
      have kb := fun cap => run_convert_bytes_arg (P := Tryz.prog) wr 22 5 Tryz.underlying22 Tryz.underlying5 w.heap.size 0 s.size cap ((bytesOf s).map low8) H0.out (A.out.done (by omega)) 9 Tryz.underlying9
      go_wp2
      go_ret
      exact ⟨rfl, A.out.2.2⟩

def spec_Lower.f (a0 : ByteArray) : Option ByteArray := if a0.size ≤ 9223372036854775807 then some (strOfNums ((bytesOf a0).map low8)) else none
theorem spec_Lower.calls (a0 : ByteArray) (r : ByteArray) (w : World) (h : spec_Lower.f a0 = some r) :
    Calls Tryz.prog 21 #[.string a0] w fun e w' => e = .returned (.string r) ∧ Below w.heap.size w w' := by
  unfold spec_Lower.f at h
  split at h
  · obtain rfl := Option.some.inj h
    exact spec_Lower_any a0 w (by assumption)
  · cases h
end Go.Proofs.YtpgpjgdcfhodgaaGreatDoor.P
namespace Go.Proofs.YtpgpjgdcfhodgaaGreatDoor.P
open Go.RowKit Go.Proofs.YtpgpjgdcfhodgaaGreatDoorW.PrintWords Go.Proofs.YtpgpjgdcfhodgaaGreatDoorW.PrintLast Go.Proofs.YtpgpjgdcfhodgaaGreatDoorW.PrintMore
attribute [local go_sem] max2_int min2_int max_two min_two max_three min_three max_four min_four   -- for this text's walks alone
set_option linter.unusedVariables false
set_option linter.unusedSimpArgs false

/-! ### impl_Quoted: function 6 -/
def impl_Quoted.f (a0 : ByteArray) : Option (ByteArray) := (impl_VisibleOk.f a0).bind fun t101 => (if t101 = true then ((impl_quoted.f a0).bind fun t102 => (some t102)) else (some (⟨#[]⟩ : ByteArray)))
set_option maxHeartbeats 8000000 in
set_option maxRecDepth 100000 in
theorem impl_Quoted.calls (a0 : ByteArray) (r : ByteArray) (w : World) (h : impl_Quoted.f a0 = some r) :
  Calls Tryz.prog 6 #[.string a0] w fun e w' => e = .returned (.string r) ∧ Below w.heap.size w w' := by
 have HB := Aside0.mk (Below.refl w.heap.size w)
 have H : ((impl_VisibleOk.f a0).bind fun t101 => (if t101 = true then ((impl_quoted.f a0).bind fun t102 => (some t102)) else (some (⟨#[]⟩ : ByteArray)))) = some r := h
 clear h
 obtain ⟨t101, A20, H⟩ := Option.bind_eq_some_iff.mp H
 try dsimp only at H
 have A2 := Aside0.mk A20
 clear A20
 by_cases c3 : t101 = true
 ·
  subst c3
  have H1 : ((impl_quoted.f a0).bind fun t102 => (some t102)) = some r := by rw [if_pos rfl] at H; exact H
  clear H
  have H := H1
  clear H1
  replace H := Option.bind_eq_some_iff.mp H
  obtain ⟨t102, A40, H⟩ := H
  replace H : (some t102) = some r := H
  have A4 := Aside0.mk A40
  clear A40
  obtain rfl := Option.some.inj H
  go_enter Tryz.func6, Tryz.ntmps6
  go_wp2_with (first | ((with_reducible refine gate_callee (f := 9) rfl ?_); refine goesL_ (some 4) rfl rfl Tryz.func9 (by kernel_rfl) rfl #[.string a0] rfl mc ?_; (with_reducible refine (impl_VisibleOk.calls a0 true _ A2.out).mono ?_); rintro e w5 ⟨rfl, hb⟩; refine ⟨_, rfl, ?_⟩; replace HB := Aside0.mk (below_step bh hb); (try clear hb); (try clear hb2); (try clear hk); (try clear hi)) | ((with_reducible refine gate_callee (f := 23) rfl ?_); refine goesL_ (some 7) rfl rfl Tryz.func23 (by kernel_rfl) rfl #[.string a0] rfl mc ?_; (with_reducible refine (impl_quoted.calls a0 t102 _ A4.out).mono ?_); rintro e w6 ⟨rfl, hb⟩; refine ⟨_, rfl, ?_⟩; replace HB := Aside0.mk (below_step bh hb); (try clear hb); (try clear hb2); (try clear hk); (try clear hi)))
  go_ret
  exact ⟨er, bh⟩
 ·
  replace c3 := Bool.eq_false_iff.mpr c3
  subst c3
  have H1 : (some (⟨#[]⟩ : ByteArray)) = some r := by rw [if_neg (show ¬ (false = true) by decide)] at H; exact H
  clear H
  have H := H1
  clear H1
  obtain rfl := Option.some.inj H
  go_enter Tryz.func6, Tryz.ntmps6
  go_wp2_with (first | ((with_reducible refine gate_callee (f := 9) rfl ?_); refine goesL_ (some 4) rfl rfl Tryz.func9 (by kernel_rfl) rfl #[.string a0] rfl mc ?_; (with_reducible refine (impl_VisibleOk.calls a0 false _ A2.out).mono ?_); rintro e w7 ⟨rfl, hb⟩; refine ⟨_, rfl, ?_⟩; replace HB := Aside0.mk (below_step bh hb); (try clear hb); (try clear hb2); (try clear hk); (try clear hi)))
  go_ret
  exact ⟨er, bh⟩
/-! ### impl_TokenOk: function 11 -/
def impl_TokenOk.f (a0 : ByteArray) : Option (Bool) := if (a0.size : Int) ≥ 1 then (if (a0.size : Int) ≤ 64 then ((impl_all.f a0 31).bind fun t101 => (some t101)) else (some false)) else (some false)
set_option maxHeartbeats 8000000 in
set_option maxRecDepth 100000 in
theorem impl_TokenOk.calls (a0 : ByteArray) (r : Bool) (w : World) (h : impl_TokenOk.f a0 = some r) :
  Calls Tryz.prog 11 #[.string a0] w fun e w' => e = .returned (.bool r) ∧ Below w.heap.size w w' := by
 have HB := Aside0.mk (Below.refl w.heap.size w)
 have H : (if (a0.size : Int) ≥ 1 then (if (a0.size : Int) ≤ 64 then ((impl_all.f a0 31).bind fun t101 => (some t101)) else (some false)) else (some false)) = some r := h
 clear h
 by_cases c2 : (a0.size : Int) ≥ 1
 ·
  rw [if_pos c2] at H
  have c2b0 : decide (1 ≤ (a0.size : Int)) = true := decide_eq_true c2
  have c2b1 : decide (1 ≤ a0.size) = true := decide_eq_true (by omega)
  clear c2
  by_cases c3 : (a0.size : Int) ≤ 64
  ·
   rw [if_pos c3] at H
   have c3b0 : decide ((a0.size : Int) ≤ 64) = true := decide_eq_true c3
   have c3b1 : decide (a0.size ≤ 64) = true := decide_eq_true (by omega)
   clear c3
   replace H := Option.bind_eq_some_iff.mp H
   obtain ⟨t101, A40, H⟩ := H
   replace H : (some t101) = some r := H
   have A4 := Aside0.mk A40
   clear A40
   obtain rfl := Option.some.inj H
   go_enter Tryz.func11, Tryz.ntmps11
   go_wp2_with (first | (go_at_call 29; (with_reducible refine (impl_all.calls a0 31 t101 _ A4.out).mono ?_); rintro e w5 ⟨rfl, hb⟩; replace HB := Aside0.mk (below_step bh hb); (try clear hb); (try clear hb2); (try clear hk); (try clear hi)))
   go_ret
   exact ⟨er, bh⟩
  ·
   rw [if_neg c3] at H
   have c3b0 : decide ((a0.size : Int) ≤ 64) = false := decide_eq_false c3
   have c3b1 : decide (a0.size ≤ 64) = false := decide_eq_false (by omega)
   clear c3
   obtain rfl := Option.some.inj H
   go_enter Tryz.func11, Tryz.ntmps11
   go_wp2
   go_ret
   exact ⟨er, bh⟩
 ·
  rw [if_neg c2] at H
  have c2b0 : decide (1 ≤ (a0.size : Int)) = false := decide_eq_false c2
  have c2b1 : decide (1 ≤ a0.size) = false := decide_eq_false (by omega)
  clear c2
  obtain rfl := Option.some.inj H
  go_enter Tryz.func11, Tryz.ntmps11
  go_wp2
  go_ret
  exact ⟨er, bh⟩
end Go.Proofs.YtpgpjgdcfhodgaaGreatDoor.P
namespace Go.Proofs.YtpgpjgdcfhodgaaGreatDoor.P
open Go.RowKit Go.Proofs.YtpgpjgdcfhodgaaGreatDoorW.PrintWords Go.Proofs.YtpgpjgdcfhodgaaGreatDoorW.PrintLast Go.Proofs.YtpgpjgdcfhodgaaGreatDoorW.PrintMore

def strings_Trim.f (a0 a1 : ByteArray) : Option ByteArray :=
  if a0.size ≤ 9223372036854775807 ∧ a1.size < 4294967281 ∧ a1.data.toList.all (fun b => decide (b.toNat < 128)) = true then some ⟨(Lib.trimS a0.data.toList a1.data.toList).toArray⟩ else none
theorem strings_Trim.calls (a0 a1 : ByteArray) (r : ByteArray) (w : World) (h : strings_Trim.f a0 a1 = some r) :
    Calls Tryz.prog 37 #[.string a0, .string a1] w fun e w' => e = .returned (.string r) ∧ Below w.heap.size w w' := by
  unfold strings_Trim.f at h
  split at h
  · rename_i hc
    obtain rfl := Option.some.inj h
    exact Any.strings_Trim_laid Tryz.layTrim (by kernel_rfl) a0 a1 w hc.1 hc.2.1 (ascii_of_all hc.2.2)
  · cases h
end Go.Proofs.YtpgpjgdcfhodgaaGreatDoor.P
namespace Go.Proofs.YtpgpjgdcfhodgaaGreatDoor.P
open Go.RowKit Go.Proofs.YtpgpjgdcfhodgaaGreatDoorW.PrintWords Go.Proofs.YtpgpjgdcfhodgaaGreatDoorW.PrintLast Go.Proofs.YtpgpjgdcfhodgaaGreatDoorW.PrintMore
attribute [local go_sem] max2_int min2_int max_two min_two max_three min_three max_four min_four   -- for this text's walks alone
set_option linter.unusedVariables false
set_option linter.unusedSimpArgs false

/-! ### impl_Trimmed: function 17 -/
def impl_Trimmed.f (a0 : ByteArray) : Option (ByteArray) := (strings_Trim.f a0 (⟨#[32, 9]⟩ : ByteArray)).bind fun t101 => (some t101)
set_option maxHeartbeats 8000000 in
set_option maxRecDepth 100000 in
theorem impl_Trimmed.calls (a0 : ByteArray) (r : ByteArray) (w : World) (h : impl_Trimmed.f a0 = some r) :
  Calls Tryz.prog 17 #[.string a0] w fun e w' => e = .returned (.string r) ∧ Below w.heap.size w w' := by
 have HB := Aside0.mk (Below.refl w.heap.size w)
 have H : ((strings_Trim.f a0 (⟨#[32, 9]⟩ : ByteArray)).bind fun t101 => (some t101)) = some r := h
 clear h
 replace H := Option.bind_eq_some_iff.mp H
 obtain ⟨t101, A20, H⟩ := H
 replace H : (some t101) = some r := H
 have A2 := Aside0.mk A20
 clear A20
 obtain rfl := Option.some.inj H
 go_enter Tryz.func17, Tryz.ntmps17
 go_wp2_with (first | ((with_reducible refine gate_callee (f := 37) rfl ?_); refine goesL_ (some 4) rfl rfl Tryz.func37 (by kernel_rfl) rfl #[.string a0, .string (⟨#[32, 9]⟩ : ByteArray)] rfl mc ?_; (with_reducible refine (strings_Trim.calls a0 (⟨#[32, 9]⟩ : ByteArray) t101 _ A2.out).mono ?_); rintro e w3 ⟨rfl, hb⟩; refine ⟨_, rfl, ?_⟩; replace HB := Aside0.mk (below_step bh hb); (try clear hb); (try clear hb2); (try clear hk); (try clear hi)))
 go_ret
 exact ⟨er, bh⟩
/-! ### laws_big: function 4 -/
def laws_big.f (l0 : List Int) : Option (Bool) := some (decide ((l0.length : Int) > 4096))
set_option maxHeartbeats 8000000 in
set_option maxRecDepth 100000 in
theorem laws_big.calls (A0 : Option Addr) (c0 : Nat) (l0 : List Int) (r : Bool) (w : World) (hr0 : Kd.C (Kd.int .u8) w A0 l0.length l0) (hc0 : l0.length ≤ c0) (h : laws_big.f l0 = some r) :
  Calls Tryz.prog 4 #[.slice A0 l0.length c0] w fun e w' => e = .returned (.bool r) ∧ Drawn0 w w' := by
 have HR0 := Aside0.mk hr0
 have HC0 := Aside0.mk hc0
 clear hr0 hc0
 have H : (some (decide ((l0.length : Int) > 4096))) = some r := h
 clear h
 obtain rfl := Option.some.inj H
 go_enter Tryz.func4, Tryz.ntmps4
 go_wp2
 go_ret
 exact ⟨by first | rfl | (simp; done) | (simp [*]; done), by repeat (first | exact Drawn0.refl _ | apply Drawn0.step)⟩
/-! ### spec_DrawLower: function 18 -/
def spec_DrawLower.f (k : Nat) (l0 : List Int) : Option (ByteArray) := (spec_l1New.f k l0).bind fun bt101 => ((spec_l1DrawText.f k bt101.1 bt101.2.1 bt101.2.2 (⟨#[97, 98, 65, 90, 122, 64, 91]⟩ : ByteArray) 9).bind fun bt105 => (some bt105.1))
theorem spec_DrawLower.mono : ∀ a0 k, LeO (spec_DrawLower.f k a0) (spec_DrawLower.f (k + 1) a0) := by
 intro a0 k
 unfold spec_DrawLower.f
 repeat' first
   | (with_reducible exact spec_l1DrawText.mono _ _ _ _ _ _)
   | (with_reducible exact spec_l1New.mono _ _)
   | (with_reducible exact LeO.refl _)
   | (with_reducible exact LeO.none _)
   | (with_reducible refine LeO.ite ?_ ?_)
   | (with_reducible refine LeO.bind ?_ (fun _ => ?_))
   | exact spec_l1DrawText.mono _ _ _ _ _ _
   | exact spec_l1New.mono _ _
   | exact LeO.none _
   | refine LeO.ite ?_ ?_
   | refine LeO.bind ?_ (fun _ => ?_)
set_option maxHeartbeats 8000000 in
set_option maxRecDepth 100000 in
theorem spec_DrawLower.calls (k : Nat) (A0 : Option Addr) (c0 : Nat) (l0 : List Int) (r : ByteArray) (w : World) (hr0 : Kd.C (Kd.int .u8) w A0 l0.length l0) (hc0 : l0.length ≤ c0) (h : spec_DrawLower.f k l0 = some r) :
  Calls Tryz.prog 18 #[.slice A0 l0.length c0] w fun e w' => e = .returned (.string r) ∧ Below w.heap.size w w' := by
 have HR0 := Aside0.mk hr0
 have HC0 := Aside0.mk hc0
 clear hr0 hc0
 have HB := Aside0.mk (Below.refl w.heap.size w)
 have H : ((spec_l1New.f k l0).bind fun bt101 => ((spec_l1DrawText.f k bt101.1 bt101.2.1 bt101.2.2 (⟨#[97, 98, 65, 90, 122, 64, 91]⟩ : ByteArray) 9).bind fun bt105 => (some bt105.1))) = some r := h
 clear h
 obtain ⟨⟨t101, t102, t103⟩, A20, H⟩ := Option.bind_eq_some_iff.mp H
 try dsimp only at H
 have A2 := Aside0.mk A20
 clear A20
 replace H := Option.bind_eq_some_iff.mp H
 obtain ⟨⟨t105, t106, t107⟩, A30, H⟩ := H
 replace H : (some t105) = some r := H
 have A3 := Aside0.mk A30
 clear A30
 obtain rfl := Option.some.inj H
 go_enter Tryz.func18, Tryz.ntmps18
 go_wp2_with (first | ((with_reducible refine gate_callee (f := 24) rfl ?_); refine goesL_ (some 5) rfl rfl Tryz.func24 (by kernel_rfl) rfl #[.slice A0 l0.length c0] rfl mc ?_; (with_reducible refine (spec_l1New.calls k _ _ l0 t101 t102 t103 w _ ?side1 ?side2 ?side3 A2.out).mono ?_); (case side1 => exact zbh); (case side2 => exact HR0.out); (case side3 => exact HC0.out); rintro e w4 ⟨g104, rfl, hi, hb, hb2⟩; refine ⟨_, rfl, ?_⟩; have HI104 := Aside0.mk (hi); replace HB := Aside0.mk (hb); (try clear hb); (try clear hb2); (try clear hk); (try clear hi)) | ((with_reducible refine gate_callee (f := 27) rfl ?_); refine goesL_ (some 7) rfl rfl Tryz.func27 (by kernel_rfl) rfl #[.pointer (some ⟨g104, 0, none⟩), .string (⟨#[97, 98, 65, 90, 122, 64, 91]⟩ : ByteArray), .int .i64 9] rfl mc ?_; (with_reducible refine (spec_l1DrawText.calls k g104 t101 t102 t103 (⟨#[97, 98, 65, 90, 122, 64, 91]⟩ : ByteArray) 9 t105 t106 t107 w _ ?side1 ?side2 A3.out).mono ?_); (case side1 => repeat (first | (with_reducible first | exact HI104.out | apply IsS42.alloc | apply IsS42.drewN | apply IsS42.drew | apply IsS42.set_1 | apply IsS42.set_2) | exact HI104.out)); (case side2 => repeat (first | (with_reducible first | exact HB.out | apply below_alloc | apply pw_below_drewN | apply below_drew1 | refine below_set ?_ (IsS42.ge HI104.out)) | exact HB.out)); rintro e w5 ⟨rfl, hi, hb, hk⟩; refine ⟨_, rfl, ?_⟩; replace HI104 := Aside0.mk (hi); replace HB := Aside0.mk (hb); (try clear hb); (try clear hb2); (try clear hk); (try clear hi)))
 go_ret
 exact ⟨er, by repeat (first | (with_reducible first | exact HB.out | apply below_alloc | apply pw_below_drewN | apply below_drew1 | refine below_set ?_ (IsS42.ge HI104.out)) | exact HB.out)⟩
/-! ### spec_DrawQuoted: function 5 -/
def spec_DrawQuoted.f (k : Nat) (l0 : List Int) : Option (ByteArray) := (spec_DrawVisibleOk.f k l0).bind fun t101 => (some t101)
theorem spec_DrawQuoted.mono : ∀ a0 k, LeO (spec_DrawQuoted.f k a0) (spec_DrawQuoted.f (k + 1) a0) := by
 intro a0 k
 unfold spec_DrawQuoted.f
 repeat' first
   | (with_reducible exact spec_DrawVisibleOk.mono _ _)
   | (with_reducible exact LeO.refl _)
   | (with_reducible exact LeO.none _)
   | (with_reducible refine LeO.ite ?_ ?_)
   | (with_reducible refine LeO.bind ?_ (fun _ => ?_))
   | exact spec_DrawVisibleOk.mono _ _
   | exact LeO.none _
   | refine LeO.ite ?_ ?_
   | refine LeO.bind ?_ (fun _ => ?_)
set_option maxHeartbeats 8000000 in
set_option maxRecDepth 100000 in
theorem spec_DrawQuoted.calls (k : Nat) (A0 : Option Addr) (c0 : Nat) (l0 : List Int) (r : ByteArray) (w : World) (hr0 : Kd.C (Kd.int .u8) w A0 l0.length l0) (hc0 : l0.length ≤ c0) (h : spec_DrawQuoted.f k l0 = some r) :
  Calls Tryz.prog 5 #[.slice A0 l0.length c0] w fun e w' => e = .returned (.string r) ∧ Below w.heap.size w w' := by
 have HR0 := Aside0.mk hr0
 have HC0 := Aside0.mk hc0
 clear hr0 hc0
 have HB := Aside0.mk (Below.refl w.heap.size w)
 have H : ((spec_DrawVisibleOk.f k l0).bind fun t101 => (some t101)) = some r := h
 clear h
 replace H := Option.bind_eq_some_iff.mp H
 obtain ⟨t101, A20, H⟩ := H
 replace H : (some t101) = some r := H
 have A2 := Aside0.mk A20
 clear A20
 obtain rfl := Option.some.inj H
 go_enter Tryz.func5, Tryz.ntmps5
 go_wp2_with (first | ((with_reducible refine gate_callee (f := 22) rfl ?_); refine goesL_ (some 4) rfl rfl Tryz.func22 (by kernel_rfl) rfl #[.slice A0 l0.length c0] rfl mc ?_; (with_reducible refine (spec_DrawVisibleOk.calls k _ _ l0 t101 _ ?side1 ?side2 A2.out).mono ?_); (case side1 => repeat (first | exact HR0.out | (with_reducible refine Kd.C_alloc ?_ _) | (with_reducible refine Kd.C_drewN ?_ _) | (with_reducible refine Kd.C_drew ?_))); (case side2 => exact HC0.out); rintro e w3 ⟨rfl, hb⟩; refine ⟨_, rfl, ?_⟩; replace HB := Aside0.mk (below_step bh hb); (try clear hb); (try clear hb2); (try clear hk); (try clear hi)))
 go_ret
 exact ⟨er, bh⟩
/-! ### spec_DrawTrimmed: function 16 -/
def spec_DrawTrimmed.f (k : Nat) (l0 : List Int) : Option (ByteArray) := (spec_l1New.f k l0).bind fun bt101 => ((spec_l1DrawText.f k bt101.1 bt101.2.1 bt101.2.2 (⟨#[97, 32, 9]⟩ : ByteArray) 7).bind fun bt105 => (some bt105.1))
theorem spec_DrawTrimmed.mono : ∀ a0 k, LeO (spec_DrawTrimmed.f k a0) (spec_DrawTrimmed.f (k + 1) a0) := by
 intro a0 k
 unfold spec_DrawTrimmed.f
 repeat' first
   | (with_reducible exact spec_l1DrawText.mono _ _ _ _ _ _)
   | (with_reducible exact spec_l1New.mono _ _)
   | (with_reducible exact LeO.refl _)
   | (with_reducible exact LeO.none _)
   | (with_reducible refine LeO.ite ?_ ?_)
   | (with_reducible refine LeO.bind ?_ (fun _ => ?_))
   | exact spec_l1DrawText.mono _ _ _ _ _ _
   | exact spec_l1New.mono _ _
   | exact LeO.none _
   | refine LeO.ite ?_ ?_
   | refine LeO.bind ?_ (fun _ => ?_)
set_option maxHeartbeats 8000000 in
set_option maxRecDepth 100000 in
theorem spec_DrawTrimmed.calls (k : Nat) (A0 : Option Addr) (c0 : Nat) (l0 : List Int) (r : ByteArray) (w : World) (hr0 : Kd.C (Kd.int .u8) w A0 l0.length l0) (hc0 : l0.length ≤ c0) (h : spec_DrawTrimmed.f k l0 = some r) :
  Calls Tryz.prog 16 #[.slice A0 l0.length c0] w fun e w' => e = .returned (.string r) ∧ Below w.heap.size w w' := by
 have HR0 := Aside0.mk hr0
 have HC0 := Aside0.mk hc0
 clear hr0 hc0
 have HB := Aside0.mk (Below.refl w.heap.size w)
 have H : ((spec_l1New.f k l0).bind fun bt101 => ((spec_l1DrawText.f k bt101.1 bt101.2.1 bt101.2.2 (⟨#[97, 32, 9]⟩ : ByteArray) 7).bind fun bt105 => (some bt105.1))) = some r := h
 clear h
 obtain ⟨⟨t101, t102, t103⟩, A20, H⟩ := Option.bind_eq_some_iff.mp H
 try dsimp only at H
 have A2 := Aside0.mk A20
 clear A20
 replace H := Option.bind_eq_some_iff.mp H
 obtain ⟨⟨t105, t106, t107⟩, A30, H⟩ := H
 replace H : (some t105) = some r := H
 have A3 := Aside0.mk A30
 clear A30
 obtain rfl := Option.some.inj H
 go_enter Tryz.func16, Tryz.ntmps16
 go_wp2_with (first | ((with_reducible refine gate_callee (f := 24) rfl ?_); refine goesL_ (some 5) rfl rfl Tryz.func24 (by kernel_rfl) rfl #[.slice A0 l0.length c0] rfl mc ?_; (with_reducible refine (spec_l1New.calls k _ _ l0 t101 t102 t103 w _ ?side1 ?side2 ?side3 A2.out).mono ?_); (case side1 => exact zbh); (case side2 => exact HR0.out); (case side3 => exact HC0.out); rintro e w4 ⟨g104, rfl, hi, hb, hb2⟩; refine ⟨_, rfl, ?_⟩; have HI104 := Aside0.mk (hi); replace HB := Aside0.mk (hb); (try clear hb); (try clear hb2); (try clear hk); (try clear hi)) | ((with_reducible refine gate_callee (f := 27) rfl ?_); refine goesL_ (some 7) rfl rfl Tryz.func27 (by kernel_rfl) rfl #[.pointer (some ⟨g104, 0, none⟩), .string (⟨#[97, 32, 9]⟩ : ByteArray), .int .i64 7] rfl mc ?_; (with_reducible refine (spec_l1DrawText.calls k g104 t101 t102 t103 (⟨#[97, 32, 9]⟩ : ByteArray) 7 t105 t106 t107 w _ ?side1 ?side2 A3.out).mono ?_); (case side1 => repeat (first | (with_reducible first | exact HI104.out | apply IsS42.alloc | apply IsS42.drewN | apply IsS42.drew | apply IsS42.set_1 | apply IsS42.set_2) | exact HI104.out)); (case side2 => repeat (first | (with_reducible first | exact HB.out | apply below_alloc | apply pw_below_drewN | apply below_drew1 | refine below_set ?_ (IsS42.ge HI104.out)) | exact HB.out)); rintro e w5 ⟨rfl, hi, hb, hk⟩; refine ⟨_, rfl, ?_⟩; replace HI104 := Aside0.mk (hi); replace HB := Aside0.mk (hb); (try clear hb); (try clear hb2); (try clear hk); (try clear hi)))
 go_ret
 exact ⟨er, by repeat (first | (with_reducible first | exact HB.out | apply below_alloc | apply pw_below_drewN | apply below_drew1 | refine below_set ?_ (IsS42.ge HI104.out)) | exact HB.out)⟩
/-! ### spec_Quoted: function 8 -/
def spec_Quoted.f (k : Nat) (a0 : ByteArray) : Option (ByteArray) := (spec_VisibleOk.f k a0).bind fun t101 => (if t101 = true then ((spec_l1Quoted.f k a0).bind fun t102 => (some t102)) else (some (⟨#[]⟩ : ByteArray)))
theorem spec_Quoted.mono : ∀ a0 k, LeO (spec_Quoted.f k a0) (spec_Quoted.f (k + 1) a0) := by
 intro a0 k
 unfold spec_Quoted.f
 repeat' first
   | (with_reducible exact spec_VisibleOk.mono _ _)
   | (with_reducible exact spec_l1Quoted.mono _ _)
   | (with_reducible exact LeO.refl _)
   | (with_reducible exact LeO.none _)
   | (with_reducible refine LeO.ite ?_ ?_)
   | (with_reducible refine LeO.bind ?_ (fun _ => ?_))
   | exact spec_VisibleOk.mono _ _
   | exact spec_l1Quoted.mono _ _
   | exact LeO.none _
   | refine LeO.ite ?_ ?_
   | refine LeO.bind ?_ (fun _ => ?_)
set_option maxHeartbeats 8000000 in
set_option maxRecDepth 100000 in
theorem spec_Quoted.calls (k : Nat) (a0 : ByteArray) (r : ByteArray) (w : World) (h : spec_Quoted.f k a0 = some r) :
  Calls Tryz.prog 8 #[.string a0] w fun e w' => e = .returned (.string r) ∧ Below w.heap.size w w' := by
 have HB := Aside0.mk (Below.refl w.heap.size w)
 have H : ((spec_VisibleOk.f k a0).bind fun t101 => (if t101 = true then ((spec_l1Quoted.f k a0).bind fun t102 => (some t102)) else (some (⟨#[]⟩ : ByteArray)))) = some r := h
 clear h
 obtain ⟨t101, A20, H⟩ := Option.bind_eq_some_iff.mp H
 try dsimp only at H
 have A2 := Aside0.mk A20
 clear A20
 by_cases c3 : t101 = true
 ·
  subst c3
  rw [if_pos rfl] at H
  replace H := Option.bind_eq_some_iff.mp H
  obtain ⟨t102, A40, H⟩ := H
  replace H : (some t102) = some r := H
  have A4 := Aside0.mk A40
  clear A40
  obtain rfl := Option.some.inj H
  go_enter Tryz.func8, Tryz.ntmps8
  go_wp2_with (first | ((with_reducible refine gate_callee (f := 10) rfl ?_); refine goesL_ (some 4) rfl rfl Tryz.func10 (by kernel_rfl) rfl #[.string a0] rfl mc ?_; (with_reducible refine (spec_VisibleOk.calls k a0 true _ A2.out).mono ?_); rintro e w' ⟨rfl, ⟨nd, rfl⟩⟩; refine ⟨_, rfl, ?_⟩) | ((with_reducible refine gate_callee (f := 28) rfl ?_); refine goesL_ (some 7) rfl rfl Tryz.func28 (by kernel_rfl) rfl #[.string a0] rfl mc ?_; (with_reducible refine (spec_l1Quoted.calls k a0 t102 _ A4.out).mono ?_); rintro e w5 ⟨rfl, hb⟩; refine ⟨_, rfl, ?_⟩; replace HB := Aside0.mk (below_step bh hb); (try clear hb); (try clear hb2); (try clear hk); (try clear hi)))
  go_ret
  exact ⟨er, bh⟩
 ·
  replace c3 := Bool.eq_false_iff.mpr c3
  subst c3
  have H1 : (some (⟨#[]⟩ : ByteArray)) = some r := by rw [if_neg (show ¬ (false = true) by decide)] at H; exact H
  clear H
  have H := H1
  clear H1
  obtain rfl := Option.some.inj H
  go_enter Tryz.func8, Tryz.ntmps8
  go_wp2_with (first | ((with_reducible refine gate_callee (f := 10) rfl ?_); refine goesL_ (some 4) rfl rfl Tryz.func10 (by kernel_rfl) rfl #[.string a0] rfl mc ?_; (with_reducible refine (spec_VisibleOk.calls k a0 false _ A2.out).mono ?_); rintro e w' ⟨rfl, ⟨nd, rfl⟩⟩; refine ⟨_, rfl, ?_⟩))
  go_ret
  exact ⟨er, bh⟩
/-! ### spec_DrawUnquoted: function 14 -/
def spec_DrawUnquoted.f (k : Nat) (l0 : List Int) : Option (ByteArray) := (spec_l1New.f k l0).bind fun bt101 => ((spec_DrawVisibleOk.f k l0).bind fun t105 => ((spec_Quoted.f k t105).bind fun t106 => ((spec_l1Once.f bt101.1 bt101.2.1 bt101.2.2 2).bind fun bt107 => (if bt107.1 = true then ((spec_l1Bend.f k bt101.1 bt107.2.1 bt107.2.2 t106 (⟨#[97, 34, 92, 32]⟩ : ByteArray)).bind fun bt110 => (some bt110.1)) else (some t106)))))
theorem spec_DrawUnquoted.mono : ∀ a0 k, LeO (spec_DrawUnquoted.f k a0) (spec_DrawUnquoted.f (k + 1) a0) := by
 intro a0 k
 unfold spec_DrawUnquoted.f
 repeat' first
   | (with_reducible exact spec_DrawVisibleOk.mono _ _)
   | (with_reducible exact spec_Quoted.mono _ _)
   | (with_reducible exact spec_l1Bend.mono _ _ _ _ _ _)
   | (with_reducible exact spec_l1New.mono _ _)
   | (with_reducible exact LeO.refl _)
   | (with_reducible exact LeO.none _)
   | (with_reducible refine LeO.ite ?_ ?_)
   | (with_reducible refine LeO.bind ?_ (fun _ => ?_))
   | exact spec_DrawVisibleOk.mono _ _
   | exact spec_Quoted.mono _ _
   | exact spec_l1Bend.mono _ _ _ _ _ _
   | exact spec_l1New.mono _ _
   | exact LeO.none _
   | refine LeO.ite ?_ ?_
   | refine LeO.bind ?_ (fun _ => ?_)
set_option maxHeartbeats 8000000 in
set_option maxRecDepth 100000 in
theorem spec_DrawUnquoted.calls (k : Nat) (A0 : Option Addr) (c0 : Nat) (l0 : List Int) (r : ByteArray) (w : World) (hr0 : Kd.C (Kd.int .u8) w A0 l0.length l0) (hc0 : l0.length ≤ c0) (h : spec_DrawUnquoted.f k l0 = some r) :
  Calls Tryz.prog 14 #[.slice A0 l0.length c0] w fun e w' => e = .returned (.string r) ∧ Below w.heap.size w w' := by
 have HR0 := Aside0.mk hr0
 have HC0 := Aside0.mk hc0
 clear hr0 hc0
 have HB := Aside0.mk (Below.refl w.heap.size w)
 have H := h
 unfold spec_DrawUnquoted.f at H
 clear h
 obtain ⟨⟨t101, t102, t103⟩, A20, H⟩ := Option.bind_eq_some_iff.mp H
 try dsimp only at H
 have A2 := Aside0.mk A20
 clear A20
 obtain ⟨t105, A30, H⟩ := Option.bind_eq_some_iff.mp H
 try dsimp only at H
 have A3 := Aside0.mk A30
 clear A30
 obtain ⟨t106, A40, H⟩ := Option.bind_eq_some_iff.mp H
 try dsimp only at H
 have A4 := Aside0.mk A40
 clear A40
 obtain ⟨⟨t107, t108, t109⟩, A50, H⟩ := Option.bind_eq_some_iff.mp H
 try dsimp only at H
 have A5 := Aside0.mk A50
 clear A50
 by_cases c6 : t107 = true
 ·
  subst c6
  rw [if_pos rfl] at H
  replace H := Option.bind_eq_some_iff.mp H
  obtain ⟨⟨t110, t111, t112⟩, A70, H⟩ := H
  replace H : (some t110) = some r := H
  have A7 := Aside0.mk A70
  clear A70
  obtain rfl := Option.some.inj H
  go_enter Tryz.func14, Tryz.ntmps14
  go_wp2_with (first | ((with_reducible refine gate_callee (f := 24) rfl ?_); refine goesL_ (some 6) rfl rfl Tryz.func24 (by kernel_rfl) rfl #[.slice A0 l0.length c0] rfl mc ?_; (with_reducible refine (spec_l1New.calls k _ _ l0 t101 t102 t103 w _ ?side1 ?side2 ?side3 A2.out).mono ?_); (case side1 => exact zbh); (case side2 => exact HR0.out); (case side3 => exact HC0.out); rintro e w8 ⟨g104, rfl, hi, hb, hb2⟩; refine ⟨_, rfl, ?_⟩; have HI104 := Aside0.mk (hi); replace HB := Aside0.mk (hb); (try clear hb); (try clear hb2); (try clear hk); (try clear hi)) | ((with_reducible refine gate_callee (f := 22) rfl ?_); refine goesL_ (some 8) rfl rfl Tryz.func22 (by kernel_rfl) rfl #[.slice A0 l0.length c0] rfl mc ?_; (with_reducible refine (spec_DrawVisibleOk.calls k _ _ l0 t105 _ ?side1 ?side2 A3.out).mono ?_); (case side1 => repeat (first | exact (Kd.C_below HR0.out HB.out) | (with_reducible refine Kd.C_alloc ?_ _) | (with_reducible refine Kd.C_drewN ?_ _) | (with_reducible refine Kd.C_drew ?_))); (case side2 => exact HC0.out); rintro e w9 ⟨rfl, hb⟩; refine ⟨_, rfl, ?_⟩; have n0_ := Aside0.mk (IsS42.below (by repeat (first | (with_reducible first | exact HI104.out | apply IsS42.alloc | apply IsS42.drewN | apply IsS42.drew | apply IsS42.set_1 | apply IsS42.set_2) | exact HI104.out)) hb); have n1_ := Aside0.mk (below_step (by repeat (first | (with_reducible first | exact HB.out | apply below_alloc | apply pw_below_drewN | apply below_drew1 | refine below_set ?_ (IsS42.ge HI104.out)) | exact HB.out)) hb); clear HI104; clear HB; have HI104 := n0_; have HB := n1_; clear n0_ n1_; (try clear hb); (try clear hb2); (try clear hk); (try clear hi)) | ((with_reducible refine gate_callee (f := 8) rfl ?_); refine goesL_ (some 9) rfl rfl Tryz.func8 (by kernel_rfl) rfl #[.string t105] rfl mc ?_; (with_reducible refine (spec_Quoted.calls k t105 t106 _ A4.out).mono ?_); rintro e w10 ⟨rfl, hb⟩; refine ⟨_, rfl, ?_⟩; have n0_ := Aside0.mk (IsS42.below (by repeat (first | (with_reducible first | exact HI104.out | apply IsS42.alloc | apply IsS42.drewN | apply IsS42.drew | apply IsS42.set_1 | apply IsS42.set_2) | exact HI104.out)) hb); have n1_ := Aside0.mk (below_step (by repeat (first | (with_reducible first | exact HB.out | apply below_alloc | apply pw_below_drewN | apply below_drew1 | refine below_set ?_ (IsS42.ge HI104.out)) | exact HB.out)) hb); clear HI104; clear HB; have HI104 := n0_; have HB := n1_; clear n0_ n1_; (try clear hb); (try clear hb2); (try clear hk); (try clear hi)) | ((with_reducible refine gate_callee (f := 25) rfl ?_); refine goesL_ (some 11) rfl rfl Tryz.func25 (by kernel_rfl) rfl #[.pointer (some ⟨g104, 0, none⟩), .int .i64 2] rfl mc ?_; (with_reducible refine (spec_l1Once.calls g104 t101 t102 t103 2 true t108 t109 w _ ?side1 ?side2 A5.out).mono ?_); (case side1 => repeat (first | (with_reducible first | exact HI104.out | apply IsS42.alloc | apply IsS42.drewN | apply IsS42.drew | apply IsS42.set_1 | apply IsS42.set_2) | exact HI104.out)); (case side2 => repeat (first | (with_reducible first | exact HB.out | apply below_alloc | apply pw_below_drewN | apply below_drew1 | refine below_set ?_ (IsS42.ge HI104.out)) | exact HB.out)); rintro e w11 ⟨rfl, hi, hb, hk⟩; refine ⟨_, rfl, ?_⟩; replace HI104 := Aside0.mk (hi); replace HB := Aside0.mk (hb); (try clear hb); (try clear hb2); (try clear hk); (try clear hi)) | ((with_reducible refine gate_callee (f := 36) rfl ?_); refine goesL_ (some 14) rfl rfl Tryz.func36 (by kernel_rfl) rfl #[.pointer (some ⟨g104, 0, none⟩), .string t106, .string (⟨#[97, 34, 92, 32]⟩ : ByteArray)] rfl mc ?_; (with_reducible refine (spec_l1Bend.calls k g104 t101 t108 t109 t106 (⟨#[97, 34, 92, 32]⟩ : ByteArray) t110 t111 t112 w _ ?side1 ?side2 A7.out).mono ?_); (case side1 => repeat (first | (with_reducible first | exact HI104.out | apply IsS42.alloc | apply IsS42.drewN | apply IsS42.drew | apply IsS42.set_1 | apply IsS42.set_2) | exact HI104.out)); (case side2 => repeat (first | (with_reducible first | exact HB.out | apply below_alloc | apply pw_below_drewN | apply below_drew1 | refine below_set ?_ (IsS42.ge HI104.out)) | exact HB.out)); rintro e w12 ⟨rfl, hi, hb, hk⟩; refine ⟨_, rfl, ?_⟩; replace HI104 := Aside0.mk (hi); replace HB := Aside0.mk (hb); (try clear hb); (try clear hb2); (try clear hk); (try clear hi)))
  go_ret
  exact ⟨er, by repeat (first | (with_reducible first | exact HB.out | apply below_alloc | apply pw_below_drewN | apply below_drew1 | refine below_set ?_ (IsS42.ge HI104.out)) | exact HB.out)⟩
 ·
  replace c6 := Bool.eq_false_iff.mpr c6
  subst c6
  have H1 : (some t106) = some r := by rw [if_neg (show ¬ (false = true) by decide)] at H; exact H
  clear H
  have H := H1
  clear H1
  obtain rfl := Option.some.inj H
  go_enter Tryz.func14, Tryz.ntmps14
  go_wp2_with (first | ((with_reducible refine gate_callee (f := 24) rfl ?_); refine goesL_ (some 6) rfl rfl Tryz.func24 (by kernel_rfl) rfl #[.slice A0 l0.length c0] rfl mc ?_; (with_reducible refine (spec_l1New.calls k _ _ l0 t101 t102 t103 w _ ?side1 ?side2 ?side3 A2.out).mono ?_); (case side1 => exact zbh); (case side2 => exact HR0.out); (case side3 => exact HC0.out); rintro e w13 ⟨g104, rfl, hi, hb, hb2⟩; refine ⟨_, rfl, ?_⟩; have HI104 := Aside0.mk (hi); replace HB := Aside0.mk (hb); (try clear hb); (try clear hb2); (try clear hk); (try clear hi)) | ((with_reducible refine gate_callee (f := 22) rfl ?_); refine goesL_ (some 8) rfl rfl Tryz.func22 (by kernel_rfl) rfl #[.slice A0 l0.length c0] rfl mc ?_; (with_reducible refine (spec_DrawVisibleOk.calls k _ _ l0 t105 _ ?side1 ?side2 A3.out).mono ?_); (case side1 => repeat (first | exact (Kd.C_below HR0.out HB.out) | (with_reducible refine Kd.C_alloc ?_ _) | (with_reducible refine Kd.C_drewN ?_ _) | (with_reducible refine Kd.C_drew ?_))); (case side2 => exact HC0.out); rintro e w14 ⟨rfl, hb⟩; refine ⟨_, rfl, ?_⟩; have n0_ := Aside0.mk (IsS42.below (by repeat (first | (with_reducible first | exact HI104.out | apply IsS42.alloc | apply IsS42.drewN | apply IsS42.drew | apply IsS42.set_1 | apply IsS42.set_2) | exact HI104.out)) hb); have n1_ := Aside0.mk (below_step (by repeat (first | (with_reducible first | exact HB.out | apply below_alloc | apply pw_below_drewN | apply below_drew1 | refine below_set ?_ (IsS42.ge HI104.out)) | exact HB.out)) hb); clear HI104; clear HB; have HI104 := n0_; have HB := n1_; clear n0_ n1_; (try clear hb); (try clear hb2); (try clear hk); (try clear hi)) | ((with_reducible refine gate_callee (f := 8) rfl ?_); refine goesL_ (some 9) rfl rfl Tryz.func8 (by kernel_rfl) rfl #[.string t105] rfl mc ?_; (with_reducible refine (spec_Quoted.calls k t105 t106 _ A4.out).mono ?_); rintro e w15 ⟨rfl, hb⟩; refine ⟨_, rfl, ?_⟩; have n0_ := Aside0.mk (IsS42.below (by repeat (first | (with_reducible first | exact HI104.out | apply IsS42.alloc | apply IsS42.drewN | apply IsS42.drew | apply IsS42.set_1 | apply IsS42.set_2) | exact HI104.out)) hb); have n1_ := Aside0.mk (below_step (by repeat (first | (with_reducible first | exact HB.out | apply below_alloc | apply pw_below_drewN | apply below_drew1 | refine below_set ?_ (IsS42.ge HI104.out)) | exact HB.out)) hb); clear HI104; clear HB; have HI104 := n0_; have HB := n1_; clear n0_ n1_; (try clear hb); (try clear hb2); (try clear hk); (try clear hi)) | ((with_reducible refine gate_callee (f := 25) rfl ?_); refine goesL_ (some 11) rfl rfl Tryz.func25 (by kernel_rfl) rfl #[.pointer (some ⟨g104, 0, none⟩), .int .i64 2] rfl mc ?_; (with_reducible refine (spec_l1Once.calls g104 t101 t102 t103 2 false t108 t109 w _ ?side1 ?side2 A5.out).mono ?_); (case side1 => repeat (first | (with_reducible first | exact HI104.out | apply IsS42.alloc | apply IsS42.drewN | apply IsS42.drew | apply IsS42.set_1 | apply IsS42.set_2) | exact HI104.out)); (case side2 => repeat (first | (with_reducible first | exact HB.out | apply below_alloc | apply pw_below_drewN | apply below_drew1 | refine below_set ?_ (IsS42.ge HI104.out)) | exact HB.out)); rintro e w16 ⟨rfl, hi, hb, hk⟩; refine ⟨_, rfl, ?_⟩; replace HI104 := Aside0.mk (hi); replace HB := Aside0.mk (hb); (try clear hb); (try clear hb2); (try clear hk); (try clear hi)))
  go_ret
  exact ⟨er, by repeat (first | (with_reducible first | exact HB.out | apply below_alloc | apply pw_below_drewN | apply below_drew1 | refine below_set ?_ (IsS42.ge HI104.out)) | exact HB.out)⟩
end Go.Proofs.YtpgpjgdcfhodgaaGreatDoor.P
namespace Go.Proofs.YtpgpjgdcfhodgaaGreatDoor.P
set_option linter.unusedVariables false
set_option linter.unusedSimpArgs false
open Go.RowKit Go.Lib Go.Proofs.YtpgpjgdcfhodgaaGreatDoorW.PrintWords Go.Proofs.YtpgpjgdcfhodgaaGreatDoorW.PrintLast Go.Proofs.YtpgpjgdcfhodgaaGreatDoorW.PrintMore

def tokTab : List Int := [33, 35, 36, 37, 38, 39, 42, 43, 45, 46, 94, 95, 124, 126, 96]
theorem tokTab_cell (w : World) (k : Nat) (h : k < 15) : (w.alloc (.cells #[.int .u8 33, .int .u8 35, .int .u8 36, .int .u8 37, .int .u8 38, .int .u8 39, .int .u8 42, .int .u8 43, .int .u8 45, .int .u8 46, .int .u8 94, .int .u8 95, .int .u8 124, .int .u8 126, .int .u8 96] 5 (15, 16))).cell? ⟨w.heap.size, k, none⟩ = some (.int .u8 (tokTab.getD k 0)) := by
  rw [World.cell?_alloc_mark]
  have hl : k < tokTab.length := h
  have e : (#[.int .u8 33, .int .u8 35, .int .u8 36, .int .u8 37, .int .u8 38, .int .u8 39, .int .u8 42, .int .u8 43, .int .u8 45, .int .u8 46, .int .u8 94, .int .u8 95, .int .u8 124, .int .u8 126, .int .u8 96] : Array Value) = (tokTab.map (Value.int .u8)).toArray := rfl
  rw [e, List.getElem?_toArray, List.getElem?_map, List.getD_eq_getElem?_getD, List.getElem?_eq_getElem hl]
  rfl

set_option maxHeartbeats 2000000 in
theorem spec_l1Token_loop (c : Int) (w : World) (hc : c < 48 ∨ (57 < c ∧ c < 65) ∨ (90 < c ∧ c < 97) ∨ 122 < c) :
    Calls Tryz.prog 35 #[.int .u8 c] w fun e w' => e = .returned (.bool (tokTab.any fun x => x == c)) ∧ Below w.heap.size w w' := by
  have kc := fun (w : World) (C : Array Value) (n c : Nat) => Lib.run_convert_bytes_const (P := Tryz.prog) w 22 5 C n c Tryz.underlying22 Tryz.underlying5
  rcases hc with h | ⟨h, h'⟩ | ⟨h, h'⟩ | h
  all_goals
    go_enter Tryz.func35, Tryz.ntmps35
    go_wp2
    go_loop [31] (fun i => ∃ k : Nat, k ≤ 15 ∧ i = .int .i64 k ∧ Aside ((tokTab.take k).any (fun x => x == c) = false)) (fun i => 15 - (intOf i).toNat)
    case atStart => exact ⟨0, Nat.zero_le _, rfl, rfl⟩
    case round =>
      obtain ⟨k, hk, rfl, A⟩ := hrel
      by_cases hlt : k < 15
      · have hcell := tokTab_cell w k hlt
        have hltz : (k : Int) < 15 := by omega
        have hnext : tokTab.take (k + 1) = tokTab.take k ++ [tokTab.getD k 0] := by
          have h1 : k < tokTab.length := hlt
          rw [List.take_succ_eq_append_getElem h1, List.getD_eq_getElem?_getD, List.getElem?_eq_getElem h1]; rfl
        have N := Lib.hid hnext
        clear hnext
        obtain ⟨x, hx⟩ : ∃ x, tokTab.getD k 0 = x := ⟨_, rfl⟩
        rw [hx] at hcell
        have X := Lib.hid hx
        clear hx
        by_cases e : x = c
        · have eb : (x == c) = true := by simpa using e
          clear e
          go_wp2
          go_ret
          refine ⟨?_, by first | exact (Below.refl _ w).alloc (Nat.le_refl _) _ | (repeat (first | exact Below.refl _ _ | apply below_alloc))⟩
          have : tokTab.any (fun x => x == c) = true := by
            rw [← List.take_append_drop (k + 1) tokTab, List.any_append, N.out, List.any_append, X.out]
            simp [eb]
          rw [this]; rfl
        · have eb : (x == c) = false := by simpa using e
          clear e
          go_wp2
          go_round
          case rel => exact ⟨k + 1, by omega, by go_num, show Aside _ from (show ((tokTab.take (k + 1)).any fun x => x == c) = false by
            rw [N.out, List.any_append, A.out, X.out]
            simp [eb])⟩
          case measure => simp [intOf]; omega
      · have hltz : ¬ (k : Int) < 15 := by omega
        go_wp2
        go_ret
        refine ⟨?_, by first | exact (Below.refl _ w).alloc (Nat.le_refl _) _ | (repeat (first | exact Below.refl _ _ | apply below_alloc))⟩
        have : tokTab.any (fun x => x == c) = false := by
          have h2 := A.out
          rw [List.take_of_length_le (by show 15 ≤ k; omega)] at h2
          exact h2
        rw [this]; rfl

set_option maxHeartbeats 1000000 in
theorem spec_l1Token_sure (c : Int) (w : World) (hc : (48 ≤ c ∧ c ≤ 57) ∨ (65 ≤ c ∧ c ≤ 90) ∨ (97 ≤ c ∧ c ≤ 122)) :
    Calls Tryz.prog 35 #[.int .u8 c] w fun e w' => e = .returned (.bool true) ∧ Below w.heap.size w w' := by
  rcases hc with ⟨h, h'⟩ | ⟨h, h'⟩ | ⟨h, h'⟩
  all_goals
    go_enter Tryz.func35, Tryz.ntmps35
    go_wp2
    go_ret
    exact ⟨rfl, Below.refl _ _⟩

def spec_l1Token.f (a0 : Int) : Option Bool :=
  some (decide (48 ≤ a0 ∧ a0 ≤ 57) || decide (65 ≤ a0 ∧ a0 ≤ 90) || decide (97 ≤ a0 ∧ a0 ≤ 122) || tokTab.any fun x => x == a0)
theorem spec_l1Token.calls (a0 : Int) (r : Bool) (w : World) (h : spec_l1Token.f a0 = some r) :
    Calls Tryz.prog 35 #[.int .u8 a0] w fun e w' => e = .returned (.bool r) ∧ Below w.heap.size w w' := by
  obtain rfl := Option.some.inj h
  by_cases hc : (48 ≤ a0 ∧ a0 ≤ 57) ∨ (65 ≤ a0 ∧ a0 ≤ 90) ∨ (97 ≤ a0 ∧ a0 ≤ 122)
  · have : (decide (48 ≤ a0 ∧ a0 ≤ 57) || decide (65 ≤ a0 ∧ a0 ≤ 90) || decide (97 ≤ a0 ∧ a0 ≤ 122) || tokTab.any fun x => x == a0) = true := by
      rcases hc with h | h | h <;> simp [h]
    rw [this]
    exact spec_l1Token_sure a0 w hc
  · have : (decide (48 ≤ a0 ∧ a0 ≤ 57) || decide (65 ≤ a0 ∧ a0 ≤ 90) || decide (97 ≤ a0 ∧ a0 ≤ 122) || tokTab.any fun x => x == a0) = (tokTab.any fun x => x == a0) := by
      rw [decide_eq_false (fun h => hc (.inl h)), decide_eq_false (fun h => hc (.inr (.inl h))), decide_eq_false (fun h => hc (.inr (.inr h)))]
      rfl
    rw [this]
    exact spec_l1Token_loop a0 w (by omega)
end Go.Proofs.YtpgpjgdcfhodgaaGreatDoor.P
namespace Go.Proofs.YtpgpjgdcfhodgaaGreatDoor.P
open Go.RowKit Go.Proofs.YtpgpjgdcfhodgaaGreatDoorW.PrintWords Go.Proofs.YtpgpjgdcfhodgaaGreatDoorW.PrintLast Go.Proofs.YtpgpjgdcfhodgaaGreatDoorW.PrintMore
attribute [local go_sem] max2_int min2_int max_two min_two max_three min_three max_four min_four   -- for this text's walks alone
set_option linter.unusedVariables false
set_option linter.unusedSimpArgs false

/-! ### spec_TokenOk: function 12 -/
mutual
def spec_TokenOk.j0 : Nat → ByteArray → Bool → Option (Bool)
 | 0, _, _ => none
 | k + 1, x0, x11 => if x11 = true then (some false) else (spec_TokenOk.l0 k x0 0)
def spec_TokenOk.l0 : Nat → ByteArray → Int → Option (Bool)
 | 0, _, _ => none
 | k + 1, x0, x3 => if x3 < (x0.size : Int) then (if 0 ≤ x3 then ((spec_l1Token.f (bt x0 x3)).bind fun t101 => (if t101 = true then (spec_TokenOk.l0 k x0 (wrap64 (x3 + 1))) else (some false))) else (none)) else (some true)
end
def spec_TokenOk.f (k : Nat) (a0 : ByteArray) : Option (Bool) := if (a0.size : Int) < 1 then (spec_TokenOk.j0 k a0 true) else (spec_TokenOk.j0 k a0 (decide ((a0.size : Int) > 64)))
theorem spec_TokenOk.mono_l : ∀ k, (∀ y0 y1, LeO (spec_TokenOk.j0 k y0 y1) (spec_TokenOk.j0 (k + 1) y0 y1)) ∧ (∀ y0 y1, LeO (spec_TokenOk.l0 k y0 y1) (spec_TokenOk.l0 (k + 1) y0 y1))
 | 0 => ⟨fun _ _ r h => by simp [spec_TokenOk.j0] at h, fun _ _ r h => by simp [spec_TokenOk.l0] at h⟩
 | k + 1 => by
  obtain ⟨ih0, ih1⟩ := spec_TokenOk.mono_l k
  refine ⟨?_, ?_⟩
  ·
   intro y0 y1
   unfold spec_TokenOk.j0
   repeat' first
   | (with_reducible exact ih0 _ _)
   | (with_reducible exact ih1 _ _)
   | (with_reducible exact LeO.refl _)
   | (with_reducible exact LeO.none _)
   | (with_reducible refine LeO.ite ?_ ?_)
   | (with_reducible refine LeO.bind ?_ (fun _ => ?_))
   | exact ih0 _ _
   | exact ih1 _ _
   | exact LeO.none _
   | refine LeO.ite ?_ ?_
   | refine LeO.bind ?_ (fun _ => ?_)
  ·
   intro y0 y1
   unfold spec_TokenOk.l0
   repeat' first
   | (with_reducible exact ih0 _ _)
   | (with_reducible exact ih1 _ _)
   | (with_reducible exact LeO.refl _)
   | (with_reducible exact LeO.none _)
   | (with_reducible refine LeO.ite ?_ ?_)
   | (with_reducible refine LeO.bind ?_ (fun _ => ?_))
   | exact ih0 _ _
   | exact ih1 _ _
   | exact LeO.none _
   | refine LeO.ite ?_ ?_
   | refine LeO.bind ?_ (fun _ => ?_)
theorem spec_TokenOk.mono : ∀ a0 k, LeO (spec_TokenOk.f k a0) (spec_TokenOk.f (k + 1) a0) := by
 intro a0 k
 obtain ⟨ih0, ih1⟩ := spec_TokenOk.mono_l k
 unfold spec_TokenOk.f
 repeat' first
   | (with_reducible exact ih0 _ _)
   | (with_reducible exact ih1 _ _)
   | (with_reducible exact LeO.refl _)
   | (with_reducible exact LeO.none _)
   | (with_reducible refine LeO.ite ?_ ?_)
   | (with_reducible refine LeO.bind ?_ (fun _ => ?_))
   | exact ih0 _ _
   | exact ih1 _ _
   | exact LeO.none _
   | refine LeO.ite ?_ ?_
   | refine LeO.bind ?_ (fun _ => ?_)
set_option maxHeartbeats 8000000 in
set_option maxRecDepth 100000 in
theorem spec_TokenOk.calls (k : Nat) (a0 : ByteArray) (r : Bool) (w : World) (h : spec_TokenOk.f k a0 = some r) :
  Calls Tryz.prog 12 #[.string a0] w fun e w' => e = .returned (.bool r) ∧ Below w.heap.size w w' := by
 have HB := Aside0.mk (Below.refl w.heap.size w)
 have H : (if (a0.size : Int) < 1 then (spec_TokenOk.j0 k a0 true) else (spec_TokenOk.j0 k a0 (decide ((a0.size : Int) > 64)))) = some r := h
 clear h
 have HC2 := Aside0.mk H
 clear H
 go_enter Tryz.func12, Tryz.ntmps12
 go_upto_region 1 with (fail)
 go_cut [11] (fun v11 wc => ∃ (kq : Nat) (x11_1 : Bool), v11 = .bool x11_1 ∧ Aside0 (spec_TokenOk.j0 kq a0 x11_1 = some r) ∧ Aside0 (kq ≤ k) ∧ Aside0 (Below w.heap.size w wc))
 case first =>
  have H := HC2.out
  clear HC2
  by_cases c3 : (a0.size : Int) < 1
  ·
   rw [if_pos c3] at H
   have c3b0 : decide ((a0.size : Int) < 1) = true := decide_eq_true c3
   have c3b1 : decide (a0.size < 1) = true := decide_eq_true (by omega)
   clear c3
   (first | rw [c3b0] | (simp only [i64_w, i32_w]; rw [c3b0]) | skip)
   have H' := Aside0.mk H
   clear H
   go_wp2
   go_meet
   case rel => exact ⟨_, (true), (by first | rfl | (simp; done) | (simp [*]; done)), H', ⟨by first | omega | exact Nat.le_refl _⟩, ⟨bh⟩⟩
  ·
   rw [if_neg c3] at H
   have c3b0 : decide ((a0.size : Int) < 1) = false := decide_eq_false c3
   have c3b1 : decide (a0.size < 1) = false := decide_eq_false (by omega)
   clear c3
   (first | rw [c3b0] | (simp only [i64_w, i32_w]; rw [c3b0]) | skip)
   have H' := Aside0.mk H
   clear H
   go_wp2
   go_meet
   case rel => exact ⟨_, (decide ((a0.size : Int) > 64)), (by first | rfl | (simp; done) | (simp [*]; done)), H', ⟨by first | omega | exact Nat.le_refl _⟩, ⟨bh⟩⟩
 case rest =>
  clear HC2
  try clear c1
  try clear p2
  try clear c3
  try clear c3b0
  try clear c3b1
  obtain ⟨kq, x11_1, rfl, HA, HJ1, HB⟩ := hcut
  cases kq with
  | zero => exact absurd HA.out (by simp [spec_TokenOk.j0])
  | succ kj1 =>
   have H := HA.out
   clear HA
   simp only [spec_TokenOk.j0] at H
   by_cases c4 : x11_1 = true
   ·
    subst c4
    have H1 : (some false) = some r := by rw [if_pos rfl] at H; exact H
    clear H
    have H := H1
    clear H1
    obtain rfl := Option.some.inj H
    go_wp2
    go_ret
    exact ⟨er, bh⟩
   ·
    replace c4 := Bool.eq_false_iff.mpr c4
    subst c4
    have H1 : (spec_TokenOk.l0 kj1 a0 0) = some r := by rw [if_neg (show ¬ (false = true) by decide)] at H; exact H
    clear H
    have H := H1
    clear H1
    have H' := Aside0.mk H
    clear H
    go_wp2
    go_loopg [3] kj1 (fun kq v3 w' => ∃ (x3_2 : Int), v3 = .int .i64 x3_2 ∧ Aside0 (spec_TokenOk.l0 kq a0 x3_2 = some r) ∧ Aside0 (kq ≤ kj1) ∧ Aside0 (Below w.heap.size w w'))
    case atStart => exact ⟨(0), (by first | rfl | (simp; done) | (simp [*]; done)), H', ⟨Nat.le_refl _⟩, ⟨bh⟩⟩
    case round =>
     clear H'
     try clear c1
     try clear p2
     try clear c3
     try clear c3b0
     try clear c3b1
     try clear c4
     try clear p2
     obtain ⟨x3_2, rfl, HA, HK2, HB⟩ := hrel
     cases gk with
     | zero => exact absurd HA.out (by simp [spec_TokenOk.l0])
     | succ k2 =>
      have H := HA.out
      clear HA
      simp only [spec_TokenOk.l0] at H
      by_cases c5 : x3_2 < (a0.size : Int)
      ·
       rw [if_pos c5] at H
       have c5b0 : decide (x3_2 < (a0.size : Int)) = true := decide_eq_true c5
       clear c5
       by_cases c6 : 0 ≤ x3_2
       ·
        rw [if_pos c6] at H
        have c6b0 : decide (0 ≤ x3_2) = true := decide_eq_true c6
        clear c6
        obtain ⟨t101, A80, H⟩ := Option.bind_eq_some_iff.mp H
        try dsimp only at H
        have A8 := Aside0.mk A80
        clear A80
        by_cases c9 : t101 = true
        ·
         subst c9
         have H1 : (spec_TokenOk.l0 k2 a0 (wrap64 (x3_2 + 1))) = some r := by rw [if_pos rfl] at H; exact H
         clear H
         have H := H1
         clear H1
         have H' := Aside0.mk H
         clear H
         have p7 : 0 ≤ (x3_2 : Int) := of_decide_eq_true (by first | (with_reducible assumption) | assumption)
         have q7 : x3_2 < (a0.size : Int) := of_decide_eq_true (by first | (with_reducible assumption) | assumption)
         have hx7 := bt_at a0 x3_2
         replace p7 := eq_true p7
         replace q7 := eq_true q7
         go_wp2_with (first | ((with_reducible refine gate_callee (f := 35) rfl ?_); refine goesL_ (some 21) rfl rfl Tryz.func35 (by kernel_rfl) rfl #[.int .u8 (bt a0 x3_2)] rfl mc ?_; (with_reducible refine (spec_l1Token.calls (bt a0 x3_2) true _ A8.out).mono ?_); rintro e w10 ⟨rfl, hb⟩; refine ⟨_, rfl, ?_⟩; replace HB := Aside0.mk (below_step bh hb); (try clear hb); (try clear hb2); (try clear hk); (try clear hi)))
         go_roundg k2
         case measure => have := HJ1.out; have := HK2.out; omega
         case rel => exact ⟨(wrap64 (x3_2 + 1)), (by first | rfl | (simp; done) | (simp [*]; done)), H', ⟨by have := HJ1.out; have := HK2.out; omega⟩, ⟨bh⟩⟩
        ·
         replace c9 := Bool.eq_false_iff.mpr c9
         subst c9
         have H1 : (some false) = some r := by rw [if_neg (show ¬ (false = true) by decide)] at H; exact H
         clear H
         have H := H1
         clear H1
         obtain rfl := Option.some.inj H
         have p7 : 0 ≤ (x3_2 : Int) := of_decide_eq_true (by first | (with_reducible assumption) | assumption)
         have q7 : x3_2 < (a0.size : Int) := of_decide_eq_true (by first | (with_reducible assumption) | assumption)
         have hx7 := bt_at a0 x3_2
         replace p7 := eq_true p7
         replace q7 := eq_true q7
         go_wp2_with (first | ((with_reducible refine gate_callee (f := 35) rfl ?_); refine goesL_ (some 21) rfl rfl Tryz.func35 (by kernel_rfl) rfl #[.int .u8 (bt a0 x3_2)] rfl mc ?_; (with_reducible refine (spec_l1Token.calls (bt a0 x3_2) false _ A8.out).mono ?_); rintro e w11 ⟨rfl, hb⟩; refine ⟨_, rfl, ?_⟩; replace HB := Aside0.mk (below_step bh hb); (try clear hb); (try clear hb2); (try clear hk); (try clear hi)))
         go_ret
         exact ⟨er, bh⟩
       ·
        rw [if_neg c6] at H
        exact absurd H (by simp)
      ·
       rw [if_neg c5] at H
       have c5b0 : decide (x3_2 < (a0.size : Int)) = false := decide_eq_false c5
       clear c5
       obtain rfl := Option.some.inj H
       go_wp2
       go_ret
       exact ⟨er, bh⟩
end Go.Proofs.YtpgpjgdcfhodgaaGreatDoor.P
namespace Go.Proofs.YtpgpjgdcfhodgaaGreatDoor.P
set_option linter.unusedVariables false
open Go.RowKit Go.Proofs.YtpgpjgdcfhodgaaGreatDoorW.PrintWords Go.Proofs.YtpgpjgdcfhodgaaGreatDoorW.PrintLast Go.Proofs.YtpgpjgdcfhodgaaGreatDoorW.PrintMore

def deBruijn64Tab : List Int := [0, 1, 56, 2, 57, 49, 28, 3, 61, 58, 42, 50, 38, 29, 17, 4, 62, 47, 59, 36, 45, 43, 51, 22, 53, 39, 33, 30, 24, 18, 12, 5, 63, 55, 48, 27, 60, 41, 37, 16, 46, 35, 44, 21, 52, 32, 23, 11, 54, 26, 40, 15, 34, 20, 31, 10, 25, 14, 19, 9, 13, 8, 7, 6]
/-- Which variables hold what they are laid with: 1: MaxLen is some number · 2: the powers of ten · 4: the table of trailing zeros. -/
def XW (m : Nat) (w : World) : Prop :=
  (m % 2 = 1 → ∃ v, w.cell? ⟨0, 0, none⟩ = some (.int .i64 v)) ∧
  True
theorem XW.stays {m : Nat} {w w' : World} (h : XW m w) (hb : Below w.heap.size w w') : XW m w' := by
  unfold XW at h ⊢
  obtain ⟨h1, h⟩ := h
  refine ⟨fun hm => ?_, ?_⟩
  · obtain ⟨v, hv⟩ := h1 hm
    exact ⟨v, (hb.cell (World.block_lt_of_cell? w _ hv)).trans hv⟩
  exact trivial
theorem XW.to {m m' : Nat} {w : World} (h : XW m w) (hs : (m' % 2 = 1 → m % 2 = 1) ∧ (m' / 2 % 2 = 1 → m / 2 % 2 = 1) ∧ (m' / 4 % 2 = 1 → m / 4 % 2 = 1)) : XW m' w := by
  unfold XW at h ⊢
  obtain ⟨s1, s2, s3⟩ := hs
  obtain ⟨h1, h⟩ := h
  refine ⟨fun hm => h1 (s1 hm), ?_⟩
  exact trivial
theorem XW.maxLen {m : Nat} {w : World} (h : XW m w) (hm : m % 2 = 1) : ∃ v, w.cell? ⟨0, 0, none⟩ = some (.int .i64 v) := by
  unfold XW at h
  exact h.1 hm
theorem ne_nil_isEmpty (l : List UInt8) : (l != ([] : List UInt8)) = !l.isEmpty := by cases l <;> rfl
theorem below_grow {w : World} (k : Nat) (os : Array Obj) : Below w.heap.size w (Go.Sort.grow (w.drewN k) os) := by
  have h := pw_below_drewN (Below.refl w.heap.size w) k
  refine ⟨h.os, h.tape, h.output, by rw [Go.Sort.size_grow]; exact Nat.le_trans h.size (Nat.le_add_right _ _), fun j hj => ?_⟩
  rw [← h.block j hj]
  show ((w.drewN k).heap ++ os)[j]? = _
  rw [Array.getElem?_append_left (Nat.lt_of_lt_of_le hj h.size)]

section
variable {P : Program} {ops : Array Oper} {o : Oper} {a : Act} {Q : Exit → Act → World → Prop} {K : Act → World → Prop}
theorem print_append_str_step {w0 W : World} (base : Nat) (hw : Region.wanted o (yielded ops a.tmps) = true) (s x : Operand) (t u e : TypeId)
    (ho : o.op = .call { callee := .builtin .append, args := #[s, x], argTypes := #[t, u] })
    (ht : P.underlying t = some (.slice e)) (hu : P.underlying u = some .string) (hinfo : (P.info? e).map (fun i => (i.zero, i.size, i.bytes)) = some (some (.int .u8 0), 1, 1))
    (v : Value) (xs : List Int) (y : ByteArray) (hs : a.eval s = v) (hx : a.eval x = .string y)
    (HO : W.ownsRow base e 1 v xs.length (nums .u8 xs)) (HB : Below base w0 W) (hbase : base ≤ W.heap.size) (hl : xs.length + y.size ≤ 140737488355328)
    (h : ∀ v1 w1, w1.ownsRow base e 1 v1 (xs ++ bytesOf y).length (nums .u8 (xs ++ bytesOf y)) → Below base w0 w1 → W.grownBy w1 v.ownBlock → K (a.put o.dst v1) w1) :
    if Region.wanted o (yielded ops a.tmps) = true then Oper.wp P o a W K Q else K (a.put o.dst undef) W := by
  obtain ⟨i0, hi, hzz⟩ := Option.map_eq_some_iff.1 hinfo
  simp only [Prod.mk.injEq] at hzz
  obtain ⟨hz0, hz1, hz2⟩ := hzz
  rw [if_pos hw]
  obtain ⟨v1, w1, hr, hown, hg, _⟩ := Lib.run_append_own_string (P := P) W base t u o.type e i0 ht hu hi hz0 hz1 hz2 v xs.length (nums .u8 xs) HO y (by simp only [maxLen]; omega) hl hbase
  unfold Oper.wp execOp
  simp only [ho, resolve, invoke, builtin, Sem.run_bind, Sem.run_pure, Result.andThen_ok, List.map_toArray, List.map_cons, List.map_nil, hs, hx, hr]
  have hl2 : (xs ++ bytesOf y).length = xs.length + y.size := by rw [List.length_append, bytesOf_length]
  have hc : nums .u8 (xs ++ bytesOf y) = nums .u8 xs ++ Lib.strCells y := by
    rw [nums_append]
    congr 1
    simp [nums, bytesOf, Lib.strCells]
  exact h v1 w1 (by rw [hl2, hc]; exact hown) (HB.grown hg hbase (own_base HO)) hg
end
end Go.Proofs.YtpgpjgdcfhodgaaGreatDoor.P
namespace Go.Proofs.YtpgpjgdcfhodgaaGreatDoor.P
open Go.RowKit Go.Proofs.YtpgpjgdcfhodgaaGreatDoorW.PrintWords Go.Proofs.YtpgpjgdcfhodgaaGreatDoorW.PrintLast Go.Proofs.YtpgpjgdcfhodgaaGreatDoorW.PrintMore
attribute [local go_sem] max2_int min2_int max_two min_two max_three min_three max_four min_four   -- for this text's walks alone
set_option linter.unusedVariables false
set_option linter.unusedSimpArgs false

/-! ### laws_FnTexts: function 3 -/
mutual
def laws_FnTexts.j0 : Nat → List Int → ByteArray → ByteArray → Bool → Option (Bool)
 | 0, _, _, _, _ => none
 | k + 1, x0, x3, x4, x48 => if x48 = true then (some false) else (if x4.toList = ([] : List UInt8) then (laws_FnTexts.j1 k x0 x3 x4 false) else (laws_FnTexts.j1 k x0 x3 x4 (decide ((x3.size : Int) < 400))))
def laws_FnTexts.j1 : Nat → List Int → ByteArray → ByteArray → Bool → Option (Bool)
 | 0, _, _, _, _ => none
 | k + 1, x0, x3, x4, x55 => if x55 = true then ((impl_Unquoted.f k x4).bind fun bt111 => (if bt111.2 = true then (if bt111.1.toList = x3.toList then (laws_FnTexts.j2 k x0) else (some false)) else (some false))) else (laws_FnTexts.j2 k x0)
def laws_FnTexts.j2 : Nat → List Int → Option (Bool)
 | 0, _ => none
 | k + 1, x0 => (spec_DrawUnquoted.f k x0).bind fun t113 => ((impl_Unquoted.f k t113).bind fun bt114 => ((spec_Unquoted.f k t113).bind fun bt116 => (if (bt114.2 != bt116.2) = true then (laws_FnTexts.j3 k x0 bt114.1 bt114.2 true) else (if bt114.1.toList = bt116.1.toList then (if bt114.2 = true then ((impl_Quoted.f bt114.1).bind fun t118 => (laws_FnTexts.j3 k x0 bt114.1 bt114.2 (t118.toList != t113.toList))) else (laws_FnTexts.j3 k x0 bt114.1 bt114.2 false)) else (laws_FnTexts.j3 k x0 bt114.1 bt114.2 true)))))
def laws_FnTexts.j3 : Nat → List Int → ByteArray → Bool → Bool → Option (Bool)
 | 0, _, _, _, _ => none
 | k + 1, x0, x9, x10, x96 => if x96 = true then (some false) else ((spec_DrawTrimmed.f k x0).bind fun t119 => ((impl_Trimmed.f t119).bind fun t120 => ((spec_DrawLower.f k x0).bind fun t121 => ((spec_Trimmed.f k t119).bind fun t122 => (if t120.toList = t122.toList then ((impl_Trimmed.f t120).bind fun t123 => (if t123.toList = t120.toList then ((impl_Lower.f t121).bind fun t124 => ((spec_Lower.f t121).bind fun t125 => (if t124.toList = t125.toList then ((impl_Lower.f t121).bind fun t126 => ((impl_Lower.f t126).bind fun t127 => ((impl_Lower.f t121).bind fun t128 => (if t127.toList = t128.toList then (if x10 = true then (some true) else (some (x9.toList == ([] : List UInt8)))) else (some false))))) else (some false)))) else (some false))) else (some false))))))
end
def laws_FnTexts.f (k : Nat) (l0 : List Int) : Option (Bool) := (laws_big.f l0).bind fun t101 => (if t101 = true then (some true) else ((spec_DrawQuoted.f k l0).bind fun t102 => ((impl_Quoted.f t102).bind fun t103 => ((spec_DrawTokenOk.f k l0).bind fun t104 => ((spec_Quoted.f k t102).bind fun t105 => (if t103.toList = t105.toList then ((impl_VisibleOk.f t102).bind fun t106 => ((spec_VisibleOk.f k t102).bind fun t107 => (if (t106 != t107) = true then (laws_FnTexts.j0 k l0 t102 t103 true) else ((impl_TokenOk.f t104).bind fun t108 => ((spec_TokenOk.f k t104).bind fun t109 => (if (t108 != t109) = true then (laws_FnTexts.j0 k l0 t102 t103 true) else ((impl_VisibleOk.f t102).bind fun t110 => (laws_FnTexts.j0 k l0 t102 t103 ((t103.toList != ([] : List UInt8)) != t110))))))))) else (laws_FnTexts.j0 k l0 t102 t103 true)))))))
theorem laws_FnTexts.mono_l : ∀ k, (∀ y0 y1 y2 y3, LeO (laws_FnTexts.j0 k y0 y1 y2 y3) (laws_FnTexts.j0 (k + 1) y0 y1 y2 y3)) ∧ (∀ y0 y1 y2 y3, LeO (laws_FnTexts.j1 k y0 y1 y2 y3) (laws_FnTexts.j1 (k + 1) y0 y1 y2 y3)) ∧ (∀ y0, LeO (laws_FnTexts.j2 k y0) (laws_FnTexts.j2 (k + 1) y0)) ∧ (∀ y0 y1 y2 y3, LeO (laws_FnTexts.j3 k y0 y1 y2 y3) (laws_FnTexts.j3 (k + 1) y0 y1 y2 y3))
 | 0 => ⟨fun _ _ _ _ r h => by simp [laws_FnTexts.j0] at h, fun _ _ _ _ r h => by simp [laws_FnTexts.j1] at h, fun _ r h => by simp [laws_FnTexts.j2] at h, fun _ _ _ _ r h => by simp [laws_FnTexts.j3] at h⟩
 | k + 1 => by
  obtain ⟨ih0, ih1, ih2, ih3⟩ := laws_FnTexts.mono_l k
  refine ⟨?_, ?_, ?_, ?_⟩
  ·
   intro y0 y1 y2 y3
   unfold laws_FnTexts.j0
   repeat' first
   | (with_reducible exact ih0 _ _ _ _)
   | (with_reducible exact ih1 _ _ _ _)
   | (with_reducible exact ih2 _)
   | (with_reducible exact ih3 _ _ _ _)
   | (with_reducible exact impl_Unquoted.mono _ _)
   | (with_reducible exact spec_DrawLower.mono _ _)
   | (with_reducible exact spec_DrawQuoted.mono _ _)
   | (with_reducible exact spec_DrawTokenOk.mono _ _)
   | (with_reducible exact spec_DrawTrimmed.mono _ _)
   | (with_reducible exact spec_DrawUnquoted.mono _ _)
   | (with_reducible exact spec_Quoted.mono _ _)
   | (with_reducible exact spec_TokenOk.mono _ _)
   | (with_reducible exact spec_Trimmed.mono _ _)
   | (with_reducible exact spec_Unquoted.mono _ _)
   | (with_reducible exact spec_VisibleOk.mono _ _)
   | (with_reducible exact LeO.refl _)
   | (with_reducible exact LeO.none _)
   | (with_reducible refine LeO.ite ?_ ?_)
   | (with_reducible refine LeO.bind ?_ (fun _ => ?_))
   | exact ih0 _ _ _ _
   | exact ih1 _ _ _ _
   | exact ih2 _
   | exact ih3 _ _ _ _
   | exact impl_Unquoted.mono _ _
   | exact spec_DrawLower.mono _ _
   | exact spec_DrawQuoted.mono _ _
   | exact spec_DrawTokenOk.mono _ _
   | exact spec_DrawTrimmed.mono _ _
   | exact spec_DrawUnquoted.mono _ _
   | exact spec_Quoted.mono _ _
   | exact spec_TokenOk.mono _ _
   | exact spec_Trimmed.mono _ _
   | exact spec_Unquoted.mono _ _
   | exact spec_VisibleOk.mono _ _
   | exact LeO.none _
   | refine LeO.ite ?_ ?_
   | refine LeO.bind ?_ (fun _ => ?_)
  ·
   intro y0 y1 y2 y3
   unfold laws_FnTexts.j1
   repeat' first
   | (with_reducible exact ih0 _ _ _ _)
   | (with_reducible exact ih1 _ _ _ _)
   | (with_reducible exact ih2 _)
   | (with_reducible exact ih3 _ _ _ _)
   | (with_reducible exact impl_Unquoted.mono _ _)
   | (with_reducible exact spec_DrawLower.mono _ _)
   | (with_reducible exact spec_DrawQuoted.mono _ _)
   | (with_reducible exact spec_DrawTokenOk.mono _ _)
   | (with_reducible exact spec_DrawTrimmed.mono _ _)
   | (with_reducible exact spec_DrawUnquoted.mono _ _)
   | (with_reducible exact spec_Quoted.mono _ _)
   | (with_reducible exact spec_TokenOk.mono _ _)
   | (with_reducible exact spec_Trimmed.mono _ _)
   | (with_reducible exact spec_Unquoted.mono _ _)
   | (with_reducible exact spec_VisibleOk.mono _ _)
   | (with_reducible exact LeO.refl _)
   | (with_reducible exact LeO.none _)
   | (with_reducible refine LeO.ite ?_ ?_)
   | (with_reducible refine LeO.bind ?_ (fun _ => ?_))
   | exact ih0 _ _ _ _
   | exact ih1 _ _ _ _
   | exact ih2 _
   | exact ih3 _ _ _ _
   | exact impl_Unquoted.mono _ _
   | exact spec_DrawLower.mono _ _
   | exact spec_DrawQuoted.mono _ _
   | exact spec_DrawTokenOk.mono _ _
   | exact spec_DrawTrimmed.mono _ _
   | exact spec_DrawUnquoted.mono _ _
   | exact spec_Quoted.mono _ _
   | exact spec_TokenOk.mono _ _
   | exact spec_Trimmed.mono _ _
   | exact spec_Unquoted.mono _ _
   | exact spec_VisibleOk.mono _ _
   | exact LeO.none _
   | refine LeO.ite ?_ ?_
   | refine LeO.bind ?_ (fun _ => ?_)
  ·
   intro y0
   unfold laws_FnTexts.j2
   repeat' first
   | (with_reducible exact ih0 _ _ _ _)
   | (with_reducible exact ih1 _ _ _ _)
   | (with_reducible exact ih2 _)
   | (with_reducible exact ih3 _ _ _ _)
   | (with_reducible exact impl_Unquoted.mono _ _)
   | (with_reducible exact spec_DrawLower.mono _ _)
   | (with_reducible exact spec_DrawQuoted.mono _ _)
   | (with_reducible exact spec_DrawTokenOk.mono _ _)
   | (with_reducible exact spec_DrawTrimmed.mono _ _)
   | (with_reducible exact spec_DrawUnquoted.mono _ _)
   | (with_reducible exact spec_Quoted.mono _ _)
   | (with_reducible exact spec_TokenOk.mono _ _)
   | (with_reducible exact spec_Trimmed.mono _ _)
   | (with_reducible exact spec_Unquoted.mono _ _)
   | (with_reducible exact spec_VisibleOk.mono _ _)
   | (with_reducible exact LeO.refl _)
   | (with_reducible exact LeO.none _)
   | (with_reducible refine LeO.ite ?_ ?_)
   | (with_reducible refine LeO.bind ?_ (fun _ => ?_))
   | exact ih0 _ _ _ _
   | exact ih1 _ _ _ _
   | exact ih2 _
   | exact ih3 _ _ _ _
   | exact impl_Unquoted.mono _ _
   | exact spec_DrawLower.mono _ _
   | exact spec_DrawQuoted.mono _ _
   | exact spec_DrawTokenOk.mono _ _
   | exact spec_DrawTrimmed.mono _ _
   | exact spec_DrawUnquoted.mono _ _
   | exact spec_Quoted.mono _ _
   | exact spec_TokenOk.mono _ _
   | exact spec_Trimmed.mono _ _
   | exact spec_Unquoted.mono _ _
   | exact spec_VisibleOk.mono _ _
   | exact LeO.none _
   | refine LeO.ite ?_ ?_
   | refine LeO.bind ?_ (fun _ => ?_)
  ·
   intro y0 y1 y2 y3
   unfold laws_FnTexts.j3
   repeat' first
   | (with_reducible exact ih0 _ _ _ _)
   | (with_reducible exact ih1 _ _ _ _)
   | (with_reducible exact ih2 _)
   | (with_reducible exact ih3 _ _ _ _)
   | (with_reducible exact impl_Unquoted.mono _ _)
   | (with_reducible exact spec_DrawLower.mono _ _)
   | (with_reducible exact spec_DrawQuoted.mono _ _)
   | (with_reducible exact spec_DrawTokenOk.mono _ _)
   | (with_reducible exact spec_DrawTrimmed.mono _ _)
   | (with_reducible exact spec_DrawUnquoted.mono _ _)
   | (with_reducible exact spec_Quoted.mono _ _)
   | (with_reducible exact spec_TokenOk.mono _ _)
   | (with_reducible exact spec_Trimmed.mono _ _)
   | (with_reducible exact spec_Unquoted.mono _ _)
   | (with_reducible exact spec_VisibleOk.mono _ _)
   | (with_reducible exact LeO.refl _)
   | (with_reducible exact LeO.none _)
   | (with_reducible refine LeO.ite ?_ ?_)
   | (with_reducible refine LeO.bind ?_ (fun _ => ?_))
   | exact ih0 _ _ _ _
   | exact ih1 _ _ _ _
   | exact ih2 _
   | exact ih3 _ _ _ _
   | exact impl_Unquoted.mono _ _
   | exact spec_DrawLower.mono _ _
   | exact spec_DrawQuoted.mono _ _
   | exact spec_DrawTokenOk.mono _ _
   | exact spec_DrawTrimmed.mono _ _
   | exact spec_DrawUnquoted.mono _ _
   | exact spec_Quoted.mono _ _
   | exact spec_TokenOk.mono _ _
   | exact spec_Trimmed.mono _ _
   | exact spec_Unquoted.mono _ _
   | exact spec_VisibleOk.mono _ _
   | exact LeO.none _
   | refine LeO.ite ?_ ?_
   | refine LeO.bind ?_ (fun _ => ?_)
theorem laws_FnTexts.mono : ∀ a0 k, LeO (laws_FnTexts.f k a0) (laws_FnTexts.f (k + 1) a0) := by
 intro a0 k
 obtain ⟨ih0, ih1, ih2, ih3⟩ := laws_FnTexts.mono_l k
 unfold laws_FnTexts.f
 repeat' first
   | (with_reducible exact ih0 _ _ _ _)
   | (with_reducible exact ih1 _ _ _ _)
   | (with_reducible exact ih2 _)
   | (with_reducible exact ih3 _ _ _ _)
   | (with_reducible exact impl_Unquoted.mono _ _)
   | (with_reducible exact spec_DrawLower.mono _ _)
   | (with_reducible exact spec_DrawQuoted.mono _ _)
   | (with_reducible exact spec_DrawTokenOk.mono _ _)
   | (with_reducible exact spec_DrawTrimmed.mono _ _)
   | (with_reducible exact spec_DrawUnquoted.mono _ _)
   | (with_reducible exact spec_Quoted.mono _ _)
   | (with_reducible exact spec_TokenOk.mono _ _)
   | (with_reducible exact spec_Trimmed.mono _ _)
   | (with_reducible exact spec_Unquoted.mono _ _)
   | (with_reducible exact spec_VisibleOk.mono _ _)
   | (with_reducible exact LeO.refl _)
   | (with_reducible exact LeO.none _)
   | (with_reducible refine LeO.ite ?_ ?_)
   | (with_reducible refine LeO.bind ?_ (fun _ => ?_))
   | exact ih0 _ _ _ _
   | exact ih1 _ _ _ _
   | exact ih2 _
   | exact ih3 _ _ _ _
   | exact impl_Unquoted.mono _ _
   | exact spec_DrawLower.mono _ _
   | exact spec_DrawQuoted.mono _ _
   | exact spec_DrawTokenOk.mono _ _
   | exact spec_DrawTrimmed.mono _ _
   | exact spec_DrawUnquoted.mono _ _
   | exact spec_Quoted.mono _ _
   | exact spec_TokenOk.mono _ _
   | exact spec_Trimmed.mono _ _
   | exact spec_Unquoted.mono _ _
   | exact spec_VisibleOk.mono _ _
   | exact LeO.none _
   | refine LeO.ite ?_ ?_
   | refine LeO.bind ?_ (fun _ => ?_)
set_option maxHeartbeats 8000000 in
set_option maxRecDepth 100000 in
theorem laws_FnTexts.calls (k : Nat) (A0 : Option Addr) (c0 : Nat) (l0 : List Int) (r : Bool) (w : World) (hr0 : Kd.C (Kd.int .u8) w A0 l0.length l0) (hc0 : l0.length ≤ c0) (h : laws_FnTexts.f k l0 = some r) :
  Calls Tryz.prog 3 #[.slice A0 l0.length c0] w fun e w' => e = .returned (.bool r) ∧ Below w.heap.size w w' := by
 have HR0 := Aside0.mk hr0
 have HC0 := Aside0.mk hc0
 clear hr0 hc0
 have HB := Aside0.mk (Below.refl w.heap.size w)
 have H := h
 unfold laws_FnTexts.f at H
 clear h
 obtain ⟨t101, A20, H⟩ := Option.bind_eq_some_iff.mp H
 try dsimp only at H
 have A2 := Aside0.mk A20
 clear A20
 by_cases c3 : t101 = true
 ·
  subst c3
  have H1 : (some true) = some r := by rw [if_pos rfl] at H; exact H
  clear H
  have H := H1
  clear H1
  obtain rfl := Option.some.inj H
  go_enter Tryz.func3, Tryz.ntmps3
  go_wp2_with (first | ((with_reducible refine gate_callee (f := 4) rfl ?_); refine goesL_ (some 17) rfl rfl Tryz.func4 (by kernel_rfl) rfl #[.slice A0 l0.length c0] rfl (by (try simp only [List.map_toArray, List.map_cons, List.map_nil]); first | done | rfl | (simp only [ne_nil_isEmpty]; rfl) | (simp only [List.length_drop, List.length_take]; rfl)) ?_; (with_reducible refine (laws_big.calls _ _ l0 true _ ?side1 ?side2 A2.out).mono ?_); (case side1 => repeat (first | exact HR0.out | (with_reducible refine Kd.C_alloc ?_ _) | (with_reducible refine Kd.C_drewN ?_ _) | (with_reducible refine Kd.C_drew ?_))); (case side2 => exact HC0.out); rintro e w' ⟨rfl, ⟨nd, rfl⟩⟩; refine ⟨_, rfl, ?_⟩))
  go_ret
  exact ⟨by first | rfl | (simp [ne_nil_isEmpty]; done) | (simp [errW_none, errW_some] <;> rfl) | (simp [*, errW_none, errW_some] <;> rfl), bh⟩
 ·
  replace c3 := Bool.eq_false_iff.mpr c3
  subst c3
  rw [if_neg (show ¬ (false = true) by decide)] at H
  obtain ⟨t102, A40, H⟩ := Option.bind_eq_some_iff.mp H
  try dsimp only at H
  have A4 := Aside0.mk A40
  clear A40
  obtain ⟨t103, A50, H⟩ := Option.bind_eq_some_iff.mp H
  try dsimp only at H
  have A5 := Aside0.mk A50
  clear A50
  obtain ⟨t104, A60, H⟩ := Option.bind_eq_some_iff.mp H
  try dsimp only at H
  have A6 := Aside0.mk A60
  clear A60
  have HC7 := Aside0.mk H
  clear H
  go_enter Tryz.func3, Tryz.ntmps3
  go_upto_region 6 with (first | ((with_reducible refine gate_callee (f := 4) rfl ?_); refine goesL_ (some 17) rfl rfl Tryz.func4 (by kernel_rfl) rfl #[.slice A0 l0.length c0] rfl (by (try simp only [List.map_toArray, List.map_cons, List.map_nil]); first | done | rfl | (simp only [ne_nil_isEmpty]; rfl) | (simp only [List.length_drop, List.length_take]; rfl)) ?_; (with_reducible refine (laws_big.calls _ _ l0 false _ ?side1 ?side2 A2.out).mono ?_); (case side1 => repeat (first | exact HR0.out | (with_reducible refine Kd.C_alloc ?_ _) | (with_reducible refine Kd.C_drewN ?_ _) | (with_reducible refine Kd.C_drew ?_))); (case side2 => exact HC0.out); rintro e w' ⟨rfl, ⟨nd, rfl⟩⟩; refine ⟨_, rfl, ?_⟩) | ((with_reducible refine gate_callee (f := 5) rfl ?_); refine goesL_ (some 19) rfl rfl Tryz.func5 (by kernel_rfl) rfl #[.slice A0 l0.length c0] rfl (by (try simp only [List.map_toArray, List.map_cons, List.map_nil]); first | done | rfl | (simp only [ne_nil_isEmpty]; rfl) | (simp only [List.length_drop, List.length_take]; rfl)) ?_; (with_reducible refine (spec_DrawQuoted.calls k _ _ l0 t102 _ ?side1 ?side2 A4.out).mono ?_); (case side1 => repeat (first | exact HR0.out | (with_reducible refine Kd.C_alloc ?_ _) | (with_reducible refine Kd.C_drewN ?_ _) | (with_reducible refine Kd.C_drew ?_))); (case side2 => exact HC0.out); rintro e w8 ⟨rfl, hb⟩; refine ⟨_, rfl, ?_⟩; replace HB := Aside0.mk (below_step bh hb); (try clear hb); (try clear hb2); (try clear hk); (try clear hi)) | ((with_reducible refine gate_callee (f := 6) rfl ?_); refine goesL_ (some 21) rfl rfl Tryz.func6 (by kernel_rfl) rfl #[.string t102] rfl (by (try simp only [List.map_toArray, List.map_cons, List.map_nil]); first | done | rfl | (simp only [ne_nil_isEmpty]; rfl) | (simp only [List.length_drop, List.length_take]; rfl)) ?_; (with_reducible refine (impl_Quoted.calls t102 t103 _ A5.out).mono ?_); rintro e w9 ⟨rfl, hb⟩; refine ⟨_, rfl, ?_⟩; replace HB := Aside0.mk (below_step bh hb); (try clear hb); (try clear hb2); (try clear hk); (try clear hi)) | ((with_reducible refine gate_callee (f := 7) rfl ?_); refine goesL_ (some 23) rfl rfl Tryz.func7 (by kernel_rfl) rfl #[.slice A0 l0.length c0] rfl (by (try simp only [List.map_toArray, List.map_cons, List.map_nil]); first | done | rfl | (simp only [ne_nil_isEmpty]; rfl) | (simp only [List.length_drop, List.length_take]; rfl)) ?_; (with_reducible refine (spec_DrawTokenOk.calls k _ _ l0 t104 _ ?side1 ?side2 A6.out).mono ?_); (case side1 => repeat (first | exact (Kd.C_below HR0.out HB.out) | (with_reducible refine Kd.C_alloc ?_ _) | (with_reducible refine Kd.C_drewN ?_ _) | (with_reducible refine Kd.C_drew ?_))); (case side2 => exact HC0.out); rintro e w10 ⟨rfl, hb⟩; refine ⟨_, rfl, ?_⟩; replace HB := Aside0.mk (below_step bh hb); (try clear hb); (try clear hb2); (try clear hk); (try clear hi)))
  (try simp only [Act.put, List.setIfInBounds_toArray, List.set_cons_zero, List.set_cons_succ])
  go_cut [48] (fun v48 wc => ∃ (kq : Nat) (x48_6 : Bool), v48 = .bool x48_6 ∧ Aside0 (laws_FnTexts.j0 kq l0 t102 t103 x48_6 = some r) ∧ Aside0 (kq ≤ k) ∧ Aside0 (Below w.heap.size w wc))
  case first =>
   have H := HC7.out
   clear HC7
   obtain ⟨t105, A110, H⟩ := Option.bind_eq_some_iff.mp H
   try dsimp only at H
   have A11 := Aside0.mk A110
   clear A110
   by_cases c12 : t103.toList = t105.toList
   ·
    rw [if_pos c12] at H
    have c12b0 : (t103.toList == t105.toList) = true := beq_iff_eq.mpr c12
    have c12b1 : (t103.toList != t105.toList) = false := bne_eq_false_iff_eq.mpr c12
    clear c12
    (first | rw [c12b0] | (simp only [i64_w, i32_w]; rw [c12b0]) | skip)
    obtain ⟨t106, A130, H⟩ := Option.bind_eq_some_iff.mp H
    try dsimp only at H
    have A13 := Aside0.mk A130
    clear A130
    obtain ⟨t107, A140, H⟩ := Option.bind_eq_some_iff.mp H
    try dsimp only at H
    have A14 := Aside0.mk A140
    clear A140
    by_cases c15 : (t106 != t107) = true
    ·
     rw [if_pos c15] at H
     have c15b0 : (t106 != t107) = true := c15
     (try (have c15b1 : decide (t106 = t107) = false := by simpa using c15))
     (try (have c15b2 : (t106 == t107) = false := by simpa using c15))
     (try (have c15b3 : ¬ (t106 = t107) := by simpa using c15))
     clear c15
     have H' := Aside0.mk H
     clear H
     go_wp2_with (first | ((with_reducible refine gate_callee (f := 8) rfl ?_); refine goesL_ (some 26) rfl rfl Tryz.func8 (by kernel_rfl) rfl #[.string t102] rfl (by (try simp only [List.map_toArray, List.map_cons, List.map_nil]); first | done | rfl | (simp only [ne_nil_isEmpty]; rfl) | (simp only [List.length_drop, List.length_take]; rfl)) ?_; (with_reducible refine (spec_Quoted.calls k t102 t105 _ A11.out).mono ?_); rintro e w16 ⟨rfl, hb⟩; refine ⟨_, rfl, ?_⟩; replace HB := Aside0.mk (below_step bh hb); (try clear hb); (try clear hb2); (try clear hk); (try clear hi)) | (go_at_call 9; (with_reducible refine (impl_VisibleOk.calls t102 t106 _ A13.out).mono ?_); rintro e w17 ⟨rfl, hb⟩; replace HB := Aside0.mk (below_step bh hb); (try clear hb); (try clear hb2); (try clear hk); (try clear hi)) | (go_at_call 10; (with_reducible refine (spec_VisibleOk.calls k t102 t107 _ A14.out).mono ?_); rintro e w' ⟨rfl, ⟨nd, rfl⟩⟩))
     go_meet
     case rel => exact ⟨_, (true), (by first | rfl | (simp; done) | (simp [*]; done)), H', ⟨by first | omega | exact Nat.le_refl _⟩, ⟨bh⟩⟩
    ·
     rw [if_neg c15] at H
     have c15b0 : (t106 != t107) = false := by simpa using c15
     (try (have c15b1 : decide (t106 = t107) = true := by simpa using c15))
     (try (have c15b2 : (t106 == t107) = true := by simpa using c15))
     clear c15
     obtain ⟨t108, A180, H⟩ := Option.bind_eq_some_iff.mp H
     try dsimp only at H
     have A18 := Aside0.mk A180
     clear A180
     obtain ⟨t109, A190, H⟩ := Option.bind_eq_some_iff.mp H
     try dsimp only at H
     have A19 := Aside0.mk A190
     clear A190
     by_cases c20 : (t108 != t109) = true
     ·
      rw [if_pos c20] at H
      have c20b0 : (t108 != t109) = true := c20
      (try (have c20b1 : decide (t108 = t109) = false := by simpa using c20))
      (try (have c20b2 : (t108 == t109) = false := by simpa using c20))
      (try (have c20b3 : ¬ (t108 = t109) := by simpa using c20))
      clear c20
      have H' := Aside0.mk H
      clear H
      go_wp2_with (first | ((with_reducible refine gate_callee (f := 8) rfl ?_); refine goesL_ (some 26) rfl rfl Tryz.func8 (by kernel_rfl) rfl #[.string t102] rfl (by (try simp only [List.map_toArray, List.map_cons, List.map_nil]); first | done | rfl | (simp only [ne_nil_isEmpty]; rfl) | (simp only [List.length_drop, List.length_take]; rfl)) ?_; (with_reducible refine (spec_Quoted.calls k t102 t105 _ A11.out).mono ?_); rintro e w21 ⟨rfl, hb⟩; refine ⟨_, rfl, ?_⟩; replace HB := Aside0.mk (below_step bh hb); (try clear hb); (try clear hb2); (try clear hk); (try clear hi)) | (go_at_call 9; (with_reducible refine (impl_VisibleOk.calls t102 t106 _ A13.out).mono ?_); rintro e w22 ⟨rfl, hb⟩; replace HB := Aside0.mk (below_step bh hb); (try clear hb); (try clear hb2); (try clear hk); (try clear hi)) | (go_at_call 10; (with_reducible refine (spec_VisibleOk.calls k t102 t107 _ A14.out).mono ?_); rintro e w' ⟨rfl, ⟨nd, rfl⟩⟩) | (go_at_call 11; (with_reducible refine (impl_TokenOk.calls t104 t108 _ A18.out).mono ?_); rintro e w23 ⟨rfl, hb⟩; replace HB := Aside0.mk (below_step bh hb); (try clear hb); (try clear hb2); (try clear hk); (try clear hi)) | (go_at_call 12; (with_reducible refine (spec_TokenOk.calls k t104 t109 _ A19.out).mono ?_); rintro e w24 ⟨rfl, hb⟩; replace HB := Aside0.mk (below_step bh hb); (try clear hb); (try clear hb2); (try clear hk); (try clear hi)))
      go_meet
      case rel => exact ⟨_, (true), (by first | rfl | (simp; done) | (simp [*]; done)), H', ⟨by first | omega | exact Nat.le_refl _⟩, ⟨bh⟩⟩
     ·
      rw [if_neg c20] at H
      have c20b0 : (t108 != t109) = false := by simpa using c20
      (try (have c20b1 : decide (t108 = t109) = true := by simpa using c20))
      (try (have c20b2 : (t108 == t109) = true := by simpa using c20))
      clear c20
      replace H := Option.bind_eq_some_iff.mp H
      obtain ⟨t110, A250, H⟩ := H
      rw [← Option.some.inj (A13.out.symm.trans A250)] at H
      clear A250 t110
      try dsimp only at H
      have H' := Aside0.mk H
      clear H
      go_wp2_with (first | ((with_reducible refine gate_callee (f := 8) rfl ?_); refine goesL_ (some 26) rfl rfl Tryz.func8 (by kernel_rfl) rfl #[.string t102] rfl (by (try simp only [List.map_toArray, List.map_cons, List.map_nil]); first | done | rfl | (simp only [ne_nil_isEmpty]; rfl) | (simp only [List.length_drop, List.length_take]; rfl)) ?_; (with_reducible refine (spec_Quoted.calls k t102 t105 _ A11.out).mono ?_); rintro e w26 ⟨rfl, hb⟩; refine ⟨_, rfl, ?_⟩; replace HB := Aside0.mk (below_step bh hb); (try clear hb); (try clear hb2); (try clear hk); (try clear hi)) | (go_at_call 9; (with_reducible refine (impl_VisibleOk.calls t102 t106 _ A13.out).mono ?_); rintro e w27 ⟨rfl, hb⟩; replace HB := Aside0.mk (below_step bh hb); (try clear hb); (try clear hb2); (try clear hk); (try clear hi)) | (go_at_call 10; (with_reducible refine (spec_VisibleOk.calls k t102 t107 _ A14.out).mono ?_); rintro e w' ⟨rfl, ⟨nd, rfl⟩⟩) | (go_at_call 11; (with_reducible refine (impl_TokenOk.calls t104 t108 _ A18.out).mono ?_); rintro e w28 ⟨rfl, hb⟩; replace HB := Aside0.mk (below_step bh hb); (try clear hb); (try clear hb2); (try clear hk); (try clear hi)) | (go_at_call 12; (with_reducible refine (spec_TokenOk.calls k t104 t109 _ A19.out).mono ?_); rintro e w29 ⟨rfl, hb⟩; replace HB := Aside0.mk (below_step bh hb); (try clear hb); (try clear hb2); (try clear hk); (try clear hi)) | (go_at_call 9; (with_reducible refine (impl_VisibleOk.calls t102 t106 _ A13.out).mono ?_); rintro e w30 ⟨rfl, hb⟩; replace HB := Aside0.mk (below_step bh hb); (try clear hb); (try clear hb2); (try clear hk); (try clear hi)))
      go_meet
      case rel => exact ⟨_, (((t103.toList != ([] : List UInt8)) != t106)), (by first | rfl | (simp; done) | (simp [*]; done) | (rw [ne_nil_isEmpty]; simp [bne]; done)), H', ⟨by first | omega | exact Nat.le_refl _⟩, ⟨bh⟩⟩
   ·
    rw [if_neg c12] at H
    have c12b0 : (t103.toList == t105.toList) = false := beq_eq_false_iff_ne.mpr c12
    have c12b1 : (t103.toList != t105.toList) = true := bne_iff_ne.mpr c12
    (first | rw [c12b0] | (simp only [i64_w, i32_w]; rw [c12b0]) | skip)
    have H' := Aside0.mk H
    clear H
    go_wp2_with (first | ((with_reducible refine gate_callee (f := 8) rfl ?_); refine goesL_ (some 26) rfl rfl Tryz.func8 (by kernel_rfl) rfl #[.string t102] rfl (by (try simp only [List.map_toArray, List.map_cons, List.map_nil]); first | done | rfl | (simp only [ne_nil_isEmpty]; rfl) | (simp only [List.length_drop, List.length_take]; rfl)) ?_; (with_reducible refine (spec_Quoted.calls k t102 t105 _ A11.out).mono ?_); rintro e w31 ⟨rfl, hb⟩; refine ⟨_, rfl, ?_⟩; replace HB := Aside0.mk (below_step bh hb); (try clear hb); (try clear hb2); (try clear hk); (try clear hi)))
    go_meet
    case rel => exact ⟨_, (true), (by first | rfl | (simp; done) | (simp [*]; done)), H', ⟨by first | omega | exact Nat.le_refl _⟩, ⟨bh⟩⟩
  case rest =>
   clear HC7
   try clear c1
   try clear c2
   try clear p2
   try clear c3
   try clear c4
   try clear c5
   try clear c6
   try clear c7
   try clear c8
   try clear c12
   try clear c12b0
   try clear c12b1
   try clear c15
   try clear c15b0
   try clear c15b1
   try clear c15b2
   try clear c20
   try clear c20b0
   try clear c20b1
   try clear c20b2
   obtain ⟨kq, x48_6, rfl, HA, HJ6, HB⟩ := hcut
   cases kq with
   | zero => exact absurd HA.out (by simp [laws_FnTexts.j0])
   | succ kj6 =>
    have H := HA.out
    clear HA
    simp only [laws_FnTexts.j0] at H
    by_cases c32 : x48_6 = true
    ·
     subst c32
     have H1 : (some false) = some r := by rw [if_pos rfl] at H; exact H
     clear H
     have H := H1
     clear H1
     obtain rfl := Option.some.inj H
     go_wp2
     go_ret
     exact ⟨by first | rfl | (simp [ne_nil_isEmpty]; done) | (simp [errW_none, errW_some] <;> rfl) | (simp [*, errW_none, errW_some] <;> rfl), bh⟩
    ·
     replace c32 := Bool.eq_false_iff.mpr c32
     subst c32
     rw [if_neg (show ¬ (false = true) by decide)] at H
     have HC33 := Aside0.mk H
     clear H
     go_upto_region 8 with (fail)
     go_cut [55] (fun v55 wc => ∃ (kq : Nat) (x55_32 : Bool), v55 = .bool x55_32 ∧ Aside0 (laws_FnTexts.j1 kq l0 t102 t103 x55_32 = some r) ∧ Aside0 (kq ≤ kj6) ∧ Aside0 (Below w.heap.size w wc))
     case first =>
      have H := HC33.out
      clear HC33
      by_cases c34 : t103.toList = ([] : List UInt8)
      ·
       rw [if_pos c34] at H
       have c34b0 : (t103.toList == ([] : List UInt8)) = true := beq_iff_eq.mpr c34
       have c34b9 : t103.toList.isEmpty = true := by cases z_ : t103.toList with | nil => (rw [z_] at c34b0; first | rfl | cases c34b0) | cons _ _ => (rw [z_] at c34b0; first | rfl | cases c34b0)
       have c34b1 : (t103.toList != ([] : List UInt8)) = false := bne_eq_false_iff_eq.mpr c34
       clear c34
       (first | rw [c34b0] | rw [c34b9] | (simp only [i64_w, i32_w]; rw [c34b0]) | skip)
       have H' := Aside0.mk H
       clear H
       go_wp2
       go_meet
       case rel => exact ⟨_, (false), (by first | rfl | (simp; done) | (simp [*]; done)), H', ⟨by have := HJ6.out; first | omega | exact Nat.le_refl _⟩, ⟨bh⟩⟩
      ·
       rw [if_neg c34] at H
       have c34b0 : (t103.toList == ([] : List UInt8)) = false := beq_eq_false_iff_ne.mpr c34
       have c34b9 : t103.toList.isEmpty = false := by cases z_ : t103.toList with | nil => (rw [z_] at c34b0; first | rfl | cases c34b0) | cons _ _ => (rw [z_] at c34b0; first | rfl | cases c34b0)
       have c34b1 : (t103.toList != ([] : List UInt8)) = true := bne_iff_ne.mpr c34
       (first | rw [c34b0] | rw [c34b9] | (simp only [i64_w, i32_w]; rw [c34b0]) | skip)
       have H' := Aside0.mk H
       clear H
       go_wp2
       go_meet
       case rel => exact ⟨_, (decide ((t102.size : Int) < 400)), (by first | rfl | (simp; done) | (simp [*]; done)), H', ⟨by have := HJ6.out; first | omega | exact Nat.le_refl _⟩, ⟨bh⟩⟩
     case rest =>
      clear HC33
      try clear c1
      try clear c2
      try clear p2
      try clear c3
      try clear c4
      try clear c5
      try clear c6
      try clear c7
      try clear c8
      try clear c12
      try clear c12b0
      try clear c12b1
      try clear c15
      try clear c15b0
      try clear c15b1
      try clear c15b2
      try clear c20
      try clear c20b0
      try clear c20b1
      try clear c20b2
      try clear c32
      try clear c34
      try clear c34b0
      try clear c34b1
      try clear p2
      obtain ⟨kq, x55_32, rfl, HA, HJ32, HB⟩ := hcut
      cases kq with
      | zero => exact absurd HA.out (by simp [laws_FnTexts.j1])
      | succ kj32 =>
       have H := HA.out
       clear HA
       simp only [laws_FnTexts.j1] at H
       have HC35 := Aside0.mk H
       clear H
       go_upto_if 55 with (fail)
       go_cut [] (fun wc => ∃ (kq : Nat), Aside0 (laws_FnTexts.j2 kq l0 = some r) ∧ Aside0 (kq ≤ kj32) ∧ Aside0 (Below w.heap.size w wc))
       case first =>
        have H := HC35.out
        clear HC35
        by_cases c36 : x55_32 = true
        ·
         subst c36
         rw [if_pos rfl] at H
         obtain ⟨⟨t111, t112⟩, A370, H⟩ := Option.bind_eq_some_iff.mp H
         try dsimp only at H
         have A37 := Aside0.mk A370
         clear A370
         by_cases c38 : t112 = true
         ·
          subst c38
          rw [if_pos rfl] at H
          by_cases c39 : t111.toList = t102.toList
          ·
           rw [if_pos c39] at H
           have c39b0 : (t111.toList == t102.toList) = true := beq_iff_eq.mpr c39
           have c39b1 : (t111.toList != t102.toList) = false := bne_eq_false_iff_eq.mpr c39
           clear c39
           (first | rw [c39b0] | (simp only [i64_w, i32_w]; rw [c39b0]) | skip)
           have H' := Aside0.mk H
           clear H
           go_wp2_with (first | ((with_reducible refine gate_callee (f := 13) rfl ?_); refine goesL_ (some 58) rfl rfl Tryz.func13 (by kernel_rfl) rfl #[.string t103] rfl (by (try simp only [List.map_toArray, List.map_cons, List.map_nil]); first | done | rfl | (simp only [ne_nil_isEmpty]; rfl) | (simp only [List.length_drop, List.length_take]; rfl)) ?_; (with_reducible refine (impl_Unquoted.calls kj32 t103 t111 true _ A37.out).mono ?_); rintro e w40 ⟨rfl, hb⟩; refine ⟨_, rfl, ?_⟩; replace HB := Aside0.mk (below_step bh hb); (try clear hb); (try clear hb2); (try clear hk); (try clear hi)))
           go_meet
           case rel => exact ⟨_, H', ⟨by have := HJ6.out; have := HJ32.out; first | omega | exact Nat.le_refl _⟩, ⟨bh⟩⟩
          ·
           rw [if_neg c39] at H
           have c39b0 : (t111.toList == t102.toList) = false := beq_eq_false_iff_ne.mpr c39
           have c39b1 : (t111.toList != t102.toList) = true := bne_iff_ne.mpr c39
           (first | rw [c39b0] | (simp only [i64_w, i32_w]; rw [c39b0]) | skip)
           obtain rfl := Option.some.inj H
           go_wp2_with (first | ((with_reducible refine gate_callee (f := 13) rfl ?_); refine goesL_ (some 58) rfl rfl Tryz.func13 (by kernel_rfl) rfl #[.string t103] rfl (by (try simp only [List.map_toArray, List.map_cons, List.map_nil]); first | done | rfl | (simp only [ne_nil_isEmpty]; rfl) | (simp only [List.length_drop, List.length_take]; rfl)) ?_; (with_reducible refine (impl_Unquoted.calls kj32 t103 t111 true _ A37.out).mono ?_); rintro e w41 ⟨rfl, hb⟩; refine ⟨_, rfl, ?_⟩; replace HB := Aside0.mk (below_step bh hb); (try clear hb); (try clear hb2); (try clear hk); (try clear hi)))
           go_ret
           exact ⟨by first | rfl | (simp [ne_nil_isEmpty]; done) | (simp [errW_none, errW_some] <;> rfl) | (simp [*, errW_none, errW_some] <;> rfl), bh⟩
         ·
          replace c38 := Bool.eq_false_iff.mpr c38
          subst c38
          have H1 : (some false) = some r := by rw [if_neg (show ¬ (false = true) by decide)] at H; exact H
          clear H
          have H := H1
          clear H1
          obtain rfl := Option.some.inj H
          go_wp2_with (first | ((with_reducible refine gate_callee (f := 13) rfl ?_); refine goesL_ (some 58) rfl rfl Tryz.func13 (by kernel_rfl) rfl #[.string t103] rfl (by (try simp only [List.map_toArray, List.map_cons, List.map_nil]); first | done | rfl | (simp only [ne_nil_isEmpty]; rfl) | (simp only [List.length_drop, List.length_take]; rfl)) ?_; (with_reducible refine (impl_Unquoted.calls kj32 t103 t111 false _ A37.out).mono ?_); rintro e w42 ⟨rfl, hb⟩; refine ⟨_, rfl, ?_⟩; replace HB := Aside0.mk (below_step bh hb); (try clear hb); (try clear hb2); (try clear hk); (try clear hi)))
          go_ret
          exact ⟨by first | rfl | (simp [ne_nil_isEmpty]; done) | (simp [errW_none, errW_some] <;> rfl) | (simp [*, errW_none, errW_some] <;> rfl), bh⟩
        ·
         replace c36 := Bool.eq_false_iff.mpr c36
         subst c36
         have H1 : (laws_FnTexts.j2 kj32 l0) = some r := by rw [if_neg (show ¬ (false = true) by decide)] at H; exact H
         clear H
         have H := H1
         clear H1
         have H' := Aside0.mk H
         clear H
         go_wp2
         go_meet
         case rel => exact ⟨_, H', ⟨by have := HJ6.out; have := HJ32.out; first | omega | exact Nat.le_refl _⟩, ⟨bh⟩⟩
       case rest =>
        clear HC35
        try clear c1
        try clear c2
        try clear p2
        try clear c3
        try clear c4
        try clear c5
        try clear c6
        try clear c7
        try clear c8
        try clear c12
        try clear c12b0
        try clear c12b1
        try clear c13
        try clear c15
        try clear c15b0
        try clear c15b1
        try clear c15b2
        try clear c20
        try clear c20b0
        try clear c20b1
        try clear c20b2
        try clear c32
        try clear c34
        try clear c34b0
        try clear c34b1
        try clear c36
        try clear c38
        try clear c39
        try clear c39b0
        try clear c39b1
        try clear p2
        obtain ⟨kq, HA, HJ34, HB⟩ := hcut
        cases kq with
        | zero => exact absurd HA.out (by simp [laws_FnTexts.j2])
        | succ kj34 =>
         have H := HA.out
         clear HA
         simp only [laws_FnTexts.j2] at H
         obtain ⟨t113, A430, H⟩ := Option.bind_eq_some_iff.mp H
         try dsimp only at H
         have A43 := Aside0.mk A430
         clear A430
         obtain ⟨⟨t114, t115⟩, A440, H⟩ := Option.bind_eq_some_iff.mp H
         try dsimp only at H
         have A44 := Aside0.mk A440
         clear A440
         obtain ⟨⟨t116, t117⟩, A450, H⟩ := Option.bind_eq_some_iff.mp H
         try dsimp only at H
         have A45 := Aside0.mk A450
         clear A450
         have HC46 := Aside0.mk H
         clear H
         go_upto_region 15 with (first | ((with_reducible refine gate_callee (f := 14) rfl ?_); refine goesL_ (some 69) rfl rfl Tryz.func14 (by kernel_rfl) rfl #[.slice A0 l0.length c0] rfl (by (try simp only [List.map_toArray, List.map_cons, List.map_nil]); first | done | rfl | (simp only [ne_nil_isEmpty]; rfl) | (simp only [List.length_drop, List.length_take]; rfl)) ?_; (with_reducible refine (spec_DrawUnquoted.calls kj34 _ _ l0 t113 _ ?side1 ?side2 A43.out).mono ?_); (case side1 => repeat (first | exact (Kd.C_below HR0.out HB.out) | (with_reducible refine Kd.C_alloc ?_ _) | (with_reducible refine Kd.C_drewN ?_ _) | (with_reducible refine Kd.C_drew ?_))); (case side2 => exact HC0.out); rintro e w47 ⟨rfl, hb⟩; refine ⟨_, rfl, ?_⟩; replace HB := Aside0.mk (below_step bh hb); (try clear hb); (try clear hb2); (try clear hk); (try clear hi)) | ((with_reducible refine gate_callee (f := 13) rfl ?_); refine goesL_ (some 72) rfl rfl Tryz.func13 (by kernel_rfl) rfl #[.string t113] rfl (by (try simp only [List.map_toArray, List.map_cons, List.map_nil]); first | done | rfl | (simp only [ne_nil_isEmpty]; rfl) | (simp only [List.length_drop, List.length_take]; rfl)) ?_; (with_reducible refine (impl_Unquoted.calls kj34 t113 t114 t115 _ A44.out).mono ?_); rintro e w48 ⟨rfl, hb⟩; refine ⟨_, rfl, ?_⟩; replace HB := Aside0.mk (below_step bh hb); (try clear hb); (try clear hb2); (try clear hk); (try clear hi)) | ((with_reducible refine gate_callee (f := 15) rfl ?_); refine goesL_ (some 77) rfl rfl Tryz.func15 (by kernel_rfl) rfl #[.string t113] rfl (by (try simp only [List.map_toArray, List.map_cons, List.map_nil]); first | done | rfl | (simp only [ne_nil_isEmpty]; rfl) | (simp only [List.length_drop, List.length_take]; rfl)) ?_; (with_reducible refine (spec_Unquoted.calls kj34 t113 t116 t117 _ A45.out).mono ?_); rintro e w49 ⟨rfl, hb⟩; refine ⟨_, rfl, ?_⟩; replace HB := Aside0.mk (below_step bh hb); (try clear hb); (try clear hb2); (try clear hk); (try clear hi)))
         (try simp only [Act.put, List.setIfInBounds_toArray, List.set_cons_zero, List.set_cons_succ])
         go_cut [96] (fun v96 wc => ∃ (kq : Nat) (x96_45 : Bool), v96 = .bool x96_45 ∧ Aside0 (laws_FnTexts.j3 kq l0 t114 t115 x96_45 = some r) ∧ Aside0 (kq ≤ kj34) ∧ Aside0 (Below w.heap.size w wc))
         case first =>
          have H := HC46.out
          clear HC46
          by_cases c50 : (t115 != t117) = true
          ·
           rw [if_pos c50] at H
           have c50b0 : (t115 != t117) = true := c50
           (try (have c50b1 : decide (t115 = t117) = false := by simpa using c50))
           (try (have c50b2 : (t115 == t117) = false := by simpa using c50))
           (try (have c50b3 : ¬ (t115 = t117) := by simpa using c50))
           clear c50
           (first | rw [c50b0] | (simp only [i64_w, i32_w]; rw [c50b0]) | skip)
           have H' := Aside0.mk H
           clear H
           go_wp2
           go_meet
           case rel => exact ⟨_, (true), (by first | rfl | (simp; done) | (simp [*]; done)), H', ⟨by have := HJ6.out; have := HJ32.out; have := HJ34.out; first | omega | exact Nat.le_refl _⟩, ⟨bh⟩⟩
          ·
           rw [if_neg c50] at H
           have c50b0 : (t115 != t117) = false := by simpa using c50
           (try (have c50b1 : decide (t115 = t117) = true := by simpa using c50))
           (try (have c50b2 : (t115 == t117) = true := by simpa using c50))
           clear c50
           (first | rw [c50b0] | (simp only [i64_w, i32_w]; rw [c50b0]) | skip)
           by_cases c51 : t114.toList = t116.toList
           ·
            rw [if_pos c51] at H
            have c51b0 : (t114.toList == t116.toList) = true := beq_iff_eq.mpr c51
            have c51b1 : (t114.toList != t116.toList) = false := bne_eq_false_iff_eq.mpr c51
            clear c51
            by_cases c52 : t115 = true
            ·
             subst c52
             rw [if_pos rfl] at H
             obtain ⟨t118, A530, H⟩ := Option.bind_eq_some_iff.mp H
             try dsimp only at H
             have A53 := Aside0.mk A530
             clear A530
             have H' := Aside0.mk H
             clear H
             go_wp2_with (first | (go_at_call 6; (with_reducible refine (impl_Quoted.calls t114 t118 _ A53.out).mono ?_); rintro e w54 ⟨rfl, hb⟩; replace HB := Aside0.mk (below_step bh hb); (try clear hb); (try clear hb2); (try clear hk); (try clear hi)))
             go_meet
             case rel => exact ⟨_, ((t118.toList != t113.toList)), (by first | rfl | (simp; done) | (simp [*]; done)), H', ⟨by have := HJ6.out; have := HJ32.out; have := HJ34.out; first | omega | exact Nat.le_refl _⟩, ⟨bh⟩⟩
            ·
             replace c52 := Bool.eq_false_iff.mpr c52
             subst c52
             have H1 : (laws_FnTexts.j3 kj34 l0 t114 false false) = some r := by rw [if_neg (show ¬ (false = true) by decide)] at H; exact H
             clear H
             have H := H1
             clear H1
             have H' := Aside0.mk H
             clear H
             go_wp2
             go_meet
             case rel => exact ⟨_, (false), (by first | rfl | (simp; done) | (simp [*]; done)), H', ⟨by have := HJ6.out; have := HJ32.out; have := HJ34.out; first | omega | exact Nat.le_refl _⟩, ⟨bh⟩⟩
           ·
            rw [if_neg c51] at H
            have c51b0 : (t114.toList == t116.toList) = false := beq_eq_false_iff_ne.mpr c51
            have c51b1 : (t114.toList != t116.toList) = true := bne_iff_ne.mpr c51
            have H' := Aside0.mk H
            clear H
            go_wp2
            go_meet
            case rel => exact ⟨_, (true), (by first | rfl | (simp; done) | (simp [*]; done)), H', ⟨by have := HJ6.out; have := HJ32.out; have := HJ34.out; first | omega | exact Nat.le_refl _⟩, ⟨bh⟩⟩
         case rest =>
          clear HC46
          try clear c1
          try clear c2
          try clear p2
          try clear c3
          try clear c4
          try clear c5
          try clear c6
          try clear c7
          try clear c8
          try clear c12
          try clear c12b0
          try clear c12b1
          try clear c13
          try clear c14
          try clear c15
          try clear c15b0
          try clear c15b1
          try clear c15b2
          try clear c20
          try clear c20b0
          try clear c20b1
          try clear c20b2
          try clear c32
          try clear c34
          try clear c34b0
          try clear c34b1
          try clear c36
          try clear c38
          try clear c39
          try clear c39b0
          try clear c39b1
          try clear c50
          try clear c50b0
          try clear c50b1
          try clear c50b2
          try clear c51
          try clear c51b0
          try clear c51b1
          try clear c52
          try clear p2
          obtain ⟨kq, x96_45, rfl, HA, HJ45, HB⟩ := hcut
          cases kq with
          | zero => exact absurd HA.out (by simp [laws_FnTexts.j3])
          | succ kj45 =>
           have H := HA.out
           clear HA
           simp only [laws_FnTexts.j3] at H
           by_cases c55 : x96_45 = true
           ·
            subst c55
            have H1 : (some false) = some r := by rw [if_pos rfl] at H; exact H
            clear H
            have H := H1
            clear H1
            obtain rfl := Option.some.inj H
            go_wp2
            go_ret
            exact ⟨by first | rfl | (simp [ne_nil_isEmpty]; done) | (simp [errW_none, errW_some] <;> rfl) | (simp [*, errW_none, errW_some] <;> rfl), bh⟩
           ·
            replace c55 := Bool.eq_false_iff.mpr c55
            subst c55
            rw [if_neg (show ¬ (false = true) by decide)] at H
            obtain ⟨t119, A560, H⟩ := Option.bind_eq_some_iff.mp H
            try dsimp only at H
            have A56 := Aside0.mk A560
            clear A560
            obtain ⟨t120, A570, H⟩ := Option.bind_eq_some_iff.mp H
            try dsimp only at H
            have A57 := Aside0.mk A570
            clear A570
            obtain ⟨t121, A580, H⟩ := Option.bind_eq_some_iff.mp H
            try dsimp only at H
            have A58 := Aside0.mk A580
            clear A580
            obtain ⟨t122, A590, H⟩ := Option.bind_eq_some_iff.mp H
            try dsimp only at H
            have A59 := Aside0.mk A590
            clear A590
            by_cases c60 : t120.toList = t122.toList
            ·
             rw [if_pos c60] at H
             have c60b0 : (t120.toList == t122.toList) = true := beq_iff_eq.mpr c60
             have c60b1 : (t120.toList != t122.toList) = false := bne_eq_false_iff_eq.mpr c60
             clear c60
             obtain ⟨t123, A610, H⟩ := Option.bind_eq_some_iff.mp H
             try dsimp only at H
             have A61 := Aside0.mk A610
             clear A610
             by_cases c62 : t123.toList = t120.toList
             ·
              rw [if_pos c62] at H
              have c62b0 : (t123.toList == t120.toList) = true := beq_iff_eq.mpr c62
              have c62b1 : (t123.toList != t120.toList) = false := bne_eq_false_iff_eq.mpr c62
              clear c62
              obtain ⟨t124, A630, H⟩ := Option.bind_eq_some_iff.mp H
              try dsimp only at H
              have A63 := Aside0.mk A630
              clear A630
              obtain ⟨t125, A640, H⟩ := Option.bind_eq_some_iff.mp H
              try dsimp only at H
              have A64 := Aside0.mk A640
              clear A640
              by_cases c65 : t124.toList = t125.toList
              ·
               rw [if_pos c65] at H
               have c65b0 : (t124.toList == t125.toList) = true := beq_iff_eq.mpr c65
               have c65b1 : (t124.toList != t125.toList) = false := bne_eq_false_iff_eq.mpr c65
               clear c65
               replace H := Option.bind_eq_some_iff.mp H
               obtain ⟨t126, A660, H⟩ := H
               rw [← Option.some.inj (A63.out.symm.trans A660)] at H
               clear A660 t126
               try dsimp only at H
               obtain ⟨t127, A670, H⟩ := Option.bind_eq_some_iff.mp H
               try dsimp only at H
               have A67 := Aside0.mk A670
               clear A670
               replace H := Option.bind_eq_some_iff.mp H
               obtain ⟨t128, A680, H⟩ := H
               rw [← Option.some.inj (A63.out.symm.trans A680)] at H
               clear A680 t128
               try dsimp only at H
               by_cases c69 : t127.toList = t124.toList
               ·
                rw [if_pos c69] at H
                have c69b0 : (t127.toList == t124.toList) = true := beq_iff_eq.mpr c69
                have c69b1 : (t127.toList != t124.toList) = false := bne_eq_false_iff_eq.mpr c69
                clear c69
                by_cases c70 : t115 = true
                ·
                 subst c70
                 have H1 : (some true) = some r := by rw [if_pos rfl] at H; exact H
                 clear H
                 have H := H1
                 clear H1
                 obtain rfl := Option.some.inj H
                 go_wp2_with (first | ((with_reducible refine gate_callee (f := 16) rfl ?_); refine goesL_ (some 98) rfl rfl Tryz.func16 (by kernel_rfl) rfl #[.slice A0 l0.length c0] rfl (by (try simp only [List.map_toArray, List.map_cons, List.map_nil]); first | done | rfl | (simp only [ne_nil_isEmpty]; rfl) | (simp only [List.length_drop, List.length_take]; rfl)) ?_; (with_reducible refine (spec_DrawTrimmed.calls kj45 _ _ l0 t119 _ ?side1 ?side2 A56.out).mono ?_); (case side1 => repeat (first | exact (Kd.C_below HR0.out HB.out) | (with_reducible refine Kd.C_alloc ?_ _) | (with_reducible refine Kd.C_drewN ?_ _) | (with_reducible refine Kd.C_drew ?_))); (case side2 => exact HC0.out); rintro e w71 ⟨rfl, hb⟩; refine ⟨_, rfl, ?_⟩; replace HB := Aside0.mk (below_step bh hb); (try clear hb); (try clear hb2); (try clear hk); (try clear hi)) | ((with_reducible refine gate_callee (f := 17) rfl ?_); refine goesL_ (some 100) rfl rfl Tryz.func17 (by kernel_rfl) rfl #[.string t119] rfl (by (try simp only [List.map_toArray, List.map_cons, List.map_nil]); first | done | rfl | (simp only [ne_nil_isEmpty]; rfl) | (simp only [List.length_drop, List.length_take]; rfl)) ?_; (with_reducible refine (impl_Trimmed.calls t119 t120 _ A57.out).mono ?_); rintro e w72 ⟨rfl, hb⟩; refine ⟨_, rfl, ?_⟩; replace HB := Aside0.mk (below_step bh hb); (try clear hb); (try clear hb2); (try clear hk); (try clear hi)) | ((with_reducible refine gate_callee (f := 18) rfl ?_); refine goesL_ (some 102) rfl rfl Tryz.func18 (by kernel_rfl) rfl #[.slice A0 l0.length c0] rfl (by (try simp only [List.map_toArray, List.map_cons, List.map_nil]); first | done | rfl | (simp only [ne_nil_isEmpty]; rfl) | (simp only [List.length_drop, List.length_take]; rfl)) ?_; (with_reducible refine (spec_DrawLower.calls kj45 _ _ l0 t121 _ ?side1 ?side2 A58.out).mono ?_); (case side1 => repeat (first | exact (Kd.C_below HR0.out HB.out) | (with_reducible refine Kd.C_alloc ?_ _) | (with_reducible refine Kd.C_drewN ?_ _) | (with_reducible refine Kd.C_drew ?_))); (case side2 => exact HC0.out); rintro e w73 ⟨rfl, hb⟩; refine ⟨_, rfl, ?_⟩; replace HB := Aside0.mk (below_step bh hb); (try clear hb); (try clear hb2); (try clear hk); (try clear hi)) | ((with_reducible refine gate_callee (f := 19) rfl ?_); refine goesL_ (some 105) rfl rfl Tryz.func19 (by kernel_rfl) rfl #[.string t119] rfl (by (try simp only [List.map_toArray, List.map_cons, List.map_nil]); first | done | rfl | (simp only [ne_nil_isEmpty]; rfl) | (simp only [List.length_drop, List.length_take]; rfl)) ?_; (with_reducible refine (spec_Trimmed.calls kj45 t119 t122 _ A59.out).mono ?_); rintro e w' ⟨rfl, ⟨nd, rfl⟩⟩; refine ⟨_, rfl, ?_⟩) | (go_at_call 17; (with_reducible refine (impl_Trimmed.calls t120 t123 _ A61.out).mono ?_); rintro e w74 ⟨rfl, hb⟩; replace HB := Aside0.mk (below_step bh hb); (try clear hb); (try clear hb2); (try clear hk); (try clear hi)) | (go_at_call 20; (with_reducible refine (impl_Lower.calls t121 t124 _ A63.out).mono ?_); rintro e w75 ⟨rfl, hb⟩; replace HB := Aside0.mk (below_step bh hb); (try clear hb); (try clear hb2); (try clear hk); (try clear hi)) | (go_at_call 21; (with_reducible refine (spec_Lower.calls t121 t125 _ A64.out).mono ?_); rintro e w76 ⟨rfl, hb⟩; replace HB := Aside0.mk (below_step bh hb); (try clear hb); (try clear hb2); (try clear hk); (try clear hi)) | (go_at_call 20; (with_reducible refine (impl_Lower.calls t121 t124 _ A63.out).mono ?_); rintro e w77 ⟨rfl, hb⟩; replace HB := Aside0.mk (below_step bh hb); (try clear hb); (try clear hb2); (try clear hk); (try clear hi)) | (go_at_call 20; (with_reducible refine (impl_Lower.calls t124 t127 _ A67.out).mono ?_); rintro e w78 ⟨rfl, hb⟩; replace HB := Aside0.mk (below_step bh hb); (try clear hb); (try clear hb2); (try clear hk); (try clear hi)) | (go_at_call 20; (with_reducible refine (impl_Lower.calls t121 t124 _ A63.out).mono ?_); rintro e w79 ⟨rfl, hb⟩; replace HB := Aside0.mk (below_step bh hb); (try clear hb); (try clear hb2); (try clear hk); (try clear hi)))
                 go_ret
                 exact ⟨by first | rfl | (simp [ne_nil_isEmpty]; done) | (simp [errW_none, errW_some] <;> rfl) | (simp [*, errW_none, errW_some] <;> rfl), bh⟩
                ·
                 replace c70 := Bool.eq_false_iff.mpr c70
                 subst c70
                 have H1 : (some (t114.toList == ([] : List UInt8))) = some r := by rw [if_neg (show ¬ (false = true) by decide)] at H; exact H
                 clear H
                 have H := H1
                 clear H1
                 obtain rfl := Option.some.inj H
                 go_wp2_with (first | ((with_reducible refine gate_callee (f := 16) rfl ?_); refine goesL_ (some 98) rfl rfl Tryz.func16 (by kernel_rfl) rfl #[.slice A0 l0.length c0] rfl (by (try simp only [List.map_toArray, List.map_cons, List.map_nil]); first | done | rfl | (simp only [ne_nil_isEmpty]; rfl) | (simp only [List.length_drop, List.length_take]; rfl)) ?_; (with_reducible refine (spec_DrawTrimmed.calls kj45 _ _ l0 t119 _ ?side1 ?side2 A56.out).mono ?_); (case side1 => repeat (first | exact (Kd.C_below HR0.out HB.out) | (with_reducible refine Kd.C_alloc ?_ _) | (with_reducible refine Kd.C_drewN ?_ _) | (with_reducible refine Kd.C_drew ?_))); (case side2 => exact HC0.out); rintro e w80 ⟨rfl, hb⟩; refine ⟨_, rfl, ?_⟩; replace HB := Aside0.mk (below_step bh hb); (try clear hb); (try clear hb2); (try clear hk); (try clear hi)) | ((with_reducible refine gate_callee (f := 17) rfl ?_); refine goesL_ (some 100) rfl rfl Tryz.func17 (by kernel_rfl) rfl #[.string t119] rfl (by (try simp only [List.map_toArray, List.map_cons, List.map_nil]); first | done | rfl | (simp only [ne_nil_isEmpty]; rfl) | (simp only [List.length_drop, List.length_take]; rfl)) ?_; (with_reducible refine (impl_Trimmed.calls t119 t120 _ A57.out).mono ?_); rintro e w81 ⟨rfl, hb⟩; refine ⟨_, rfl, ?_⟩; replace HB := Aside0.mk (below_step bh hb); (try clear hb); (try clear hb2); (try clear hk); (try clear hi)) | ((with_reducible refine gate_callee (f := 18) rfl ?_); refine goesL_ (some 102) rfl rfl Tryz.func18 (by kernel_rfl) rfl #[.slice A0 l0.length c0] rfl (by (try simp only [List.map_toArray, List.map_cons, List.map_nil]); first | done | rfl | (simp only [ne_nil_isEmpty]; rfl) | (simp only [List.length_drop, List.length_take]; rfl)) ?_; (with_reducible refine (spec_DrawLower.calls kj45 _ _ l0 t121 _ ?side1 ?side2 A58.out).mono ?_); (case side1 => repeat (first | exact (Kd.C_below HR0.out HB.out) | (with_reducible refine Kd.C_alloc ?_ _) | (with_reducible refine Kd.C_drewN ?_ _) | (with_reducible refine Kd.C_drew ?_))); (case side2 => exact HC0.out); rintro e w82 ⟨rfl, hb⟩; refine ⟨_, rfl, ?_⟩; replace HB := Aside0.mk (below_step bh hb); (try clear hb); (try clear hb2); (try clear hk); (try clear hi)) | ((with_reducible refine gate_callee (f := 19) rfl ?_); refine goesL_ (some 105) rfl rfl Tryz.func19 (by kernel_rfl) rfl #[.string t119] rfl (by (try simp only [List.map_toArray, List.map_cons, List.map_nil]); first | done | rfl | (simp only [ne_nil_isEmpty]; rfl) | (simp only [List.length_drop, List.length_take]; rfl)) ?_; (with_reducible refine (spec_Trimmed.calls kj45 t119 t122 _ A59.out).mono ?_); rintro e w' ⟨rfl, ⟨nd, rfl⟩⟩; refine ⟨_, rfl, ?_⟩) | (go_at_call 17; (with_reducible refine (impl_Trimmed.calls t120 t123 _ A61.out).mono ?_); rintro e w83 ⟨rfl, hb⟩; replace HB := Aside0.mk (below_step bh hb); (try clear hb); (try clear hb2); (try clear hk); (try clear hi)) | (go_at_call 20; (with_reducible refine (impl_Lower.calls t121 t124 _ A63.out).mono ?_); rintro e w84 ⟨rfl, hb⟩; replace HB := Aside0.mk (below_step bh hb); (try clear hb); (try clear hb2); (try clear hk); (try clear hi)) | (go_at_call 21; (with_reducible refine (spec_Lower.calls t121 t125 _ A64.out).mono ?_); rintro e w85 ⟨rfl, hb⟩; replace HB := Aside0.mk (below_step bh hb); (try clear hb); (try clear hb2); (try clear hk); (try clear hi)) | (go_at_call 20; (with_reducible refine (impl_Lower.calls t121 t124 _ A63.out).mono ?_); rintro e w86 ⟨rfl, hb⟩; replace HB := Aside0.mk (below_step bh hb); (try clear hb); (try clear hb2); (try clear hk); (try clear hi)) | (go_at_call 20; (with_reducible refine (impl_Lower.calls t124 t127 _ A67.out).mono ?_); rintro e w87 ⟨rfl, hb⟩; replace HB := Aside0.mk (below_step bh hb); (try clear hb); (try clear hb2); (try clear hk); (try clear hi)) | (go_at_call 20; (with_reducible refine (impl_Lower.calls t121 t124 _ A63.out).mono ?_); rintro e w88 ⟨rfl, hb⟩; replace HB := Aside0.mk (below_step bh hb); (try clear hb); (try clear hb2); (try clear hk); (try clear hi)))
                 go_ret
                 exact ⟨by first | rfl | (simp [ne_nil_isEmpty]; done) | (simp [errW_none, errW_some] <;> rfl) | (simp [*, errW_none, errW_some] <;> rfl), bh⟩
               ·
                rw [if_neg c69] at H
                have c69b0 : (t127.toList == t124.toList) = false := beq_eq_false_iff_ne.mpr c69
                have c69b1 : (t127.toList != t124.toList) = true := bne_iff_ne.mpr c69
                obtain rfl := Option.some.inj H
                go_wp2_with (first | ((with_reducible refine gate_callee (f := 16) rfl ?_); refine goesL_ (some 98) rfl rfl Tryz.func16 (by kernel_rfl) rfl #[.slice A0 l0.length c0] rfl (by (try simp only [List.map_toArray, List.map_cons, List.map_nil]); first | done | rfl | (simp only [ne_nil_isEmpty]; rfl) | (simp only [List.length_drop, List.length_take]; rfl)) ?_; (with_reducible refine (spec_DrawTrimmed.calls kj45 _ _ l0 t119 _ ?side1 ?side2 A56.out).mono ?_); (case side1 => repeat (first | exact (Kd.C_below HR0.out HB.out) | (with_reducible refine Kd.C_alloc ?_ _) | (with_reducible refine Kd.C_drewN ?_ _) | (with_reducible refine Kd.C_drew ?_))); (case side2 => exact HC0.out); rintro e w89 ⟨rfl, hb⟩; refine ⟨_, rfl, ?_⟩; replace HB := Aside0.mk (below_step bh hb); (try clear hb); (try clear hb2); (try clear hk); (try clear hi)) | ((with_reducible refine gate_callee (f := 17) rfl ?_); refine goesL_ (some 100) rfl rfl Tryz.func17 (by kernel_rfl) rfl #[.string t119] rfl (by (try simp only [List.map_toArray, List.map_cons, List.map_nil]); first | done | rfl | (simp only [ne_nil_isEmpty]; rfl) | (simp only [List.length_drop, List.length_take]; rfl)) ?_; (with_reducible refine (impl_Trimmed.calls t119 t120 _ A57.out).mono ?_); rintro e w90 ⟨rfl, hb⟩; refine ⟨_, rfl, ?_⟩; replace HB := Aside0.mk (below_step bh hb); (try clear hb); (try clear hb2); (try clear hk); (try clear hi)) | ((with_reducible refine gate_callee (f := 18) rfl ?_); refine goesL_ (some 102) rfl rfl Tryz.func18 (by kernel_rfl) rfl #[.slice A0 l0.length c0] rfl (by (try simp only [List.map_toArray, List.map_cons, List.map_nil]); first | done | rfl | (simp only [ne_nil_isEmpty]; rfl) | (simp only [List.length_drop, List.length_take]; rfl)) ?_; (with_reducible refine (spec_DrawLower.calls kj45 _ _ l0 t121 _ ?side1 ?side2 A58.out).mono ?_); (case side1 => repeat (first | exact (Kd.C_below HR0.out HB.out) | (with_reducible refine Kd.C_alloc ?_ _) | (with_reducible refine Kd.C_drewN ?_ _) | (with_reducible refine Kd.C_drew ?_))); (case side2 => exact HC0.out); rintro e w91 ⟨rfl, hb⟩; refine ⟨_, rfl, ?_⟩; replace HB := Aside0.mk (below_step bh hb); (try clear hb); (try clear hb2); (try clear hk); (try clear hi)) | ((with_reducible refine gate_callee (f := 19) rfl ?_); refine goesL_ (some 105) rfl rfl Tryz.func19 (by kernel_rfl) rfl #[.string t119] rfl (by (try simp only [List.map_toArray, List.map_cons, List.map_nil]); first | done | rfl | (simp only [ne_nil_isEmpty]; rfl) | (simp only [List.length_drop, List.length_take]; rfl)) ?_; (with_reducible refine (spec_Trimmed.calls kj45 t119 t122 _ A59.out).mono ?_); rintro e w' ⟨rfl, ⟨nd, rfl⟩⟩; refine ⟨_, rfl, ?_⟩) | (go_at_call 17; (with_reducible refine (impl_Trimmed.calls t120 t123 _ A61.out).mono ?_); rintro e w92 ⟨rfl, hb⟩; replace HB := Aside0.mk (below_step bh hb); (try clear hb); (try clear hb2); (try clear hk); (try clear hi)) | (go_at_call 20; (with_reducible refine (impl_Lower.calls t121 t124 _ A63.out).mono ?_); rintro e w93 ⟨rfl, hb⟩; replace HB := Aside0.mk (below_step bh hb); (try clear hb); (try clear hb2); (try clear hk); (try clear hi)) | (go_at_call 21; (with_reducible refine (spec_Lower.calls t121 t125 _ A64.out).mono ?_); rintro e w94 ⟨rfl, hb⟩; replace HB := Aside0.mk (below_step bh hb); (try clear hb); (try clear hb2); (try clear hk); (try clear hi)) | (go_at_call 20; (with_reducible refine (impl_Lower.calls t121 t124 _ A63.out).mono ?_); rintro e w95 ⟨rfl, hb⟩; replace HB := Aside0.mk (below_step bh hb); (try clear hb); (try clear hb2); (try clear hk); (try clear hi)) | (go_at_call 20; (with_reducible refine (impl_Lower.calls t124 t127 _ A67.out).mono ?_); rintro e w96 ⟨rfl, hb⟩; replace HB := Aside0.mk (below_step bh hb); (try clear hb); (try clear hb2); (try clear hk); (try clear hi)) | (go_at_call 20; (with_reducible refine (impl_Lower.calls t121 t124 _ A63.out).mono ?_); rintro e w97 ⟨rfl, hb⟩; replace HB := Aside0.mk (below_step bh hb); (try clear hb); (try clear hb2); (try clear hk); (try clear hi)))
                go_ret
                exact ⟨by first | rfl | (simp [ne_nil_isEmpty]; done) | (simp [errW_none, errW_some] <;> rfl) | (simp [*, errW_none, errW_some] <;> rfl), bh⟩
              ·
               rw [if_neg c65] at H
               have c65b0 : (t124.toList == t125.toList) = false := beq_eq_false_iff_ne.mpr c65
               have c65b1 : (t124.toList != t125.toList) = true := bne_iff_ne.mpr c65
               obtain rfl := Option.some.inj H
               go_wp2_with (first | ((with_reducible refine gate_callee (f := 16) rfl ?_); refine goesL_ (some 98) rfl rfl Tryz.func16 (by kernel_rfl) rfl #[.slice A0 l0.length c0] rfl (by (try simp only [List.map_toArray, List.map_cons, List.map_nil]); first | done | rfl | (simp only [ne_nil_isEmpty]; rfl) | (simp only [List.length_drop, List.length_take]; rfl)) ?_; (with_reducible refine (spec_DrawTrimmed.calls kj45 _ _ l0 t119 _ ?side1 ?side2 A56.out).mono ?_); (case side1 => repeat (first | exact (Kd.C_below HR0.out HB.out) | (with_reducible refine Kd.C_alloc ?_ _) | (with_reducible refine Kd.C_drewN ?_ _) | (with_reducible refine Kd.C_drew ?_))); (case side2 => exact HC0.out); rintro e w98 ⟨rfl, hb⟩; refine ⟨_, rfl, ?_⟩; replace HB := Aside0.mk (below_step bh hb); (try clear hb); (try clear hb2); (try clear hk); (try clear hi)) | ((with_reducible refine gate_callee (f := 17) rfl ?_); refine goesL_ (some 100) rfl rfl Tryz.func17 (by kernel_rfl) rfl #[.string t119] rfl (by (try simp only [List.map_toArray, List.map_cons, List.map_nil]); first | done | rfl | (simp only [ne_nil_isEmpty]; rfl) | (simp only [List.length_drop, List.length_take]; rfl)) ?_; (with_reducible refine (impl_Trimmed.calls t119 t120 _ A57.out).mono ?_); rintro e w99 ⟨rfl, hb⟩; refine ⟨_, rfl, ?_⟩; replace HB := Aside0.mk (below_step bh hb); (try clear hb); (try clear hb2); (try clear hk); (try clear hi)) | ((with_reducible refine gate_callee (f := 18) rfl ?_); refine goesL_ (some 102) rfl rfl Tryz.func18 (by kernel_rfl) rfl #[.slice A0 l0.length c0] rfl (by (try simp only [List.map_toArray, List.map_cons, List.map_nil]); first | done | rfl | (simp only [ne_nil_isEmpty]; rfl) | (simp only [List.length_drop, List.length_take]; rfl)) ?_; (with_reducible refine (spec_DrawLower.calls kj45 _ _ l0 t121 _ ?side1 ?side2 A58.out).mono ?_); (case side1 => repeat (first | exact (Kd.C_below HR0.out HB.out) | (with_reducible refine Kd.C_alloc ?_ _) | (with_reducible refine Kd.C_drewN ?_ _) | (with_reducible refine Kd.C_drew ?_))); (case side2 => exact HC0.out); rintro e w100 ⟨rfl, hb⟩; refine ⟨_, rfl, ?_⟩; replace HB := Aside0.mk (below_step bh hb); (try clear hb); (try clear hb2); (try clear hk); (try clear hi)) | ((with_reducible refine gate_callee (f := 19) rfl ?_); refine goesL_ (some 105) rfl rfl Tryz.func19 (by kernel_rfl) rfl #[.string t119] rfl (by (try simp only [List.map_toArray, List.map_cons, List.map_nil]); first | done | rfl | (simp only [ne_nil_isEmpty]; rfl) | (simp only [List.length_drop, List.length_take]; rfl)) ?_; (with_reducible refine (spec_Trimmed.calls kj45 t119 t122 _ A59.out).mono ?_); rintro e w' ⟨rfl, ⟨nd, rfl⟩⟩; refine ⟨_, rfl, ?_⟩) | (go_at_call 17; (with_reducible refine (impl_Trimmed.calls t120 t123 _ A61.out).mono ?_); rintro e w101 ⟨rfl, hb⟩; replace HB := Aside0.mk (below_step bh hb); (try clear hb); (try clear hb2); (try clear hk); (try clear hi)) | (go_at_call 20; (with_reducible refine (impl_Lower.calls t121 t124 _ A63.out).mono ?_); rintro e w102 ⟨rfl, hb⟩; replace HB := Aside0.mk (below_step bh hb); (try clear hb); (try clear hb2); (try clear hk); (try clear hi)) | (go_at_call 21; (with_reducible refine (spec_Lower.calls t121 t125 _ A64.out).mono ?_); rintro e w103 ⟨rfl, hb⟩; replace HB := Aside0.mk (below_step bh hb); (try clear hb); (try clear hb2); (try clear hk); (try clear hi)))
               go_ret
               exact ⟨by first | rfl | (simp [ne_nil_isEmpty]; done) | (simp [errW_none, errW_some] <;> rfl) | (simp [*, errW_none, errW_some] <;> rfl), bh⟩
             ·
              rw [if_neg c62] at H
              have c62b0 : (t123.toList == t120.toList) = false := beq_eq_false_iff_ne.mpr c62
              have c62b1 : (t123.toList != t120.toList) = true := bne_iff_ne.mpr c62
              obtain rfl := Option.some.inj H
              go_wp2_with (first | ((with_reducible refine gate_callee (f := 16) rfl ?_); refine goesL_ (some 98) rfl rfl Tryz.func16 (by kernel_rfl) rfl #[.slice A0 l0.length c0] rfl (by (try simp only [List.map_toArray, List.map_cons, List.map_nil]); first | done | rfl | (simp only [ne_nil_isEmpty]; rfl) | (simp only [List.length_drop, List.length_take]; rfl)) ?_; (with_reducible refine (spec_DrawTrimmed.calls kj45 _ _ l0 t119 _ ?side1 ?side2 A56.out).mono ?_); (case side1 => repeat (first | exact (Kd.C_below HR0.out HB.out) | (with_reducible refine Kd.C_alloc ?_ _) | (with_reducible refine Kd.C_drewN ?_ _) | (with_reducible refine Kd.C_drew ?_))); (case side2 => exact HC0.out); rintro e w104 ⟨rfl, hb⟩; refine ⟨_, rfl, ?_⟩; replace HB := Aside0.mk (below_step bh hb); (try clear hb); (try clear hb2); (try clear hk); (try clear hi)) | ((with_reducible refine gate_callee (f := 17) rfl ?_); refine goesL_ (some 100) rfl rfl Tryz.func17 (by kernel_rfl) rfl #[.string t119] rfl (by (try simp only [List.map_toArray, List.map_cons, List.map_nil]); first | done | rfl | (simp only [ne_nil_isEmpty]; rfl) | (simp only [List.length_drop, List.length_take]; rfl)) ?_; (with_reducible refine (impl_Trimmed.calls t119 t120 _ A57.out).mono ?_); rintro e w105 ⟨rfl, hb⟩; refine ⟨_, rfl, ?_⟩; replace HB := Aside0.mk (below_step bh hb); (try clear hb); (try clear hb2); (try clear hk); (try clear hi)) | ((with_reducible refine gate_callee (f := 18) rfl ?_); refine goesL_ (some 102) rfl rfl Tryz.func18 (by kernel_rfl) rfl #[.slice A0 l0.length c0] rfl (by (try simp only [List.map_toArray, List.map_cons, List.map_nil]); first | done | rfl | (simp only [ne_nil_isEmpty]; rfl) | (simp only [List.length_drop, List.length_take]; rfl)) ?_; (with_reducible refine (spec_DrawLower.calls kj45 _ _ l0 t121 _ ?side1 ?side2 A58.out).mono ?_); (case side1 => repeat (first | exact (Kd.C_below HR0.out HB.out) | (with_reducible refine Kd.C_alloc ?_ _) | (with_reducible refine Kd.C_drewN ?_ _) | (with_reducible refine Kd.C_drew ?_))); (case side2 => exact HC0.out); rintro e w106 ⟨rfl, hb⟩; refine ⟨_, rfl, ?_⟩; replace HB := Aside0.mk (below_step bh hb); (try clear hb); (try clear hb2); (try clear hk); (try clear hi)) | ((with_reducible refine gate_callee (f := 19) rfl ?_); refine goesL_ (some 105) rfl rfl Tryz.func19 (by kernel_rfl) rfl #[.string t119] rfl (by (try simp only [List.map_toArray, List.map_cons, List.map_nil]); first | done | rfl | (simp only [ne_nil_isEmpty]; rfl) | (simp only [List.length_drop, List.length_take]; rfl)) ?_; (with_reducible refine (spec_Trimmed.calls kj45 t119 t122 _ A59.out).mono ?_); rintro e w' ⟨rfl, ⟨nd, rfl⟩⟩; refine ⟨_, rfl, ?_⟩) | (go_at_call 17; (with_reducible refine (impl_Trimmed.calls t120 t123 _ A61.out).mono ?_); rintro e w107 ⟨rfl, hb⟩; replace HB := Aside0.mk (below_step bh hb); (try clear hb); (try clear hb2); (try clear hk); (try clear hi)))
              go_ret
              exact ⟨by first | rfl | (simp [ne_nil_isEmpty]; done) | (simp [errW_none, errW_some] <;> rfl) | (simp [*, errW_none, errW_some] <;> rfl), bh⟩
            ·
             rw [if_neg c60] at H
             have c60b0 : (t120.toList == t122.toList) = false := beq_eq_false_iff_ne.mpr c60
             have c60b1 : (t120.toList != t122.toList) = true := bne_iff_ne.mpr c60
             obtain rfl := Option.some.inj H
             go_wp2_with (first | ((with_reducible refine gate_callee (f := 16) rfl ?_); refine goesL_ (some 98) rfl rfl Tryz.func16 (by kernel_rfl) rfl #[.slice A0 l0.length c0] rfl (by (try simp only [List.map_toArray, List.map_cons, List.map_nil]); first | done | rfl | (simp only [ne_nil_isEmpty]; rfl) | (simp only [List.length_drop, List.length_take]; rfl)) ?_; (with_reducible refine (spec_DrawTrimmed.calls kj45 _ _ l0 t119 _ ?side1 ?side2 A56.out).mono ?_); (case side1 => repeat (first | exact (Kd.C_below HR0.out HB.out) | (with_reducible refine Kd.C_alloc ?_ _) | (with_reducible refine Kd.C_drewN ?_ _) | (with_reducible refine Kd.C_drew ?_))); (case side2 => exact HC0.out); rintro e w108 ⟨rfl, hb⟩; refine ⟨_, rfl, ?_⟩; replace HB := Aside0.mk (below_step bh hb); (try clear hb); (try clear hb2); (try clear hk); (try clear hi)) | ((with_reducible refine gate_callee (f := 17) rfl ?_); refine goesL_ (some 100) rfl rfl Tryz.func17 (by kernel_rfl) rfl #[.string t119] rfl (by (try simp only [List.map_toArray, List.map_cons, List.map_nil]); first | done | rfl | (simp only [ne_nil_isEmpty]; rfl) | (simp only [List.length_drop, List.length_take]; rfl)) ?_; (with_reducible refine (impl_Trimmed.calls t119 t120 _ A57.out).mono ?_); rintro e w109 ⟨rfl, hb⟩; refine ⟨_, rfl, ?_⟩; replace HB := Aside0.mk (below_step bh hb); (try clear hb); (try clear hb2); (try clear hk); (try clear hi)) | ((with_reducible refine gate_callee (f := 18) rfl ?_); refine goesL_ (some 102) rfl rfl Tryz.func18 (by kernel_rfl) rfl #[.slice A0 l0.length c0] rfl (by (try simp only [List.map_toArray, List.map_cons, List.map_nil]); first | done | rfl | (simp only [ne_nil_isEmpty]; rfl) | (simp only [List.length_drop, List.length_take]; rfl)) ?_; (with_reducible refine (spec_DrawLower.calls kj45 _ _ l0 t121 _ ?side1 ?side2 A58.out).mono ?_); (case side1 => repeat (first | exact (Kd.C_below HR0.out HB.out) | (with_reducible refine Kd.C_alloc ?_ _) | (with_reducible refine Kd.C_drewN ?_ _) | (with_reducible refine Kd.C_drew ?_))); (case side2 => exact HC0.out); rintro e w110 ⟨rfl, hb⟩; refine ⟨_, rfl, ?_⟩; replace HB := Aside0.mk (below_step bh hb); (try clear hb); (try clear hb2); (try clear hk); (try clear hi)) | ((with_reducible refine gate_callee (f := 19) rfl ?_); refine goesL_ (some 105) rfl rfl Tryz.func19 (by kernel_rfl) rfl #[.string t119] rfl (by (try simp only [List.map_toArray, List.map_cons, List.map_nil]); first | done | rfl | (simp only [ne_nil_isEmpty]; rfl) | (simp only [List.length_drop, List.length_take]; rfl)) ?_; (with_reducible refine (spec_Trimmed.calls kj45 t119 t122 _ A59.out).mono ?_); rintro e w' ⟨rfl, ⟨nd, rfl⟩⟩; refine ⟨_, rfl, ?_⟩))
             go_ret
             exact ⟨by first | rfl | (simp [ne_nil_isEmpty]; done) | (simp [errW_none, errW_some] <;> rfl) | (simp [*, errW_none, errW_some] <;> rfl), bh⟩
/-- THE ONE PURE STATEMENT of laws_FnTexts: yours. -/
def laws_FnTexts.Pure : Prop := ∀ (l0 : List Int), l0.length ≤ maxLen → l0.length * 1 ≤ 140737488351232 → (∀ x ∈ l0, (Lit.int .u8 x).wf = true) → ∃ k, laws_FnTexts.f k l0 = some true
theorem laws_FnTexts.walk (P : laws_FnTexts.Pure) (a0 : Option Addr) (len0 cap0 : Nat) (z0 : List Int) (w : World) (w0 : (a0 = none ∧ len0 = 0 ∧ cap0 = 0 ∧ z0 = []) ∨ ∃ x, a0 = some x ∧ len0 ≤ cap0 ∧ cap0 ≤ maxLen ∧ z0.length = cap0 ∧ (∀ i, i < z0.length → w.cell? (x.add i) = some (.int .u8 (z0.getD i 0))) ∧ ∀ n ∈ z0, (Lit.int .u8 n).wf = true) (y0 : len0 * 1 ≤ 140737488351232) :
  Calls Tryz.prog 3 #[.slice a0 len0 cap0] w fun e w' => e = .returned (.bool true) ∧ Below w.heap.size w w' := by
 obtain ⟨l0, rfl, hr0, hm0, hw0, hc0⟩ := ReadsInt.ofRowC w0
 obtain ⟨k, h⟩ := P l0 hm0 y0 hw0
 refine (laws_FnTexts.calls k _ _ l0 true w (Kd.C_of_reads (d := (0 : Int)) (h1 := fun _ => rfl) hr0) hc0 h).mono ?_
 rintro e w' ⟨rfl, hd⟩
 exact ⟨rfl, hd⟩
end Go.Proofs.YtpgpjgdcfhodgaaGreatDoor.P
namespace Go.Proofs.YtpgpjgdcfhodgaaGreatDoor.Q
open Go.RowKit Go.Proofs.YtpgpjgdcfhodgaaGreatDoorW.PrintWords Go.Proofs.YtpgpjgdcfhodgaaGreatDoorW.PrintLast Go.Proofs.YtpgpjgdcfhodgaaGreatDoorW.PrintMore

theorem wrap_in {i : Int} (h0 : -9223372036854775808 ≤ i) (h1 : i ≤ 9223372036854775807) : wrap64 i = i := by unfold wrap64; omega
theorem wrap_next {i : Nat} {n : Nat} (h : i < n) (hn : n ≤ 4611686018427387904) : wrap64 ((i : Int) + 1) = ((i + 1 : Nat) : Int) := by unfold wrap64; omega

theorem toList_data (s : ByteArray) : s.toList = s.data.toList := ByteArray.toList_eq s
theorem eq_of_toList {a b : ByteArray} (h : a.toList = b.toList) : a = b := by
  rw [toList_data, toList_data] at h
  exact ByteArray.ext (Array.toList_inj.1 h)
theorem bt_get (s : ByteArray) (i : Nat) (h : i < s.size) : (bytesOf s)[i]? = some (bt s i) := by
  rw [← rd_bytesOf]
  have h1 : i < (bytesOf s).length := by rw [bytesOf_length]; exact h
  simp [rd, List.getD_eq_getElem?_getD, List.getElem?_eq_getElem h1]
theorem drop_bt (s : ByteArray) (i : Nat) (h : i < s.size) : (bytesOf s).drop i = bt s i :: (bytesOf s).drop (i + 1) := by
  have h1 : i < (bytesOf s).length := by rw [bytesOf_length]; exact h
  rw [List.drop_eq_getElem_cons h1]
  have := bt_get s i h
  rw [List.getElem?_eq_getElem h1] at this
  rw [Option.some.inj this]
theorem mem_bytes {s : ByteArray} {c : Int} (h : c ∈ bytesOf s) : 0 ≤ c ∧ c ≤ 255 := by
  unfold bytesOf at h
  obtain ⟨b, _, rfl⟩ := List.mem_map.1 h
  have := b.toNat_lt
  omega
theorem bytes_nums (l : List Int) (h : ∀ c ∈ l, 0 ≤ c ∧ c ≤ 255) : bytesOf (strOfNums l) = l := by
  unfold bytesOf
  rw [strOfNums_data, List.map_map]
  refine (List.map_congr_left fun c hc => ?_).trans (List.map_id l)
  have := h c hc
  simp only [Function.comp, UInt8.toNat_ofNat', id]
  omega
theorem nums_bytes (s : ByteArray) : strOfNums (bytesOf s) = s := by
  apply ByteArray.ext
  apply Array.toList_inj.1
  rw [strOfNums_data]
  unfold bytesOf
  rw [List.map_map]
  refine (List.map_congr_left fun c hc => ?_).trans (List.map_id _)
  simp
theorem bytes_inj {a b : ByteArray} (h : bytesOf a = bytesOf b) : a = b := by rw [← nums_bytes a, ← nums_bytes b, h]
theorem bytes_append (a b : ByteArray) : bytesOf (a ++ b) = bytesOf a ++ bytesOf b := by
  unfold bytesOf
  rw [← List.map_append]
  simp [ByteArray.data_append]

/-- A loop over bytes: what a round does with its state and a byte; an end ahead of time. -/
def runL {σ β : Type} (f : σ → Int → σ ⊕ β) (fin : σ → β) : List Int → σ → β
  | [], st => fin st
  | c :: cs, st => match f st c with
    | .inl st' => runL f fin cs st'
    | .inr b => b
/-- The printed loop comes to what 'runL' comes to, from some number of rounds on. -/
theorem ev_run {σ β : Type} (s : ByteArray) (I : σ → Nat → Prop) (f : σ → Int → σ ⊕ β) (fin : σ → β) (g : Nat → σ → Int → Option β) (K : Nat)
    (hstep : ∀ k st (i : Nat), K ≤ k → i < s.size → I st i → (∀ st', f st (bt s i) = .inl st' → g (k + 1) st i = g k st' ((i + 1 : Nat) : Int) ∧ I st' (i + 1)) ∧ (∀ b, f st (bt s i) = .inr b → g (k + 1) st i = some b))
    (hend : ∀ k st, K ≤ k → I st s.size → g (k + 1) st (s.size : Int) = some (fin st)) (st : σ) (h0 : I st 0) :
    Ev (fun k => g k st 0) (runL f fin (bytesOf s) st) := by
  have key : ∀ (d i : Nat) (st : σ), i + d = s.size → I st i → ∀ k, K + d < k → g k st (i : Int) = some (runL f fin ((bytesOf s).drop i) st) := by
    intro d
    induction d with
    | zero =>
      intro i st hd hI k hk
      obtain ⟨k, rfl⟩ : ∃ m, k = m + 1 := ⟨k - 1, by omega⟩
      have e : i = s.size := by omega
      subst e
      rw [hend k st (by omega) hI, List.drop_of_length_le (by rw [bytesOf_length]; exact Nat.le_refl _)]
      rfl
    | succ d ih =>
      intro i st hd hI k hk
      obtain ⟨k, rfl⟩ : ∃ m, k = m + 1 := ⟨k - 1, by omega⟩
      obtain ⟨h1, h2⟩ := hstep k st i (by omega) (by omega) hI
      rw [drop_bt s i (by omega)]
      show g (k + 1) st i = some (match f st (bt s i) with | .inl st' => runL f fin ((bytesOf s).drop (i + 1)) st' | .inr b => b)
      cases hf : f st (bt s i) with
      | inl st' =>
        obtain ⟨e, hI'⟩ := h1 st' hf
        rw [e]
        exact ih (i + 1) st' (by omega) hI' k (by omega)
      | inr b => exact h2 b hf
  refine ⟨K + s.size + 1, fun k hk => ?_⟩
  have := key s.size 0 st (by omega) h0 k (by omega)
  rw [List.drop_zero] at this
  exact this

/-- A loop that asks each byte. -/
theorem ev_all (s : ByteArray) (p : Int → Bool) (g : Nat → Int → Option Bool) (K : Nat)
    (h1 : ∀ k (i : Nat), K ≤ k → i < s.size → p (bt s i) = true → g (k + 1) i = g k ((i + 1 : Nat) : Int))
    (h0 : ∀ k (i : Nat), K ≤ k → i < s.size → p (bt s i) = false → g (k + 1) i = some false)
    (he : ∀ k, K ≤ k → g (k + 1) (s.size : Int) = some true) : Ev (fun k => g k 0) ((bytesOf s).all p) := by
  have h := ev_run (σ := Unit) (β := Bool) s (fun _ _ => True) (fun _ c => if p c = true then .inl () else .inr false) (fun _ => true) (fun k _ i => g k i) K
    (fun k st i hk hi _ => ⟨fun st' e => ⟨h1 k i hk hi (by
        by_cases hp : p (bt s i) = true
        · exact hp
        · rw [if_neg hp] at e; cases e), trivial⟩, fun b e => by
        by_cases hp : p (bt s i) = true
        · rw [if_pos hp] at e; cases e
        · rw [if_neg hp] at e
          obtain rfl : false = b := by injection e
          exact h0 k i hk hi (by simpa using hp)⟩)
    (fun k st hk _ => he k hk) () trivial
  have e : ∀ l : List Int, runL (σ := Unit) (β := Bool) (fun _ c => if p c = true then .inl () else .inr false) (fun _ => true) l () = l.all p := by
    intro l
    induction l with
    | nil => rfl
    | cons c cs ih =>
      rw [List.all_cons]
      unfold runL
      by_cases hp : p c = true
      · simp only [hp, if_true, Bool.true_and]; exact ih
      · simp only [(by simpa using hp : p c = false), Bool.false_and, Bool.false_eq_true, if_false]
  rw [e] at h
  exact h
theorem runL_all {β : Type} (p : Int → Bool) (r b : β) (l : List Int) : runL (σ := Unit) (fun _ c => if p c = true then .inl () else .inr b) (fun _ => r) l () = if l.all p = true then r else b := by
  induction l with
  | nil => rfl
  | cons c cs ih =>
    rw [List.all_cons]
    unfold runL
    by_cases hp : p c = true
    · simp only [hp, if_true, Bool.true_and]; exact ih
    · simp only [(by simpa using hp : p c = false), Bool.false_and, Bool.false_eq_true, if_false]
/-- A loop that asks each byte, and goes on behind it. -/
theorem ev_allr {β : Type} (s : ByteArray) (p : Int → Bool) (r b : β) (g : Nat → Int → Option β) (K : Nat)
    (h1 : ∀ k (i : Nat), K ≤ k → i < s.size → p (bt s i) = true → g (k + 1) i = g k ((i + 1 : Nat) : Int))
    (h0 : ∀ k (i : Nat), K ≤ k → i < s.size → p (bt s i) = false → g (k + 1) i = some b)
    (he : ∀ k, K ≤ k → g (k + 1) (s.size : Int) = some r) : Ev (fun k => g k 0) (if (bytesOf s).all p = true then r else b) := by
  rw [← runL_all p r b (bytesOf s)]
  refine ev_run (σ := Unit) s (fun _ _ => True) (fun _ c => if p c = true then .inl () else .inr b) (fun _ => r) (fun k _ i => g k i) K
    (fun k st i hk hi _ => ⟨fun st' e => ⟨h1 k i hk hi (by
        by_cases hp : p (bt s i) = true
        · exact hp
        · rw [if_neg hp] at e; cases e), trivial⟩, fun b' e => by
        by_cases hp : p (bt s i) = true
        · rw [if_pos hp] at e; cases e
        · rw [if_neg hp] at e
          obtain rfl : b = b' := by injection e
          exact h0 k i hk hi (by simpa using hp)⟩)
    (fun k st hk _ => he k hk) () trivial
/-- A loop that puts something behind a list for each byte. -/
theorem runL_flat {β : Type} (f : Int → List Int) (fin : List Int → β) (l st : List Int) : runL (fun st c => .inl (st ++ f c)) fin l st = fin (st ++ l.flatMap f) := by
  induction l generalizing st with
  | nil => simp [runL]
  | cons c cs ih =>
    unfold runL
    simp only [ih, List.flatMap_cons, List.append_assoc]
theorem ev_const {α : Type} {x : Option α} {r : α} (h : x = some r) : Ev (fun _ => x) r := ⟨0, fun _ _ => h⟩
theorem ev_eq {α : Type} {g : Nat → Option α} {r r' : α} (h : Ev g r) (e : r = r') : Ev g r' := e ▸ h
/-- From a number of rounds on: a law that holds at each such number. -/
theorem ev_now {α : Type} {g : Nat → Option α} {r : α} (K : Nat) (h : ∀ k, K ≤ k → g k = some r) : Ev g r := ⟨K, h⟩
theorem all_congr' {l : List Int} {p q : Int → Bool} (h : ∀ c ∈ l, p c = q c) : l.all p = l.all q := by
  induction l with
  | nil => rfl
  | cons a l ih =>
    rw [List.all_cons, List.all_cons, h a List.mem_cons_self, ih fun c hc => h c (List.mem_cons_of_mem _ hc)]
theorem strOfNums_size (l : List Int) : (strOfNums l).size = l.length := by
  show (strOfNums l).data.size = _
  rw [← Array.length_toList, strOfNums_data, List.length_map]
end Go.Proofs.YtpgpjgdcfhodgaaGreatDoor.Q
namespace Go.Proofs.YtpgpjgdcfhodgaaGreatDoor.Q
set_option linter.unusedVariables false
set_option linter.unusedSimpArgs false
open Go.RowKit Go.Proofs.YtpgpjgdcfhodgaaGreatDoor.P Go.Proofs.YtpgpjgdcfhodgaaGreatDoorW.PrintWords Go.Proofs.YtpgpjgdcfhodgaaGreatDoorW.PrintLast Go.Proofs.YtpgpjgdcfhodgaaGreatDoorW.PrintMore

/-- From some number of rounds on it answers, and the answer is as told. -/
def TotP {α : Type} (g : Nat → Option α) (P : α → Prop) : Prop := ∃ r, Ev g r ∧ P r
theorem TotP.bind {α β : Type} {g : Nat → Option α} {f : Nat → α → Option β} {P : α → Prop} {Q : β → Prop} (h : TotP g P) (k : ∀ a, P a → TotP (fun n => f n a) Q) : TotP (fun n => (g n).bind (f n)) Q := by
  obtain ⟨a, ha, pa⟩ := h
  obtain ⟨b, hb, qb⟩ := k a pa
  exact ⟨b, Ev.bind ha hb, qb⟩
theorem TotP.of {α : Type} {x : Option α} {P : α → Prop} (h : ∃ r, x = some r ∧ P r) : TotP (fun _ => x) P := by
  obtain ⟨r, e, p⟩ := h
  exact ⟨r, ev_const e, p⟩
theorem TotP.now {α : Type} {r : α} {P : α → Prop} (p : P r) : TotP (fun _ => some r) P := ⟨r, Ev.now r, p⟩
theorem TotP.imp {α : Type} {g : Nat → Option α} {P Q : α → Prop} (h : TotP g P) (pq : ∀ r, P r → Q r) : TotP g Q := by
  obtain ⟨r, e, p⟩ := h
  exact ⟨r, e, pq r p⟩
theorem TotP.step {α : Type} {g f : Nat → Option α} {P : α → Prop} (h : ∀ k, g (k + 1) = f k) (t : TotP f P) : TotP g P := by
  obtain ⟨r, e, p⟩ := t
  exact ⟨r, Ev.step h e, p⟩
theorem TotP.ite {α : Type} {c : Prop} [Decidable c] {f g : Nat → Option α} {P : α → Prop} (hf : c → TotP f P) (hg : ¬ c → TotP g P) : TotP (fun k => if c then f k else g k) P := by
  by_cases h : c
  · simp only [if_pos h]; exact hf h
  · simp only [if_neg h]; exact hg h
theorem bindOf {α β : Type} {x : Option α} {f : α → Option β} {P : α → Prop} {Q : β → Prop} (h : ∃ r, x = some r ∧ P r) (k : ∀ a, P a → ∃ r, f a = some r ∧ Q r) : ∃ r, x.bind f = some r ∧ Q r := by
  obtain ⟨a, rfl, p⟩ := h
  exact k a p

theorem and255 (a : Int) : 0 ≤ Go.bits .and .i64 a 255 ∧ Go.bits .and .i64 a 255 ≤ 255 := by
  unfold Go.bits
  have h : ((BitVec.ofInt IntKind.i64.bits a) &&& (BitVec.ofInt IntKind.i64.bits 255)).toNat ≤ 255 := by
    rw [BitVec.toNat_and]
    exact Nat.le_trans Nat.and_le_right (by decide)
  show 0 ≤ IntKind.i64.wrap ((((BitVec.ofInt IntKind.i64.bits a) &&& (BitVec.ofInt IntKind.i64.bits 255)).toNat : Nat) : Int) ∧ IntKind.i64.wrap ((((BitVec.ofInt IntKind.i64.bits a) &&& (BitVec.ofInt IntKind.i64.bits 255)).toNat : Nat) : Int) ≤ 255
  generalize ((BitVec.ofInt IntKind.i64.bits a) &&& (BitVec.ofInt IntKind.i64.bits 255)).toNat = n at h ⊢
  rw [IntKind.wrap_i64]
  omega
/-- The cursor's place is no negative number. -/
theorem byte_ok (b : List Int) (i h : Int) (h0 : 0 ≤ i) (hb : b.length ≤ 140737488351232) : ∃ r : Int × Int × Int, spec_l1Byte.f b i h = some r ∧ (0 ≤ r.1 ∧ r.1 ≤ 255 ∧ 0 ≤ r.2.1) := by
  unfold spec_l1Byte.f
  by_cases hi : i < (b.length : Int)
  · rw [if_pos hi, if_pos h0]
    exact ⟨_, rfl, (and255 _).1, (and255 _).2, by show 0 ≤ wrap64 (i + 1); rw [wrap_in (by omega) (by omega)]; omega⟩
  · rw [if_neg hi]
    exact ⟨_, rfl, (and255 _).1, (and255 _).2, h0⟩
theorem below_ok (b : List Int) (i h n : Int) (h0 : 0 ≤ i) (hb : b.length ≤ 140737488351232) :
    ∃ r : Int × Int × Int, spec_l1Below.f b i h n = some r ∧ (0 ≤ r.1 ∧ (0 < n → r.1 < n) ∧ (n ≤ 0 → r.1 = 0) ∧ 0 ≤ r.2.1) := by
  unfold spec_l1Below.f
  by_cases hn : n ≤ 0
  · rw [if_pos hn]
    exact ⟨_, rfl, by show (0 : Int) ≤ 0; omega, fun h => by omega, fun _ => rfl, h0⟩
  · rw [if_neg hn]
    by_cases h2 : n ≤ 256
    · rw [if_pos h2]
      refine bindOf (byte_ok b i h h0 hb) fun r ⟨r0, r1, r2⟩ => ?_
      rw [if_neg (by omega)]
      refine ⟨_, rfl, ?_, fun _ => ?_, fun h => by omega, r2⟩
      · show 0 ≤ Int.tmod r.1 n
        rw [Int.tmod_eq_emod_of_nonneg r0]; exact Int.emod_nonneg _ (by omega)
      · show Int.tmod r.1 n < n
        rw [Int.tmod_eq_emod_of_nonneg r0]; exact Int.emod_lt_of_pos _ (by omega)
    · rw [if_neg h2]
      refine bindOf (byte_ok b i h h0 hb) fun r ⟨r0, r1, r2⟩ => ?_
      refine bindOf (byte_ok b _ _ r2 hb) fun s ⟨s0, s1, s2⟩ => ?_
      refine bindOf (byte_ok b _ _ s2 hb) fun t ⟨t0, t1, t2⟩ => ?_
      refine bindOf (byte_ok b _ _ t2 hb) fun u ⟨u0, u1, u2⟩ => ?_
      rw [if_neg (by omega)]
      rw [wrap_in (i := r.1 * 16777216) (by omega) (by omega), wrap_in (i := s.1 * 65536) (by omega) (by omega), wrap_in (i := r.1 * 16777216 + s.1 * 65536) (by omega) (by omega), wrap_in (i := t.1 * 256) (by omega) (by omega), wrap_in (i := r.1 * 16777216 + s.1 * 65536 + t.1 * 256) (by omega) (by omega), wrap_in (i := r.1 * 16777216 + s.1 * 65536 + t.1 * 256 + u.1) (by omega) (by omega)]
      refine ⟨_, rfl, ?_, fun _ => ?_, fun h => by omega, u2⟩
      · show 0 ≤ Int.tmod _ n
        rw [Int.tmod_eq_emod_of_nonneg (by omega)]; exact Int.emod_nonneg _ (by omega)
      · show Int.tmod _ n < n
        rw [Int.tmod_eq_emod_of_nonneg (by omega)]; exact Int.emod_lt_of_pos _ (by omega)
theorem once_ok (b : List Int) (i h n : Int) (h0 : 0 ≤ i) (hb : b.length ≤ 140737488351232) :
    ∃ r : Bool × Int × Int, spec_l1Once.f b i h n = some r ∧ 0 ≤ r.2.1 := by
  unfold spec_l1Once.f
  exact bindOf (below_ok b i h n h0 hb) fun r ⟨_, _, _, r3⟩ => ⟨_, rfl, r3⟩
theorem new_loop (b : List Int) (hb : b.length ≤ 140737488351232) (d : Nat) : ∀ (i : Nat) (x : Int), i + d = b.length → ∃ h, ∀ k, d < k → spec_l1New.l0 k b x (i : Int) = some (b, 0, h) := by
  induction d with
  | zero =>
    intro i x hd
    refine ⟨x, fun k hk => ?_⟩
    obtain ⟨k, rfl⟩ : ∃ z, k = z + 1 := ⟨k - 1, by omega⟩
    simp only [spec_l1New.l0]
    rw [if_neg (by omega)]
  | succ d ih =>
    intro i x hd
    obtain ⟨h, hh⟩ := ih (i + 1) (Go.bits .and .i64 (wrap64 ((wrap64 ((wrap64 (x * 137)) + (wrap64 (rd b (i : Int))))) + 11)) 1073741823) (by omega)
    refine ⟨h, fun k hk => ?_⟩
    obtain ⟨k, rfl⟩ : ∃ z, k = z + 1 := ⟨k - 1, by omega⟩
    simp only [spec_l1New.l0]
    rw [if_pos (by omega), if_pos (by omega), wrap_in (i := (i : Int) + 1) (by omega) (by omega)]
    exact hh k (by omega)
theorem new_ok (b : List Int) (hb : b.length ≤ 140737488351232) : TotP (fun k => spec_l1New.f k b) (fun r => r.1 = b ∧ 0 ≤ r.2.1) := by
  obtain ⟨h, hh⟩ := new_loop b hb b.length 0 (wrap64 (109013 + (b.length : Int))) (by omega)
  refine ⟨(b, 0, h), ⟨b.length + 1, fun k hk => ?_⟩, rfl, by show (0 : Int) ≤ 0; omega⟩
  unfold spec_l1New.f
  exact hh k (by omega)
end Go.Proofs.YtpgpjgdcfhodgaaGreatDoor.Q
namespace Go.Proofs.YtpgpjgdcfhodgaaGreatDoor.Q
set_option linter.unusedVariables false
set_option linter.unusedSimpArgs false
open Go.RowKit Go.Proofs.YtpgpjgdcfhodgaaGreatDoor.P Go.Proofs.YtpgpjgdcfhodgaaGreatDoorW.PrintWords
theorem bendL_ok (b : List Int) (hb : b.length ≤ 140737488351232) (s : ByteArray) (hs : 0 < s.size) (d : Nat) : ∀ (x : List Int) (i h : Int), 0 ≤ i → x.length + d < 1000000000 → TotP (fun k => bendL s b k x (d : Int) i h) (fun r => r.1.size ≤ x.length + d ∧ 0 ≤ r.2.1) := by
  induction d with
  | zero =>
    intro x i h h0 hx
    refine TotP.step (f := fun _ => some (strOfNums x, i, h)) (fun k => ?_) (TotP.now ⟨by show (strOfNums x).size ≤ _; rw [strOfNums_size]; omega, h0⟩)
    rw [bendL, if_neg (fun q => absurd q.1 (by omega))]
  | succ d ih =>
    intro x i h h0 hx
    by_cases hn : 0 < x.length
    · have hw : wrap64 (((d + 1 : Nat) : Int) - 1) = (d : Int) := by rw [wrap_in (by omega) (by omega)]; omega
      refine TotP.step (f := fun k => (spec_l1Below.f b i h (x.length : Int)).bind fun r1 => (spec_l1Below.f b r1.2.1 r1.2.2 4).bind fun r2 =>
        if 0 ≤ r1.1 ∧ r1.1 < (x.length : Int) ∧ x.length < 1000000000 then
          if r2.1 = 0 then (spec_l1Below.f b r2.2.1 r2.2.2 (s.size : Int)).bind fun r3 => if 0 ≤ r3.1 ∧ r3.1 < (s.size : Int) then bendL s b k (x.set r1.1.toNat (bt s r3.1)) (d : Int) r3.2.1 r3.2.2 else none
          else if r2.1 = 1 then bendL s b k (x.take r1.1.toNat) (d : Int) r2.2.1 r2.2.2
          else if r2.1 = 2 then bendL s b k (x.take r1.1.toNat ++ x.drop (r1.1 + 1).toNat) (d : Int) r2.2.1 r2.2.2
          else if r2.1 = 3 then (spec_l1Below.f b r2.2.1 r2.2.2 (s.size : Int)).bind fun r3 => if 0 ≤ r3.1 ∧ r3.1 < (s.size : Int) then bendL s b k (x.take r1.1.toNat ++ [bt s r3.1] ++ x.drop r1.1.toNat) (d : Int) r3.2.1 r3.2.2 else none
          else bendL s b k x (d : Int) r2.2.1 r2.2.2
        else none) (fun k => ?_) ?_
      · rw [bendL, if_pos ⟨by omega, hn⟩, hw]
      · refine TotP.bind (TotP.of (below_ok b i h (x.length : Int) h0 hb)) fun r1 p1 => TotP.bind (TotP.of (below_ok b _ _ 4 p1.2.2.2 hb)) fun r2 p2 => ?_
        have hr1 := p1.2.1 (by omega)
        have hr0 := p1.1
        refine TotP.ite (fun _ => ?_) (fun c => absurd ⟨hr0, hr1, by omega⟩ c)
        refine TotP.ite (fun _ => ?_) fun _ => TotP.ite (fun _ => ?_) fun _ => TotP.ite (fun _ => ?_) fun _ => TotP.ite (fun _ => ?_) fun _ => ?_
        · refine TotP.bind (TotP.of (below_ok b _ _ (s.size : Int) p2.2.2.2 hb)) fun r3 p3 => TotP.ite (fun _ => ?_) (fun c => absurd ⟨p3.1, p3.2.1 (by omega)⟩ c)
          have hl : (x.set r1.1.toNat (bt s r3.1)).length = x.length := List.length_set
          exact (ih _ _ _ p3.2.2.2 (by omega)).imp fun r hr => ⟨by omega, hr.2⟩
        · have hl : (x.take r1.1.toNat).length ≤ x.length := by rw [List.length_take]; omega
          exact (ih _ _ _ p2.2.2.2 (by omega)).imp fun r hr => ⟨by omega, hr.2⟩
        · have hl : (x.take r1.1.toNat ++ x.drop (r1.1 + 1).toNat).length ≤ x.length := by rw [List.length_append, List.length_take, List.length_drop]; omega
          exact (ih _ _ _ p2.2.2.2 (by omega)).imp fun r hr => ⟨by omega, hr.2⟩
        · refine TotP.bind (TotP.of (below_ok b _ _ (s.size : Int) p2.2.2.2 hb)) fun r3 p3 => TotP.ite (fun _ => ?_) (fun c => absurd ⟨p3.1, p3.2.1 (by omega)⟩ c)
          have hl : (x.take r1.1.toNat ++ [bt s r3.1] ++ x.drop r1.1.toNat).length ≤ x.length + 1 := by rw [List.length_append, List.length_append, List.length_take, List.length_drop, List.length_singleton]; omega
          exact (ih _ _ _ p3.2.2.2 (by omega)).imp fun r hr => ⟨by omega, hr.2⟩
        · exact (ih _ _ _ p2.2.2.2 (by omega)).imp fun r hr => ⟨by omega, hr.2⟩
    · refine TotP.step (f := fun _ => some (strOfNums x, i, h)) (fun k => ?_) (TotP.now ⟨by show (strOfNums x).size ≤ _; rw [strOfNums_size]; omega, h0⟩)
      rw [bendL, if_neg (fun q => hn q.2)]
theorem bend_ok (b : List Int) (hb : b.length ≤ 140737488351232) (t s : ByteArray) (ht : t.size ≤ 100000000) (hs : 0 < s.size) (i h : Int) (h0 : 0 ≤ i) : TotP (fun k => spec_l1Bend.f k b i h t s) (fun r => r.1.size ≤ t.size + 2 ∧ 0 ≤ r.2.1) := by
  unfold spec_l1Bend.f
  refine TotP.ite (fun _ => ?_) (fun c => absurd (by omega) c)
  refine TotP.bind (TotP.of (below_ok b i h 3 h0 hb)) fun r p => ?_
  have h3 := p.2.1 (by decide)
  have h2 := p.1
  have hl := bytesOf_length t
  have := bendL_ok b hb s hs r.1.toNat (bytesOf t) r.2.1 r.2.2 p.2.2.2 (by omega)
  rw [Int.toNat_of_nonneg h2] at this
  exact this.imp fun q hq => ⟨by omega, hq.2⟩
end Go.Proofs.YtpgpjgdcfhodgaaGreatDoor.Q
namespace Go.Proofs.YtpgpjgdcfhodgaaGreatDoor.Q
set_option linter.unusedVariables false
set_option linter.unusedSimpArgs false
open Go.RowKit Go.Proofs.YtpgpjgdcfhodgaaGreatDoor.P Go.Proofs.YtpgpjgdcfhodgaaGreatDoorW.PrintWords Go.Proofs.YtpgpjgdcfhodgaaGreatDoorW.PrintLast Go.Proofs.YtpgpjgdcfhodgaaGreatDoorW.PrintMore

theorem bytes_extract (s : ByteArray) (a b : Nat) : bytesOf (s.extract a b) = ((bytesOf s).drop a).take (b - a) := by
  unfold bytesOf
  rw [Lib.extract_data, List.map_take, List.map_drop]
theorem bytes_last (s : ByteArray) (h : 0 < s.size) : bytesOf s = bytesOf (s.extract 0 (s.size - 1)) ++ [bt s ((s.size - 1 : Nat) : Int)] := by
  rw [bytes_extract, List.drop_zero, Nat.sub_zero]
  have h1 := drop_bt s (s.size - 1) (by omega)
  have h2 : (bytesOf s).drop (s.size - 1 + 1) = [] := List.drop_of_length_le (by rw [bytesOf_length]; omega)
  rw [h2] at h1
  rw [← h1, List.take_append_drop]
theorem bytes_first (s : ByteArray) (h : 0 < s.size) : bytesOf s = bt s 0 :: bytesOf (s.extract 1 s.size) := by
  rw [bytes_extract]
  have h1 := drop_bt s 0 h
  rw [List.drop_zero] at h1
  rw [List.take_of_length_le (by rw [List.length_drop, bytesOf_length]; exact Nat.le_refl _)]
  exact h1
theorem size_extract (s : ByteArray) (a b : Nat) (hb : b ≤ s.size) : (s.extract a b).size = b - a := by
  rw [← bytesOf_length, bytes_extract, List.length_take, List.length_drop, bytesOf_length]
  omega
theorem toList_nil (s : ByteArray) : s.toList = [] ↔ s.size = 0 := by
  rw [toList_data, ← data_length]
  exact List.length_eq_zero_iff.symm
theorem bytes_nil (s : ByteArray) (h : s.size = 0) : bytesOf s = [] := List.eq_nil_of_length_eq_zero (by rw [bytesOf_length]; exact h)
theorem bytes_ofList (l : List UInt8) : bytesOf ⟨l.toArray⟩ = l.map fun b => (b.toNat : Int) := by
  unfold bytesOf
  rfl
theorem bytes_two (s : ByteArray) (i : Nat) (h : i + 2 ≤ s.size) : bytesOf (s.extract i (i + 2)) = [bt s (i : Int), bt s ((i + 1 : Nat) : Int)] := by
  rw [bytes_extract, drop_bt s i (by omega), drop_bt s (i + 1) (by omega), show i + 2 - i = 2 from by omega]
  rfl
theorem drawText_end (b : List Int) (hb : b.length ≤ 140737488351232) (x : List Int) (i h : Int) (h0 : 0 ≤ i) (k : Nat) : ∃ r, spec_l1DrawText.j1 (k + 1) x (decide ((x.length : Int) > 0)) b i h = some r ∧ (0 ≤ r.2.1 ∧ r.1.size = x.length) := by
  simp only [spec_l1DrawText.j1]
  by_cases hx : (x.length : Int) > 0
  · rw [decide_eq_true hx, if_pos rfl]
    refine bindOf (below_ok b i h _ h0 hb) fun r0 p0 => ?_
    refine bindOf (byte_ok b _ _ p0.2.2.2 hb) fun r1 p1 => ?_
    rw [if_pos p0.1, if_pos (p0.2.1 (by omega))]
    exact ⟨_, rfl, p1.2.2, by show (strOfNums _).size = _; rw [strOfNums_size, List.length_set]⟩
  · rw [decide_eq_false hx, if_neg (by simp)]
    exact ⟨_, rfl, h0, by show (strOfNums _).size = _; rw [strOfNums_size]⟩
theorem drawText_stop (b : List Int) (hb : b.length ≤ 140737488351232) (x : List Int) (i h : Int) (h0 : 0 ≤ i) (k : Nat) : ∃ r, spec_l1DrawText.j1 (k + 1) x false b i h = some r ∧ (0 ≤ r.2.1 ∧ r.1.size = x.length) := by
  simp only [spec_l1DrawText.j1]
  rw [if_neg (by simp)]
  exact ⟨_, rfl, h0, by show (strOfNums _).size = _; rw [strOfNums_size]⟩
theorem drawText_loop (b : List Int) (hb : b.length ≤ 140737488351232) (signs : ByteArray) (hs : 0 < signs.size) (d : Nat) : ∀ (x : List Int) (i h : Int), 0 ≤ i → x.length + d ≤ 1000000 →
    ∃ r, (0 ≤ r.2.1 ∧ r.1.size = x.length + d) ∧ ∀ k, d + 1 < k → spec_l1DrawText.l0 k signs x (d : Int) b i h = some r := by
  induction d with
  | zero =>
    intro x i h h0 hd
    obtain ⟨r0, e0, p0⟩ := once_ok b i h 14 h0 hb
    by_cases hc : r0.1 = true
    · obtain ⟨r1, _, p1⟩ := drawText_end b hb x r0.2.1 r0.2.2 p0 0
      refine ⟨r1, p1, fun k hk => ?_⟩
      obtain ⟨k, rfl⟩ : ∃ z, k = z + 2 := ⟨k - 2, by omega⟩
      simp only [spec_l1DrawText.l0]
      rw [if_neg (by omega), e0]
      simp only [Option.bind_some]
      rw [if_pos hc]
      obtain ⟨r2, e2, _⟩ := drawText_end b hb x r0.2.1 r0.2.2 p0 k
      have e3 : spec_l1DrawText.j1 (k + 1) x (decide ((x.length : Int) > 0)) b r0.2.1 r0.2.2 = spec_l1DrawText.j1 (0 + 1) x (decide ((x.length : Int) > 0)) b r0.2.1 r0.2.2 := by simp only [spec_l1DrawText.j1]
      rw [e3]
      assumption
    · refine ⟨(strOfNums x, r0.2.1, r0.2.2), ⟨p0, by show (strOfNums x).size = _; rw [strOfNums_size]; rfl⟩, fun k hk => ?_⟩
      obtain ⟨k, rfl⟩ : ∃ z, k = z + 2 := ⟨k - 2, by omega⟩
      simp only [spec_l1DrawText.l0]
      rw [if_neg (by omega), e0]
      simp only [Option.bind_some]
      rw [if_neg hc]
      simp only [spec_l1DrawText.j1]
      rw [if_neg (by simp)]
  | succ d ih =>
    intro x i h h0 hd
    obtain ⟨r0, e0, p0⟩ := below_ok b i h (signs.size : Int) h0 hb
    obtain ⟨r, p, hr⟩ := ih (x ++ [bt signs r0.1]) r0.2.1 r0.2.2 p0.2.2.2 (by rw [List.length_append, List.length_singleton]; omega)
    refine ⟨r, ⟨p.1, by rw [p.2, List.length_append, List.length_singleton]; omega⟩, fun k hk => ?_⟩
    obtain ⟨k, rfl⟩ : ∃ z, k = z + 1 := ⟨k - 1, by omega⟩
    simp only [spec_l1DrawText.l0]
    rw [if_pos (by omega), e0]
    simp only [Option.bind_some]
    rw [if_pos p0.1, if_pos (p0.2.1 (by omega)), if_pos (by omega), wrap_in (i := ((d + 1 : Nat) : Int) - 1) (by omega) (by omega), show ((d + 1 : Nat) : Int) - 1 = (d : Int) by omega]
    exact hr k (by omega)
theorem drawText_ok (b : List Int) (hb : b.length ≤ 140737488351232) (i h : Int) (h0 : 0 ≤ i) (signs : ByteArray) (hs : 0 < signs.size) (m : Int) (m0 : 0 ≤ m) (m1 : m ≤ 1000) :
    TotP (fun k => spec_l1DrawText.f k b i h signs m) (fun r => 0 ≤ r.2.1 ∧ r.1.size ≤ m.toNat) := by
  unfold spec_l1DrawText.f
  rw [wrap_in (i := m + 1) (by omega) (by omega)]
  refine TotP.bind (TotP.of (below_ok b i h _ h0 hb)) fun r0 p0 => ?_
  obtain ⟨r, p, hr⟩ := drawText_loop b hb signs hs r0.1.toNat [] r0.2.1 r0.2.2 p0.2.2.2 (by have := p0.2.1 (by omega); simp only [List.length_nil]; omega)
  refine ⟨r, ⟨r0.1.toNat + 2, fun k hk => ?_⟩, p.1, by rw [p.2]; have := p0.2.1 (by omega); simp only [List.length_nil]; omega⟩
  have := hr k (by omega)
  rw [Int.toNat_of_nonneg p0.1] at this
  exact this
theorem rd_byte (b : List Int) (hx : ∀ x ∈ b, 0 ≤ x ∧ x ≤ 255) (i : Int) : 0 ≤ rd b i ∧ rd b i ≤ 255 := by
  unfold rd
  rw [List.getD_eq_getElem?_getD]
  cases h : b[i.toNat]? with
  | none => exact ⟨by decide, by decide⟩
  | some v => exact hx v (List.mem_of_getElem? h)
def visB (c : Int) : Bool := decide (32 ≤ c) && decide (c ≤ 126) || decide (c = 9)
def digB (c : Int) : Bool := decide (48 ≤ c) && decide (c ≤ 57)
def letB (c : Int) : Bool := decide (97 ≤ c) && decide (c ≤ 122) || decide (65 ≤ c) && decide (c ≤ 90)
def hexB (c : Int) : Bool := digB c || decide (97 ≤ c) && decide (c ≤ 102) || decide (65 ≤ c) && decide (c ≤ 70)
def tagB (c : Int) : Bool := decide (33 ≤ c) && decide (c ≤ 126) && decide (c ≠ 34)
def tokB (c : Int) : Bool := letB c || digB c || decide (c ∈ [33, 35, 36, 37, 38, 39, 42, 43, 45, 46, 94, 95, 124, 126, 96])
def plaB (c : Int) : Bool := letB c || digB c || decide (c ∈ [45, 46, 95, 126, 47, 58, 64, 33, 36, 38, 39, 40, 41, 42, 43, 44, 59, 61])

theorem impl_isVisible_is (c : Int) : impl_isVisible.f c = some (visB c) := by
  unfold impl_isVisible.f visB
  by_cases h1 : c ≥ 32 <;> by_cases h2 : c ≤ 126 <;> simp [h1, h2] <;> (try omega) <;> (try (by_cases h3 : c = 9 <;> simp [h3] <;> omega))
theorem impl_isDigit_is (c : Int) : impl_isDigit.f c = some (digB c) := by
  unfold impl_isDigit.f digB
  by_cases h1 : c ≥ 48 <;> simp [h1] <;> omega
theorem impl_isLetter_is (c : Int) : impl_isLetter.f c = some (letB c) := by
  unfold impl_isLetter.f letB
  by_cases h1 : c ≥ 97 <;> by_cases h2 : c ≤ 122 <;> by_cases h3 : c ≥ 65 <;> by_cases h4 : c ≤ 90 <;> simp [h1, h2, h3, h4] <;> omega

/-- A law on bytes, tried at each. -/
theorem byte_cases {p : Int → Prop} (h : ∀ n : Fin 256, p (n.val : Int)) (c : Int) (h0 : 0 ≤ c) (h1 : c ≤ 255) : p c := by
  have := h ⟨c.toNat, by omega⟩
  rwa [show ((⟨c.toNat, by omega⟩ : Fin 256).val : Int) = c from by show (c.toNat : Int) = c; omega] at this
theorem impl_TokenOk_1_is (c : Int) (h0 : 0 ≤ c) (h1 : c ≤ 255) : impl_TokenOk_1.f c = some (tokB c) :=
  byte_cases (p := fun c => impl_TokenOk_1.f c = some (tokB c)) (by decide +kernel) c h0 h1
theorem spec_l1Token_is (c : Int) (h0 : 0 ≤ c) (h1 : c ≤ 255) : spec_l1Token.f c = some (tokB c) :=
  byte_cases (p := fun c => spec_l1Token.f c = some (tokB c)) (by decide +kernel) c h0 h1
/-- A hexadecimal digit's value, or -1. -/
def hexV (c : Int) : Int := if digB c = true then c - 48 else if 97 ≤ c ∧ c ≤ 102 then c - 87 else if 65 ≤ c ∧ c ≤ 70 then c - 55 else -1
theorem hexV_neg (c : Int) : decide (hexV c < 0) = !hexB c := by
  unfold hexV hexB
  cases h0 : digB c
  · by_cases h1 : 97 ≤ c ∧ c ≤ 102
    · simp [h1]; omega
    · by_cases h2 : 65 ≤ c ∧ c ≤ 70
      · have h1' : (decide (97 ≤ c) && decide (c ≤ 102)) = false := by simp; omega
        simp [h1, h1', h2]; omega
      · have h1' : (decide (97 ≤ c) && decide (c ≤ 102)) = false := by simp; omega
        have h2' : (decide (65 ≤ c) && decide (c ≤ 70)) = false := by simp; omega
        simp [h1, h1', h2, h2']
  · unfold digB at h0
    simp at h0
    simp
    omega
/-- 'all' over a predicate. -/
theorem all_vis (s : ByteArray) (hs : s.size ≤ 9223372036854775807) : impl_all.f s 30 = some ((bytesOf s).all visB) := by
  unfold impl_all.f
  rw [if_pos hs]
  simp only [Nat.reduceEqDiff, if_true, if_false, reduceIte]
  rw [all_congr' fun c hc => (by rw [impl_isVisible_is]; cases visB c <;> rfl : (impl_isVisible.f c == some true) = visB c)]
theorem all_dig (s : ByteArray) (hs : s.size ≤ 9223372036854775807) : impl_all.f s 33 = some ((bytesOf s).all digB) := by
  unfold impl_all.f
  rw [if_pos hs]
  simp only [Nat.reduceEqDiff, if_true, if_false, reduceIte]
  rw [all_congr' fun c hc => (by rw [impl_isDigit_is]; cases digB c <;> rfl : (impl_isDigit.f c == some true) = digB c)]
theorem all_tok (s : ByteArray) (hs : s.size ≤ 9223372036854775807) : impl_all.f s 31 = some ((bytesOf s).all tokB) := by
  unfold impl_all.f
  rw [if_pos hs]
  simp only [Nat.reduceEqDiff, if_true, if_false, reduceIte]
  rw [all_congr' fun c hc => (by rw [impl_TokenOk_1_is c (mem_bytes hc).1 (mem_bytes hc).2]; cases tokB c <;> rfl : (impl_TokenOk_1.f c == some true) = tokB c)]
def visOk (s : ByteArray) : Bool := decide (s.size ≤ 400) && (bytesOf s).all visB
theorem spec_VisibleOk_ev (s : ByteArray) (hs : s.size ≤ 4611686018427387904) : Ev (fun k => spec_VisibleOk.f k s) (visOk s) := by
  unfold spec_VisibleOk.f visOk
  by_cases h : (s.size : Int) > 400
  · simp only [if_pos h]
    exact ev_const (by rw [decide_eq_false (by omega), Bool.false_and])
  · simp only [if_neg h]
    rw [decide_eq_true (by omega), Bool.true_and]
    refine ev_all s visB (fun k i => spec_VisibleOk.l0 k s i) 0 (fun k i _ hi hp => ?_) (fun k i _ hi hp => ?_) (fun k _ => ?_)
    · simp only [spec_VisibleOk.l0]
      rw [if_pos (by omega), if_pos (by omega), wrap_next hi hs]
      unfold visB at hp
      by_cases h1 : bt s i < 32
      · have h9 : bt s i = 9 := by simp at hp; omega
        rw [if_pos h1, if_pos h9]
      · rw [if_neg h1]
        by_cases h2 : bt s i > 126
        · have h9 : bt s i = 9 := by simp at hp; omega
          rw [if_pos h2, if_pos h9]
        · rw [if_neg h2]
    · simp only [spec_VisibleOk.l0]
      rw [if_pos (by omega), if_pos (by omega)]
      unfold visB at hp
      simp at hp
      by_cases h1 : bt s i < 32
      · rw [if_pos h1, if_neg hp.2]
      · rw [if_neg h1, if_pos (by omega), if_neg hp.2]
    · simp only [spec_VisibleOk.l0]
      rw [if_neg (by omega)]
theorem impl_VisibleOk_is (s : ByteArray) (hs : s.size ≤ 4611686018427387904) : impl_VisibleOk.f s = some (visOk s) := by
  unfold impl_VisibleOk.f visOk
  by_cases h : (s.size : Int) ≤ 400
  · rw [if_pos h, all_vis s (by omega), decide_eq_true (by omega), Bool.true_and]; rfl
  · rw [if_neg h, decide_eq_false (by omega), Bool.false_and]
/-- A byte in a quotation. -/
def quoB (c : Int) : List Int := if c = 34 ∨ c = 92 then [92, c] else [c]
def quoI (l : List Int) : List Int := 34 :: (l.flatMap quoB ++ [34])
def quoT (s : ByteArray) : ByteArray := strOfNums (quoI (bytesOf s))
theorem quoB_range (c : Int) (h : 0 ≤ c ∧ c ≤ 255) : ∀ x ∈ quoB c, 0 ≤ x ∧ x ≤ 255 := by
  unfold quoB
  split
  · intro x hx
    simp only [List.mem_cons, List.not_mem_nil, or_false] at hx
    omega
  · intro x hx
    rw [List.mem_singleton.1 hx]
    exact h
theorem quo_bytes (s : ByteArray) : bytesOf (quoT s) = quoI (bytesOf s) := by
  unfold quoT
  refine bytes_nums _ fun c hc => ?_
  unfold quoI at hc
  rcases List.mem_cons.1 hc with rfl | hc
  · decide
  · rcases List.mem_append.1 hc with hc | hc
    · obtain ⟨b, hb, hcb⟩ := List.mem_flatMap.1 hc
      exact quoB_range b (mem_bytes hb) c hcb
    · rw [List.mem_singleton.1 hc]
      decide
theorem quoB_len (c : Int) : (quoB c).length ≤ 2 := by unfold quoB; split <;> simp
theorem spec_l1Quoted_ev (s : ByteArray) (hs : s.size ≤ 1048576) : Ev (fun k => spec_l1Quoted.f k s) (quoT s) := by
  unfold spec_l1Quoted.f
  have h := ev_run (σ := List Int) (β := ByteArray) s (fun st i => st.length ≤ 2 * i + 1) (fun st c => .inl (st ++ quoB c)) (fun st => strOfNums (st ++ [34])) (fun k st i => spec_l1Quoted.l0 k s st i) 0
    (fun k st i _ hi hI => ⟨fun st' e => by
      obtain rfl := Sum.inl.inj e
      have hl := quoB_len (bt s i)
      refine ⟨?_, by rw [List.length_append]; omega⟩
      simp only [spec_l1Quoted.l0]
      rw [if_pos (by omega), if_pos (by omega), wrap_next hi (by omega)]
      unfold quoB
      have z1 : st.length < 140737488355328 := by omega
      have z2 : (st ++ [92]).length < 140737488355328 := by rw [List.length_append, List.length_singleton]; omega
      by_cases c : bt s (i : Int) = 34 ∨ bt s (i : Int) = 92
      · rw [if_pos c]
        have e2 : st ++ [92, bt s (i : Int)] = st ++ [92] ++ [bt s (i : Int)] := by simp
        rw [e2]
        by_cases c34 : bt s (i : Int) = 34
        · rw [if_pos c34, if_pos z1]
          simp only [Option.bind_some]
          rw [if_pos z2]
        · rw [if_neg c34, if_pos (c.resolve_left c34), if_pos z1]
          simp only [Option.bind_some]
          rw [if_pos z2]
      · rw [if_neg c, if_neg (fun x => c (.inl x)), if_neg (fun x => c (.inr x)), if_pos z1], fun b e => by cases e⟩)
    (fun k st _ hI => by simp only [spec_l1Quoted.l0]; rw [if_neg (by omega), if_pos (by omega)]) [34] (by simp)
  rw [runL_flat] at h
  unfold quoT quoI
  rw [List.singleton_append, List.cons_append] at h
  exact h
theorem escL_ints (l : List UInt8) : (escL l).map (fun b => ((b.toNat : Nat) : Int)) = (l.map fun b => ((b.toNat : Nat) : Int)).flatMap quoB := by
  unfold escL
  induction l with
  | nil => rfl
  | cons b l ih =>
    rw [List.flatMap_cons, List.map_append, ih, List.map_cons, List.flatMap_cons]
    congr 1
    unfold quoB escB
    have h34 : ((b.toNat : Nat) : Int) = 34 ↔ b = 34 := ⟨fun h => UInt8.toNat_inj.1 (by show b.toNat = 34; omega), fun h => by rw [h]; rfl⟩
    have h92 : ((b.toNat : Nat) : Int) = 92 ↔ b = 92 := ⟨fun h => UInt8.toNat_inj.1 (by show b.toNat = 92; omega), fun h => by rw [h]; rfl⟩
    by_cases h1 : b = 34
    · subst h1; rfl
    · by_cases h2 : b = 92
      · subst h2; rfl
      · rw [if_neg (by simp [h1, h2]), if_neg (by rw [h34, h92]; simp [h1, h2])]
        rfl
theorem impl_quoted_is (s : ByteArray) (hs : s.size ≤ 1048576) : impl_quoted.f s = some (quoT s) := by
  unfold impl_quoted.f
  rw [if_pos (by omega)]
  congr 1
  apply bytes_inj
  rw [quo_bytes, bytes_append, bytes_append, bytes_ofList (escL s.data.toList), escL_ints]
  rfl
def quotedR (s : ByteArray) : ByteArray := if visOk s = true then quoT s else ⟨#[]⟩
theorem spec_Quoted_ev (s : ByteArray) (hs : s.size ≤ 1048576) : Ev (fun k => spec_Quoted.f k s) (quotedR s) := by
  unfold spec_Quoted.f quotedR
  refine Ev.bind (spec_VisibleOk_ev s (by omega)) ?_
  by_cases v : visOk s = true
  · simp only [if_pos v]
    exact Ev.bind (spec_l1Quoted_ev s hs) (Ev.now _)
  · simp only [if_neg v]
    exact Ev.now _
theorem impl_Quoted_is (s : ByteArray) (hs : s.size ≤ 1048576) : impl_Quoted.f s = some (quotedR s) := by
  unfold impl_Quoted.f quotedR
  rw [impl_VisibleOk_is s (by omega)]
  simp only [Option.bind_some]
  by_cases v : visOk s = true
  · rw [if_pos v, if_pos v, impl_quoted_is s hs]
    rfl
  · rw [if_neg v, if_neg v]
/-- A quotation's bytes without backslashes; the last byte is left. -/
def unqF : List Int → List Int
  | a :: b :: l => if a = 92 then b :: unqF l else a :: unqF (b :: l)
  | _ => []
theorem unqF_quo (l : List Int) (x : Int) : unqF (l.flatMap quoB ++ [x]) = l := by
  induction l with
  | nil => rfl
  | cons c l ih =>
    rw [List.flatMap_cons]
    unfold quoB
    by_cases h : c = 34 ∨ c = 92
    · rw [if_pos h]
      show unqF (92 :: c :: (l.flatMap quoB ++ [x])) = _
      rw [unqF, if_pos rfl, ih]
    · rw [if_neg h]
      obtain ⟨a, r, e⟩ : ∃ a r, l.flatMap quoB ++ [x] = a :: r := by
        cases hq : l.flatMap quoB ++ [x] with
        | nil => exact absurd (congrArg List.length hq) (by rw [List.length_append]; simp)
        | cons a r => exact ⟨a, r, rfl⟩
      show unqF (c :: (l.flatMap quoB ++ [x])) = _
      rw [e, unqF, if_neg (fun h2 => h (.inr h2)), ← e, ih]
theorem unqF_len (n : Nat) : ∀ l : List Int, l.length ≤ n → (unqF l).length ≤ l.length := by
  induction n using Nat.strongRecOn with
  | _ n ih =>
    intro l hl
    match l with
    | [] => exact Nat.le_refl _
    | [a] => exact Nat.zero_le _
    | a :: b :: l =>
      simp only [List.length_cons] at hl
      rw [unqF]
      split
      · have := ih (n - 2) (by omega) l (by omega)
        simp only [List.length_cons]
        omega
      · have := ih (n - 1) (by omega) (b :: l) (by simp only [List.length_cons]; omega)
        simp only [List.length_cons] at this ⊢
        omega
def unqT (s : ByteArray) : ByteArray := strOfNums (unqF ((bytesOf s).drop 1))
def unqR (s t : ByteArray) : ByteArray × Bool := if visOk t = true ∧ quoT t = s then (t, true) else (⟨#[]⟩, false)
theorem unq_loop {g : Nat → ByteArray → List Int → Int → Option (ByteArray × Bool)} (s : ByteArray) (hs : s.size ≤ 1048576)
    (stop : ∀ (x : List Int) (i : Int), ¬ i < wrap64 ((s.size : Int) - 1) → x.length ≤ 1048576 → Ev (fun k => g k s x i) (unqR s (strOfNums x)))
    (esc : ∀ k (x : List Int) (i : Nat), i + 1 < s.size → bt s (i : Int) = 92 → x.length ≤ 1048576 → g (k + 1) s x (i : Int) = g k s (x ++ [bt s ((i + 1 : Nat) : Int)]) ((i + 2 : Nat) : Int))
    (plain : ∀ k (x : List Int) (i : Nat), i + 1 < s.size → ¬ bt s (i : Int) = 92 → x.length ≤ 1048576 → g (k + 1) s x (i : Int) = g k s (x ++ [bt s (i : Int)]) ((i + 1 : Nat) : Int)) :
    ∀ (n i : Nat) (x : List Int), s.size - i ≤ n → x.length + 1 ≤ i → i ≤ s.size + 1 → Ev (fun k => g k s x (i : Int)) (unqR s (strOfNums (x ++ unqF ((bytesOf s).drop i)))) := by
  intro n
  induction n using Nat.strongRecOn with
  | _ n ih =>
    intro i x hn hx hi
    by_cases hlt : i + 1 < s.size
    · have e := drop_bt s i (by omega)
      have e2 := drop_bt s (i + 1) (by omega)
      by_cases h92 : bt s (i : Int) = 92
      · have := ih (n - 2) (by omega) (i + 2) (x ++ [bt s ((i + 1 : Nat) : Int)]) (by omega) (by rw [List.length_append, List.length_singleton]; omega) (by omega)
        rw [e, e2, unqF, if_pos h92]
        rw [List.append_assoc, List.singleton_append] at this
        exact Ev.step (fun k => esc k x i hlt h92 (by omega)) this
      · have := ih (n - 1) (by omega) (i + 1) (x ++ [bt s (i : Int)]) (by omega) (by rw [List.length_append, List.length_singleton]; omega) (by omega)
        rw [e2, List.append_assoc, List.singleton_append] at this
        rw [e, e2, unqF, if_neg h92]
        exact Ev.step (fun k => plain k x i hlt h92 (by omega)) this
    · have hw : wrap64 ((s.size : Int) - 1) = (s.size : Int) - 1 := wrap_in (by omega) (by omega)
      have hnil : unqF ((bytesOf s).drop i) = [] := by
        have hl : ((bytesOf s).drop i).length ≤ 1 := by rw [List.length_drop, bytesOf_length]; omega
        match (bytesOf s).drop i, hl with
        | [], _ => rfl
        | [a], _ => rfl
        | a :: b :: l, h => simp at h
      rw [hnil, List.append_nil]
      exact stop x i (by rw [hw]; omega) (by omega)
theorem spec_Unquoted_ev (s : ByteArray) (hs : s.size ≤ 1048576) : Ev (fun k => spec_Unquoted.f k s) (unqR s (unqT s)) := by
  have hw1 : wrap64 ((s.size : Int) - 1) = (s.size : Int) - 1 := wrap_in (by omega) (by omega)
  unfold spec_Unquoted.f unqT
  have := unq_loop (g := fun k s x i => spec_Unquoted.l0 k s x i) s hs (fun x i hi hx => ?_) (fun k x i hi h hx => ?_) (fun k x i hi h hx => ?_) s.size 1 [] (by omega) (Nat.le_refl _) (by omega)
  · rw [List.nil_append] at this
    exact this
  · refine Ev.step (fun k => by simp only [spec_Unquoted.l0]; rw [if_neg hi]) ?_
    have hz : (strOfNums x).size ≤ 1048576 := by rw [strOfNums_size]; exact hx
    refine Ev.bind (spec_VisibleOk_ev _ (by omega)) ?_
    by_cases v : visOk (strOfNums x) = true
    · simp only [if_pos v]
      refine Ev.bind (spec_l1Quoted_ev _ hz) ?_
      by_cases q : quoT (strOfNums x) = s
      · rw [show unqR s (strOfNums x) = (strOfNums x, true) from if_pos ⟨v, q⟩]
        simp only [q, if_true]
        exact Ev.now _
      · rw [show unqR s (strOfNums x) = (⟨#[]⟩, false) from if_neg (fun h => q h.2)]
        have q2 : ¬ (quoT (strOfNums x)).toList = s.toList := fun h => q (eq_of_toList h)
        simp only [if_neg q2]
        exact Ev.now _
    · simp only [if_neg v]
      rw [show unqR s (strOfNums x) = (⟨#[]⟩, false) from if_neg (fun h => v h.1)]
      exact Ev.now _
  · simp only [spec_Unquoted.l0]
    rw [if_pos (by rw [hw1]; omega), if_pos (by omega), if_pos (by omega), if_pos h, wrap_in (i := (i : Int) + 1) (by omega) (by omega), if_pos (by omega), if_pos (by omega), if_pos (by omega), wrap_in (i := (i : Int) + 1 + 1) (by omega) (by omega)]
    rfl
  · simp only [spec_Unquoted.l0]
    rw [if_pos (by rw [hw1]; omega), if_pos (by omega), if_pos (by omega), if_neg h, if_pos (by omega), wrap_in (i := (i : Int) + 1) (by omega) (by omega)]
    rfl
theorem impl_Unquoted_ev (s : ByteArray) (hs : s.size ≤ 1048576) : Ev (fun k => impl_Unquoted.f k s) (unqR s (unqT s)) := by
  have hw1 : wrap64 ((s.size : Int) - 1) = (s.size : Int) - 1 := wrap_in (by omega) (by omega)
  unfold impl_Unquoted.f unqT
  have := unq_loop (g := fun k s x i => impl_Unquoted.l0 k s x i) s hs (fun x i hi hx => ?_) (fun k x i hi h hx => ?_) (fun k x i hi h hx => ?_) s.size 1 [] (by omega) (Nat.le_refl _) (by omega)
  · rw [List.nil_append] at this
    exact this
  · have hz : (strOfNums x).size ≤ 1048576 := by rw [strOfNums_size]; exact hx
    refine Ev.step (fun k => by simp only [impl_Unquoted.l0]; rw [if_neg hi, impl_VisibleOk_is _ (by omega)]) ?_
    simp only [Option.bind_some]
    by_cases v : visOk (strOfNums x) = true
    · simp only [if_pos v]
      rw [impl_quoted_is _ hz]
      simp only [Option.bind_some]
      by_cases q : quoT (strOfNums x) = s
      · rw [show unqR s (strOfNums x) = (strOfNums x, true) from if_pos ⟨v, q⟩]
        simp only [q, if_true]
        exact Ev.now _
      · rw [show unqR s (strOfNums x) = (⟨#[]⟩, false) from if_neg (fun h => q h.2)]
        have q2 : ¬ (quoT (strOfNums x)).toList = s.toList := fun h => q (eq_of_toList h)
        simp only [if_neg q2]
        exact Ev.now _
    · simp only [if_neg v]
      rw [show unqR s (strOfNums x) = (⟨#[]⟩, false) from if_neg (fun h => v h.1)]
      exact Ev.now _
  · simp only [impl_Unquoted.l0]
    rw [if_pos (by rw [hw1]; omega), if_pos (by omega), if_pos (by omega), if_pos h, wrap_in (i := (i : Int) + 1) (by omega) (by omega), if_pos (by omega), if_pos (by omega), if_pos (by omega), wrap_in (i := (i : Int) + 1 + 1) (by omega) (by omega)]
    rfl
  · simp only [impl_Unquoted.l0]
    rw [if_pos (by rw [hw1]; omega), if_pos (by omega), if_pos (by omega), if_neg h, if_pos (by omega), wrap_in (i := (i : Int) + 1) (by omega) (by omega)]
    rfl
/-- A text is unquoted from its quotation. -/
theorem unq_quo (s : ByteArray) (hv : visOk s = true) : unqR (quoT s) (unqT (quoT s)) = (s, true) := by
  have e : unqT (quoT s) = s := by
    unfold unqT
    rw [quo_bytes]
    unfold quoI
    rw [List.drop_succ_cons, List.drop_zero, unqF_quo, nums_bytes]
  rw [e]
  unfold unqR
  rw [if_pos ⟨hv, rfl⟩]
def tokOk (s : ByteArray) : Bool := decide (1 ≤ s.size) && decide (s.size ≤ 64) && (bytesOf s).all tokB
theorem spec_TokenOk_ev (s : ByteArray) (hs : s.size ≤ 4611686018427387904) : Ev (fun k => spec_TokenOk.f k s) (tokOk s) := by
  unfold spec_TokenOk.f tokOk
  by_cases h : (s.size : Int) < 1
  · simp only [if_pos h]
    rw [decide_eq_false (by omega : ¬ 1 ≤ s.size)]
    exact Ev.step (f := fun _ => some false) (fun k => by simp only [spec_TokenOk.j0, if_true]) (Ev.now _)
  · simp only [if_neg h]
    rw [decide_eq_true (by omega : 1 ≤ s.size)]
    by_cases h' : (s.size : Int) > 64
    · rw [decide_eq_true h', decide_eq_false (by omega : ¬ s.size ≤ 64)]
      exact Ev.step (f := fun _ => some false) (fun k => by simp only [spec_TokenOk.j0, if_true]) (Ev.now _)
    · rw [decide_eq_false h', decide_eq_true (by omega : s.size ≤ 64), Bool.true_and, Bool.true_and]
      refine Ev.step (f := fun k => spec_TokenOk.l0 k s 0) (fun k => by simp only [spec_TokenOk.j0, Bool.false_eq_true, if_false]) ?_
      refine ev_all s tokB (fun k i => spec_TokenOk.l0 k s i) 0 (fun k i _ hi hp => ?_) (fun k i _ hi hp => ?_) (fun k _ => ?_)
      · simp only [spec_TokenOk.l0]
        rw [if_pos (by omega), if_pos (by omega), spec_l1Token_is _ (bt_range s i).1 (bt_range s i).2, hp, wrap_next hi hs]
        rfl
      · simp only [spec_TokenOk.l0]
        rw [if_pos (by omega), if_pos (by omega), spec_l1Token_is _ (bt_range s i).1 (bt_range s i).2, hp]
        rfl
      · simp only [spec_TokenOk.l0]
        rw [if_neg (by omega)]
theorem impl_TokenOk_is (s : ByteArray) (hs : s.size ≤ 4611686018427387904) : impl_TokenOk.f s = some (tokOk s) := by
  unfold impl_TokenOk.f tokOk
  by_cases h : (s.size : Int) ≥ 1
  · rw [if_pos h]
    by_cases h' : (s.size : Int) ≤ 64
    · rw [if_pos h', all_tok s (by omega), decide_eq_true (by omega : 1 ≤ s.size), decide_eq_true (by omega : s.size ≤ 64), Bool.true_and, Bool.true_and]; rfl
    · rw [if_neg h', decide_eq_false (by omega : ¬ s.size ≤ 64), Bool.and_false]; rfl
  · rw [if_neg h, decide_eq_false (by omega : ¬ 1 ≤ s.size)]; rfl
def blaB (c : Int) : Bool := decide (c = 32) || decide (c = 9)
/-- A list without the blanks at its beginning, at its end. -/
def dropL (l : List Int) : List Int := l.dropWhile blaB
def dropR (l : List Int) : List Int := (l.reverse.dropWhile blaB).reverse
def trimN (l : List Int) : List Int := dropL (dropR l)
theorem dropR_nil : dropR [] = [] := rfl
theorem dropR_snoc (l : List Int) (c : Int) : dropR (l ++ [c]) = if blaB c = true then dropR l else l ++ [c] := by
  unfold dropR
  rw [List.reverse_append, List.reverse_singleton, List.singleton_append, List.dropWhile_cons]
  split
  · rfl
  · simp
theorem dropL_cons (l : List Int) (c : Int) : dropL (c :: l) = if blaB c = true then dropL l else c :: l := by
  unfold dropL
  rw [List.dropWhile_cons]
theorem drop_comm (l : List Int) : dropR (dropL l) = dropL (dropR l) := by
  induction l with
  | nil => rfl
  | cons c cs ih =>
    rw [dropL_cons]
    by_cases h : blaB c = true
    · rw [if_pos h, ih]
      have key : ∀ l : List Int, dropL (dropR (c :: l)) = dropL (dropR l) := by
        intro l
        have aux : ∀ n : Nat, ∀ l : List Int, l.length = n → dropL (dropR (c :: l)) = dropL (dropR l) := by
          intro n
          induction n with
          | zero =>
            intro l hl
            obtain rfl := List.eq_nil_of_length_eq_zero hl
            have : dropR [c] = [] := by
              have := dropR_snoc [] c
              rw [List.nil_append, if_pos h] at this
              exact this
            rw [this, dropR_nil]
          | succ n ihn =>
            intro l hl
            obtain ⟨l', x, rfl⟩ : ∃ l' x, l = l' ++ [x] := ⟨l.dropLast, l.getLast (by intro e; rw [e] at hl; cases hl), (List.dropLast_concat_getLast _).symm⟩
            rw [← List.cons_append, dropR_snoc, dropR_snoc]
            by_cases hx : blaB x = true
            · rw [if_pos hx, if_pos hx]
              exact ihn l' (by simpa using hl)
            · rw [if_neg hx, if_neg hx, List.cons_append, dropL_cons, if_pos h]
        exact aux _ l rfl
      exact (key cs).symm
    · rw [if_neg h]
      have : ∃ l', dropR (c :: cs) = c :: l' := by
        have aux : ∀ n : Nat, ∀ l : List Int, l.length = n → ∃ l', dropR (c :: l) = c :: l' := by
          intro n
          induction n with
          | zero =>
            intro l hl
            obtain rfl := List.eq_nil_of_length_eq_zero hl
            have := dropR_snoc [] c
            rw [List.nil_append, if_neg h] at this
            exact ⟨[], this⟩
          | succ n ihn =>
            intro l hl
            obtain ⟨l', x, rfl⟩ : ∃ l' x, l = l' ++ [x] := ⟨l.dropLast, l.getLast (by intro e; rw [e] at hl; cases hl), (List.dropLast_concat_getLast _).symm⟩
            rw [← List.cons_append, dropR_snoc]
            by_cases hx : blaB x = true
            · rw [if_pos hx]
              exact ihn l' (by simpa using hl)
            · rw [if_neg hx]
              exact ⟨l' ++ [x], rfl⟩
        exact aux _ cs rfl
      obtain ⟨l', e⟩ := this
      rw [e, dropL_cons, if_neg h]
theorem spec_l1Blank_is (c : Int) : spec_l1Blank.f c = some (blaB c) := by
  unfold spec_l1Blank.f blaB
  by_cases h : c = 32
  · simp [h]
  · by_cases h2 : c = 9 <;> simp [h, h2]
theorem spec_Trimmed_right (n : Nat) : ∀ s : ByteArray, s.size = n → n ≤ 4611686018427387904 → Ev (fun k => spec_Trimmed.l1 k s) (strOfNums (dropR (bytesOf s))) := by
  induction n with
  | zero =>
    intro s hs _
    refine Ev.step (f := fun _ => some s) (fun k => ?_) (ev_eq (Ev.now _) ?_)
    · simp only [spec_Trimmed.l1]
      rw [if_pos ((toList_nil s).2 hs)]
    · rw [bytes_nil s hs, dropR_nil, ← bytes_nil s hs, nums_bytes]
  | succ n ih =>
    intro s hs hn
    have e := bytes_last s (by omega)
    have hi : wrap64 ((s.size : Int) - 1) = ((s.size - 1 : Nat) : Int) := by rw [wrap_in (by omega) (by omega)]; omega
    rw [e, dropR_snoc, ← e]
    by_cases hb : blaB (bt s ((s.size - 1 : Nat) : Int)) = true
    · rw [if_pos hb]
      refine Ev.step (f := fun k => spec_Trimmed.l1 k (s.extract 0 (s.size - 1))) (fun k => ?_) (ih _ (by rw [size_extract s _ _ (by omega)]; omega) (by omega))
      simp only [spec_Trimmed.l1]
      rw [if_neg (by rw [toList_nil]; omega), hi, if_pos (by omega), if_pos (by omega), spec_l1Blank_is]
      simp only [Option.bind_some]
      rw [if_pos hb, if_pos (by omega), Int.toNat_natCast]
    · rw [if_neg hb, nums_bytes]
      refine Ev.step (f := fun _ => some s) (fun k => ?_) (Ev.now _)
      simp only [spec_Trimmed.l1]
      rw [if_neg (by rw [toList_nil]; omega), hi, if_pos (by omega), if_pos (by omega), spec_l1Blank_is]
      simp only [Option.bind_some]
      rw [if_neg hb]
theorem spec_Trimmed_left (n : Nat) : ∀ s : ByteArray, s.size = n → n ≤ 4611686018427387904 → Ev (fun k => spec_Trimmed.l0 k s) (strOfNums (dropR (dropL (bytesOf s)))) := by
  induction n with
  | zero =>
    intro s hs h0
    refine Ev.step (f := fun k => spec_Trimmed.j1 k s) (fun k => ?_) (Ev.step (f := fun k => spec_Trimmed.l1 k s) (fun k => ?_) (ev_eq (spec_Trimmed_right 0 s hs h0) ?_))
    · simp only [spec_Trimmed.l0]
      rw [if_pos ((toList_nil s).2 hs)]
    · simp only [spec_Trimmed.j1]
    · rw [bytes_nil s hs]; rfl
  | succ n ih =>
    intro s hs hn
    have e := bytes_first s (by omega)
    rw [e, dropL_cons, ← e]
    by_cases hb : blaB (bt s 0) = true
    · rw [if_pos hb]
      refine Ev.step (f := fun k => spec_Trimmed.l0 k (s.extract 1 s.size)) (fun k => ?_) (ih _ (by rw [size_extract s _ _ (by omega)]; omega) (by omega))
      simp only [spec_Trimmed.l0]
      rw [if_neg (by rw [toList_nil]; omega), if_pos (by omega), spec_l1Blank_is]
      simp only [Option.bind_some]
      rw [if_pos hb, if_pos (by omega)]
    · rw [if_neg hb]
      refine Ev.step (f := fun k => spec_Trimmed.j1 k s) (fun k => ?_) (Ev.step (f := fun k => spec_Trimmed.l1 k s) (fun k => ?_) (spec_Trimmed_right _ s rfl (by omega)))
      · simp only [spec_Trimmed.l0]
        rw [if_neg (by rw [toList_nil]; omega), if_pos (by omega), spec_l1Blank_is]
        simp only [Option.bind_some]
        rw [if_neg hb]
      · simp only [spec_Trimmed.j1]
/-- A text without the blanks at its ends. -/
def trimT (s : ByteArray) : ByteArray := strOfNums (trimN (bytesOf s))
theorem spec_Trimmed_ev (s : ByteArray) (hs : s.size ≤ 4611686018427387904) : Ev (fun k => spec_Trimmed.f k s) (trimT s) := by
  unfold spec_Trimmed.f trimT trimN
  rw [← drop_comm]
  exact spec_Trimmed_left _ s rfl hs
theorem bla_u8 (b : UInt8) : ([32, 9] : List UInt8).contains b = blaB (b.toNat : Int) := by
  have n32 : (b.toNat : Int) = 32 → b = 32 := fun h => by
    refine UInt8.toNat_inj.1 ?_
    have e : b.toNat = 32 := by omega
    rw [e]; rfl
  have n9 : (b.toNat : Int) = 9 → b = 9 := fun h => by
    refine UInt8.toNat_inj.1 ?_
    have e : b.toNat = 9 := by omega
    rw [e]; rfl
  have h1 : b = 32 ↔ (b.toNat : Int) = 32 := ⟨fun h => by rw [h]; rfl, n32⟩
  have h2 : b = 9 ↔ (b.toNat : Int) = 9 := ⟨fun h => by rw [h]; rfl, n9⟩
  unfold blaB
  rw [show decide ((b.toNat : Int) = 32) = decide (b = 32) from decide_eq_decide.2 h1.symm, show decide ((b.toNat : Int) = 9) = decide (b = 9) from decide_eq_decide.2 h2.symm]
  by_cases a : b = 32
  · simp [a]
  · by_cases c : b = 9 <;> simp [a, c]
theorem dropW_map (l : List UInt8) : (l.dropWhile (([32, 9] : List UInt8).contains ·)).map (fun b => (b.toNat : Int)) = dropL (l.map fun b => (b.toNat : Int)) := by
  induction l with
  | nil => rfl
  | cons b l ih =>
    rw [List.map_cons, dropL_cons, List.dropWhile_cons, bla_u8]
    split
    · exact ih
    · rfl
theorem impl_Trimmed_is (s : ByteArray) (hs : s.size ≤ 9223372036854775807) : impl_Trimmed.f s = some (trimT s) := by
  unfold impl_Trimmed.f strings_Trim.f
  rw [if_pos ⟨hs, by decide, by decide⟩]
  refine congrArg some (bytes_inj ?_)
  have h0 : ∀ c ∈ trimN (bytesOf s), 0 ≤ c ∧ c ≤ 255 := by
    intro c hc
    refine mem_bytes (s := s) ?_
    unfold trimN dropL dropR at hc
    have h1 := (List.dropWhile_sublist _).subset hc
    rw [List.mem_reverse] at h1
    have h2 := (List.dropWhile_sublist _).subset h1
    rwa [List.mem_reverse] at h2
  unfold trimT
  rw [bytes_nums _ h0, bytes_ofList]
  unfold Lib.trimS Lib.trimLeftS Lib.trimRightS trimN dropR
  rw [show ((⟨#[32, 9]⟩ : ByteArray).data.toList) = ([32, 9] : List UInt8) from rfl, dropW_map, List.map_reverse, dropW_map, List.map_reverse]
  rfl
end Go.Proofs.YtpgpjgdcfhodgaaGreatDoor.Q
namespace Go.Proofs.YtpgpjgdcfhodgaaGreatDoor.Pure
set_option linter.unusedVariables false
set_option linter.unusedSimpArgs false
open Go.RowKit Go.Proofs.YtpgpjgdcfhodgaaGreatDoor.P Go.Proofs.YtpgpjgdcfhodgaaGreatDoor.Q Go.Proofs.YtpgpjgdcfhodgaaGreatDoorW.PrintWords
theorem ev_k {α : Type} {g : Nat → Option α} {r : α} (h : Ev g r) {f : Nat → Option α} (e : ∀ k, f (k + 1) = g k) : Ev f r := Ev.step e h
theorem visible_loop (d : Nat) : ∀ (x : List Int) (i : Nat), i + d = x.length → x.length ≤ 500 → TotP (fun k => spec_DrawVisibleOk.l0 k x (i : Int)) (fun r => r.size = x.length) := by
 induction d with
 | zero =>
  intro x i hd hx
  refine TotP.step (f := fun _ => some (strOfNums x)) (fun k => ?_) (TotP.now (strOfNums_size x))
  simp only [spec_DrawVisibleOk.l0]
  rw [if_neg (by omega)]
 | succ d ih =>
  intro x i hd hx
  have hl : (x.set i 97).length = x.length := List.length_set
  refine TotP.step (f := fun k => spec_DrawVisibleOk.l0 k (x.set i 97) ((i + 1 : Nat) : Int)) (fun k => ?_) ((ih (x.set i 97) (i + 1) (by omega) (by omega)).imp fun r hr => by rw [hr, hl])
  simp only [spec_DrawVisibleOk.l0]
  rw [if_pos (by omega), if_pos (by omega), wrap_in (i := (i : Int) + 1) (by omega) (by omega), show ((i : Int)).toNat = i by omega]
  rfl
theorem drawVisible_ok (b : List Int) (hb : b.length ≤ 140737488351232) : TotP (fun k => spec_DrawVisibleOk.f k b) (fun r => r.size ≤ 401) := by
 unfold spec_DrawVisibleOk.f
 refine TotP.bind (new_ok b hb) fun c pc => ?_
 obtain ⟨c0, c1, c2⟩ := c
 obtain ⟨e, p⟩ := pc
 simp only at e p
 subst e
 refine TotP.bind (TotP.of (once_ok _ _ _ 20 p hb)) fun r1 p1 => TotP.ite (fun _ => ?_) fun _ => ?_
 ·
  refine TotP.bind (TotP.of (below_ok _ _ _ 2 p1 hb)) fun r2 p2 => ?_
  have h0 := p2.1
  have h1 := p2.2.1 (by decide)
  rw [wrap_in (i := 400 + r2.1) (by omega) (by omega)]
  refine TotP.ite (fun _ => TotP.ite (fun _ => ?_) (fun c => absurd (by omega) c)) (fun c => absurd (by omega) c)
  have hl : (List.replicate (400 + r2.1).toNat (0 : Int)).length = (400 + r2.1).toNat := List.length_replicate
  exact (visible_loop _ _ 0 (Nat.zero_add _) (by omega)).imp fun r hr => by omega
 ·
  exact TotP.bind (drawText_ok _ hb _ _ p1 _ (by decide) 12 (by decide) (by decide)) fun r2 p2 => TotP.now (by have h : r2.1.size ≤ 12 := p2.2; omega)
theorem drawQuoted_ok (b : List Int) (hb : b.length ≤ 140737488351232) : TotP (fun k => spec_DrawQuoted.f k b) (fun r => r.size ≤ 401) := by
 unfold spec_DrawQuoted.f
 exact TotP.bind (drawVisible_ok b hb) fun r p => TotP.now p
theorem token_loop (b : List Int) (hb : b.length ≤ 140737488351232) (d : Nat) : ∀ (x : ByteArray) (i h : Int), 0 ≤ i → 66 ≤ x.size + d → x.size ≤ 66 → TotP (fun k => spec_DrawTokenOk.l0 k x b i h) (fun r => r.size ≤ 66) := by
 induction d with
 | zero =>
  intro x i h h0 hd hx
  obtain ⟨r, e, p⟩ := below_ok b i h 2 h0 hb
  have h1 := p.1
  have h2 := p.2.1 (by decide)
  refine TotP.step (f := fun _ => some x) (fun k => ?_) (TotP.now hx)
  simp only [spec_DrawTokenOk.l0]
  rw [e]
  simp only [Option.bind_some]
  rw [wrap_in (i := 64 + r.1) (by omega) (by omega), if_neg (by omega)]
 | succ d ih =>
  intro x i h h0 hd hx
  obtain ⟨r, e, p⟩ := below_ok b i h 2 h0 hb
  have h1 := p.1
  have h2 := p.2.1 (by decide)
  by_cases c : (x.size : Int) < 64 + r.1
  ·
   have hz : (x ++ (⟨#[120]⟩ : ByteArray)).size = x.size + 1 := by rw [ByteArray.size_append]; rfl
   refine TotP.step (f := fun k => spec_DrawTokenOk.l0 k (x ++ (⟨#[120]⟩ : ByteArray)) b r.2.1 r.2.2) (fun k => ?_) (ih _ _ _ p.2.2.2 (by omega) (by omega))
   simp only [spec_DrawTokenOk.l0]
   rw [e]
   simp only [Option.bind_some]
   rw [wrap_in (i := 64 + r.1) (by omega) (by omega), if_pos c, if_pos (by omega)]
  ·
   refine TotP.step (f := fun _ => some x) (fun k => ?_) (TotP.now hx)
   simp only [spec_DrawTokenOk.l0]
   rw [e]
   simp only [Option.bind_some]
   rw [wrap_in (i := 64 + r.1) (by omega) (by omega), if_neg c]
theorem drawToken_ok (b : List Int) (hb : b.length ≤ 140737488351232) : TotP (fun k => spec_DrawTokenOk.f k b) (fun r => r.size ≤ 100) := by
 unfold spec_DrawTokenOk.f
 refine TotP.bind (new_ok b hb) fun c pc => ?_
 obtain ⟨c0, c1, c2⟩ := c
 obtain ⟨e, p⟩ := pc
 simp only at e p
 subst e
 refine TotP.bind (TotP.of (once_ok _ _ _ 20 p hb)) fun r1 p1 => TotP.ite (fun _ => ?_) fun _ => ?_
 ·
  have hz : (strOfNums (List.replicate 64 0)).size = 64 := by rw [strOfNums_size, List.length_replicate]
  refine TotP.ite (fun _ => ?_) (fun c => absurd (by decide) c)
  refine TotP.bind (TotP.of ⟨_, rfl, rfl⟩) fun (l : List Int) (e : _ = l) => ?_
  subst e
  refine TotP.ite (fun _ => TotP.now ?_) (fun c => absurd (by omega) c)
  rw [ByteArray.size_append, hz]
  decide
 ·
  refine TotP.bind (TotP.of (once_ok _ _ _ 10 p1 hb)) fun r2 p2 => TotP.ite (fun _ => ?_) fun _ => ?_
  ·
   exact (token_loop _ hb 66 _ _ _ p2 (by omega) (by decide)).imp fun r hr => by omega
  ·
   exact TotP.bind (drawText_ok _ hb _ _ p2 _ (by decide) 8 (by decide) (by decide)) fun r3 p3 => TotP.now (by have h : r3.1.size ≤ 8 := p3.2; omega)
theorem quo_len (l : List Int) : (l.flatMap quoB).length ≤ 2 * l.length := by
 induction l with
 | nil => exact Nat.le_refl _
 | cons c l ih =>
  have := quoB_len c
  rw [List.flatMap_cons, List.length_append, List.length_cons]
  omega
theorem quo_size (s : ByteArray) : (quoT s).size ≤ 2 * s.size + 2 := by
 have := quo_len (bytesOf s)
 rw [bytesOf_length] at this
 unfold quoT quoI
 rw [strOfNums_size, List.length_cons, List.length_append, List.length_singleton]
 omega
theorem quoted_size (s : ByteArray) : (quotedR s).size ≤ 2 * s.size + 2 := by
 unfold quotedR
 split
 ·
  exact quo_size s
 ·
  exact Nat.zero_le _
theorem drawUnquoted_ok (b : List Int) (hb : b.length ≤ 140737488351232) : TotP (fun k => spec_DrawUnquoted.f k b) (fun r => r.size ≤ 1000) := by
 unfold spec_DrawUnquoted.f
 refine TotP.bind (new_ok b hb) fun c pc => ?_
 obtain ⟨c0, c1, c2⟩ := c
 obtain ⟨e, p⟩ := pc
 simp only at e p
 subst e
 refine TotP.bind (drawVisible_ok _ hb) fun r1 p1 => ?_
 have hq := quoted_size r1
 refine TotP.bind (P := fun r => r = quotedR r1) ⟨_, spec_Quoted_ev r1 (by omega), rfl⟩ fun r2 p2 => ?_
 subst p2
 refine TotP.bind (TotP.of (once_ok _ _ _ 2 p hb)) fun r3 p3 => TotP.ite (fun _ => ?_) (fun _ => TotP.now (by omega))
 exact TotP.bind (bend_ok _ hb (quotedR r1) _ (by omega) (by decide) _ _ p3) fun r4 p4 => TotP.now (by have h := p4.1; omega)
theorem drawTrimmed_ok (b : List Int) (hb : b.length ≤ 140737488351232) : TotP (fun k => spec_DrawTrimmed.f k b) (fun r => r.size ≤ 7) := by
 unfold spec_DrawTrimmed.f
 refine TotP.bind (new_ok b hb) fun c pc => ?_
 obtain ⟨c0, c1, c2⟩ := c
 obtain ⟨e, p⟩ := pc
 simp only at e p
 subst e
 exact TotP.bind (drawText_ok _ hb _ _ p _ (by decide) 7 (by decide) (by decide)) fun r1 p1 => TotP.now p1.2
theorem drawLower_ok (b : List Int) (hb : b.length ≤ 140737488351232) : TotP (fun k => spec_DrawLower.f k b) (fun r => r.size ≤ 9) := by
 unfold spec_DrawLower.f
 refine TotP.bind (new_ok b hb) fun c pc => ?_
 obtain ⟨c0, c1, c2⟩ := c
 obtain ⟨e, p⟩ := pc
 simp only at e p
 subst e
 exact TotP.bind (drawText_ok _ hb _ _ p _ (by decide) 9 (by decide) (by decide)) fun r1 p1 => TotP.now p1.2
theorem dropL_tw (l : List Int) : dropL (dropL l) = dropL l := by
 induction l with
 | nil => rfl
 | cons c l ih =>
  rw [dropL_cons]
  by_cases h : blaB c = true
  ·
   rw [if_pos h, ih]
  ·
   rw [if_neg h, dropL_cons, if_neg h]
theorem dropR_is (l : List Int) : dropR l = (dropL l.reverse).reverse := rfl
theorem trimN_tw (l : List Int) : trimN (trimN l) = trimN l := by
 unfold trimN
 rw [drop_comm (dropR l), dropL_tw, dropR_is (dropR l), dropR_is l, List.reverse_reverse, dropL_tw]
theorem trimT_twice (s : ByteArray) : trimT (trimT s) = trimT s := by
 have h0 : ∀ c ∈ trimN (bytesOf s), 0 ≤ c ∧ c ≤ 255 := by
  intro c hc
  refine mem_bytes (s := s) ?_
  unfold trimN dropL dropR at hc
  have h1 := (List.dropWhile_sublist _).subset hc
  rw [List.mem_reverse] at h1
  have h2 := (List.dropWhile_sublist _).subset h1
  rwa [List.mem_reverse] at h2
 unfold trimT
 rw [bytes_nums _ h0, trimN_tw]
theorem trimT_sz (s : ByteArray) : (trimT s).size ≤ s.size := by
 unfold trimT trimN dropL dropR
 rw [strOfNums_size]
 have h1 := (List.dropWhile_sublist blaB (l := ((bytesOf s).reverse.dropWhile blaB).reverse)).length_le
 have h2 := (List.dropWhile_sublist blaB (l := (bytesOf s).reverse)).length_le
 rw [List.length_reverse] at h1 h2
 rw [bytesOf_length] at h2
 omega
def lowU (s : ByteArray) : ByteArray := strOfNums ((bytesOf s).map low8)
theorem lowU_size (s : ByteArray) : (lowU s).size = s.size := by
 unfold lowU
 rw [strOfNums_size, List.length_map, bytesOf_length]
theorem lowU_twice (s : ByteArray) : lowU (lowU s) = lowU s := by
 have h0 : ∀ c ∈ (bytesOf s).map low8, 0 ≤ c ∧ c ≤ 255 := by
  intro c hc
  obtain ⟨b, hb, rfl⟩ := List.mem_map.1 hc
  have := mem_bytes hb
  unfold low8
  split
  ·
   split <;> omega
  ·
   omega
 unfold lowU
 rw [bytes_nums _ h0, List.map_map]
 congr 1
 refine List.map_congr_left fun c _ => ?_
 show low8 (low8 c) = low8 c
 unfold low8
 by_cases a : 65 ≤ c
 ·
  by_cases b : c ≤ 90
  ·
   rw [if_pos a, if_pos b, if_pos (by omega), if_neg (by omega)]
  ·
   rw [if_pos a, if_neg b, if_pos a, if_neg b]
 ·
  rw [if_neg a, if_neg a]
theorem lower_i (s : ByteArray) (hs : s.size ≤ 9223372036854775807) : impl_Lower.f s = some (lowU s) := by unfold impl_Lower.f; rw [if_pos hs]; rfl
theorem lower_s (s : ByteArray) (hs : s.size ≤ 9223372036854775807) : spec_Lower.f s = some (lowU s) := by unfold spec_Lower.f; rw [if_pos hs]; rfl
theorem texts_3 (l : List Int) (hb : l.length ≤ 140737488351232) (u : ByteArray) (f : Bool) (h : f = false → u = ⟨#[]⟩) : Ev (fun k => laws_FnTexts.j3 k l u f false) true := by
 obtain ⟨t, d1, s1⟩ := drawTrimmed_ok l hb
 obtain ⟨w, d2, s2⟩ := drawLower_ok l hb
 have ht := trimT_sz t
 have hw := lowU_size w
 refine ev_k (g := fun k => (spec_DrawTrimmed.f k l).bind fun t119 => ((impl_Trimmed.f t119).bind fun t120 => ((spec_DrawLower.f k l).bind fun t121 => ((spec_Trimmed.f k t119).bind fun t122 => (if t120.toList = t122.toList then ((impl_Trimmed.f t120).bind fun t123 => (if t123.toList = t120.toList then ((impl_Lower.f t121).bind fun t124 => ((spec_Lower.f t121).bind fun t125 => (if t124.toList = t125.toList then ((impl_Lower.f t121).bind fun t126 => ((impl_Lower.f t126).bind fun t127 => ((impl_Lower.f t121).bind fun t128 => (if t127.toList = t128.toList then (if f = true then (some true) else (some (u.toList == ([] : List UInt8)))) else (some false))))) else (some false)))) else (some false))) else (some false)))))) ?_ (fun k => ?_)
 ·
  refine Ev.bind d1 ?_
  simp only [impl_Trimmed_is t (by omega), Option.bind_some]
  refine Ev.bind d2 (Ev.bind (spec_Trimmed_ev t (by omega)) ?_)
  simp only [if_true, impl_Trimmed_is (trimT t) (by omega), Option.bind_some, trimT_twice, lower_i w (by omega), lower_s w (by omega), lower_i (lowU w) (by omega), lowU_twice]
  cases f with
  | true => simp only [if_true]; exact Ev.now _
  | false =>
   rw [h rfl]
   have e : (⟨#[]⟩ : ByteArray).toList = [] := (toList_nil _).2 rfl
   simp only [Bool.false_eq_true, if_false, e]
   exact Ev.now _
 ·
  simp only [laws_FnTexts.j3]
  rw [if_neg (by simp)]
theorem texts_2 (l : List Int) (hb : l.length ≤ 140737488351232) : Ev (fun k => laws_FnTexts.j2 k l) true := by
 obtain ⟨t, d1, s1⟩ := drawUnquoted_ok l hb
 have hr : ∀ r, r = unqR t (unqT t) → (r.2 = true → visOk r.1 = true ∧ quoT r.1 = t) ∧ (r.2 = false → r.1 = ⟨#[]⟩) := by
  intro r e
  unfold unqR at e
  split at e
  ·
   next h => subst e; exact ⟨fun _ => h, fun h => by simp at h⟩
  ·
   subst e; exact ⟨fun h => by simp at h, fun _ => rfl⟩
 have h1 := impl_Unquoted_ev t (by omega)
 have h2 := spec_Unquoted_ev t (by omega)
 generalize er : unqR t (unqT t) = r at h1 h2
 obtain ⟨hr1, hr2⟩ := hr r er.symm
 refine ev_k (g := fun k => (spec_DrawUnquoted.f k l).bind fun t113 => ((impl_Unquoted.f k t113).bind fun bt114 => ((spec_Unquoted.f k t113).bind fun bt116 => (if (bt114.2 != bt116.2) = true then (laws_FnTexts.j3 k l bt114.1 bt114.2 true) else (if bt114.1.toList = bt116.1.toList then (if bt114.2 = true then ((impl_Quoted.f bt114.1).bind fun t118 => (laws_FnTexts.j3 k l bt114.1 bt114.2 (t118.toList != t113.toList))) else (laws_FnTexts.j3 k l bt114.1 bt114.2 false)) else (laws_FnTexts.j3 k l bt114.1 bt114.2 true)))))) ?_ (fun k => ?_)
 ·
  refine Ev.bind d1 (Ev.bind h1 (Ev.bind h2 ?_))
  simp only [if_true, bne_self_eq_false, Bool.false_eq_true, if_false]
  have h3 := texts_3 l hb r.1 r.2 hr2
  by_cases c : r.2 = true
  ·
   have hz : r.1.size ≤ 400 := by
    have := (hr1 c).1
    unfold visOk at this
    simp only [Bool.and_eq_true, decide_eq_true_eq] at this
    exact this.1
   have e : quotedR r.1 = t := by unfold quotedR; rw [if_pos (hr1 c).1, (hr1 c).2]
   simp only [if_pos c]
   simp only [impl_Quoted_is r.1 (by omega), Option.bind_some, e, bne_self_eq_false]
   exact h3
  ·
   simp only [if_neg c]
   exact h3
 ·
  simp only [laws_FnTexts.j2]
theorem quo_ne (s : ByteArray) : ((quotedR s).toList != ([] : List UInt8)) = visOk s := by
 unfold quotedR
 by_cases v : visOk s = true
 ·
  rw [if_pos v, v]
  have : ¬ (quoT s).toList = [] := by
   rw [toList_nil]
   unfold quoT quoI
   rw [strOfNums_size, List.length_cons]
   omega
  simp [this]
 ·
  rw [if_neg v]
  have e : (⟨#[]⟩ : ByteArray).toList = [] := (toList_nil _).2 rfl
  rw [e]
  cases h : visOk s with
  | true => exact absurd h v
  | false => rfl
theorem texts_0 (l : List Int) (hb : l.length ≤ 140737488351232) (q : ByteArray) (hq : q.size ≤ 401) : Ev (fun k => laws_FnTexts.j0 k l q (quotedR q) false) true := by
 have hj : Ev (fun k => laws_FnTexts.j1 k l q (quotedR q) false) true := by
  refine ev_k (texts_2 l hb) (fun k => ?_)
  simp only [laws_FnTexts.j1]
  rw [if_neg (by simp)]
 by_cases c : (quotedR q).toList = ([] : List UInt8)
 ·
  refine ev_k hj (fun k => ?_)
  simp only [laws_FnTexts.j0]
  rw [if_neg (by simp), if_pos c]
 ·
  refine ev_k (g := fun k => laws_FnTexts.j1 k l q (quotedR q) (decide ((q.size : Int) < 400))) ?_ (fun k => ?_)
  ·
   by_cases c2 : (q.size : Int) < 400
   ·
    rw [decide_eq_true c2]
    have v : visOk q = true := by rw [← quo_ne]; simp [c]
    have e : quotedR q = quoT q := if_pos v
    have hz := quo_size q
    have hu := impl_Unquoted_ev (quoT q) (by omega)
    rw [unq_quo q v] at hu
    refine ev_k (g := fun k => (impl_Unquoted.f k (quotedR q)).bind fun bt111 => (if bt111.2 = true then (if bt111.1.toList = q.toList then (laws_FnTexts.j2 k l) else (some false)) else (some false))) ?_ (fun k => ?_)
    ·
     rw [e]
     refine Ev.bind hu ?_
     simp only [if_true]
     exact texts_2 l hb
    ·
     simp only [laws_FnTexts.j1]
     rw [if_pos trivial]
   ·
    rw [decide_eq_false c2]
    exact hj
  ·
   simp only [laws_FnTexts.j0]
   rw [if_neg (by simp), if_neg c]
theorem FnTexts : laws_FnTexts.Pure := by
 intro l hl hs hx
 have hb : l.length ≤ 140737488351232 := by omega
 obtain ⟨q, d1, s1⟩ := drawQuoted_ok l hb
 obtain ⟨t, d2, s2⟩ := drawToken_ok l hb
 have key : Ev (fun k => laws_FnTexts.f k l) true := by
  unfold laws_FnTexts.f laws_big.f
  simp only [Option.bind_some]
  by_cases hb2 : decide ((l.length : Int) > 4096) = true
  ·
   simp only [if_pos hb2]
   exact Ev.now _
  ·
   simp only [if_neg hb2]
   refine Ev.bind d1 ?_
   simp only [impl_Quoted_is q (by omega), Option.bind_some]
   refine Ev.bind d2 (Ev.bind (spec_Quoted_ev q (by omega)) ?_)
   simp only [if_true, impl_VisibleOk_is q (by omega), Option.bind_some]
   refine Ev.bind (spec_VisibleOk_ev q (by omega)) ?_
   simp only [bne_self_eq_false, Bool.false_eq_true, if_false, impl_TokenOk_is t (by omega), Option.bind_some]
   refine Ev.bind (spec_TokenOk_ev t (by omega)) ?_
   simp only [bne_self_eq_false, Bool.false_eq_true, if_false, quo_ne]
   exact texts_0 l hb q s1
 obtain ⟨K, hK⟩ := key
 exact ⟨K, hK K (Nat.le_refl _)⟩
end Go.Proofs.YtpgpjgdcfhodgaaGreatDoor.Pure
namespace Go.Proofs.YtpgpjgdcfhodgaaGreatDoor.fnTexts
open Go.ChangeShapes Go.WideShapes Go.ChangeAt Go.RowKit
open Go.ChangeMaps (open_string shut_string)
set_option linter.unusedVariables false
theorem own : ownKnob Tryz.prog.godebug = none := by kernel_rfl
theorem laidOut : laidOutB Tryz.prog = true := by kernel_rfl
def IsRow (k : IntKind) (w : World) (a : Option Addr) (len cap : Nat) (zs : List Int) : Prop :=
  (a = none ∧ len = 0 ∧ cap = 0 ∧ zs = []) ∨
  ∃ x, a = some x ∧ len ≤ cap ∧ cap ≤ maxLen ∧ zs.length = cap ∧ (∀ i, i < zs.length → w.cell? (x.add i) = some (.int k (zs.getD i 0))) ∧ ∀ n ∈ zs, (Lit.int k n).wf = true
set_option maxRecDepth 100000 in
theorem lifted (os : Os) (started : os.Started) (H : Type) (enc : TypeId × Value → H) :
    ReturnsInHanded {} Tryz.checked os 3 .any (fun w args => (Rows.fnTextsSpec.pre enc Tryz.prog Tryz.f3 [] false w args ∧ laidMetH Tryz.prog Rows.fnTextsRow.laid w) ∧ sizedMet enc Tryz.prog Tryz.f3 (OpenSpec.ofChange Rows.fnTextsSpec) false w args) (Rows.fnTextsSpec.post enc Tryz.prog Tryz.f3 false true false false) := by
  refine RowAid.handed_both (C := Tryz.checked) (X := fun w _ => laidMetH Tryz.prog Rows.fnTextsRow.laid w) (fun _ _ _ hh h => h.of_heap hh) own started (by kernel_rfl) Tryz.func3
    (ChangeSpec.witness_shaped (enc := enc) (C := Tryz.checked) (os := os) (X := fun w _ => laidMetH Tryz.prog Rows.fnTextsRow.laid w) false (World.laidAll Tryz.prog os Rows.fnTextsRow.laid) #[.slice none 0 0] 8 (World.laidAll_os _ _ _)
      (World.shaped_of_ZipB (by kernel_rfl) (by kernel_rfl)) (by kernel_rfl) (by kernel_rfl) (by kernel_rfl)
      (by rw [MakeChecks.laidMetH_plain _ _ _ (by kernel_rfl)]; exact laidMet_laidAll _ (by kernel_rfl) (by kernel_rfl))) ?_
  intro W base args ds gs before hval0 hW hcnd hsz0 hL hSh _
  have hsz : (DataW.weightsEach Tryz.prog (Tryz.f3.params.toList ++ Rows.fnTextsSpec.plain.varTypes Tryz.prog) (ds ++ gs)).all (· ≤ reachBytes) = true := hsz0
  have hval : ∀ (j : Nat) t v, Tryz.f3.params[j]? = some t → args[j]? = some v → Value.okWide Tryz.prog W .any base t v := hval0
  have hW' := hW
  obtain ⟨p, q, hA0, hV, rfl, hfz, hnd⟩ := hW
  have hA : DataW.TrodAll enc Tryz.prog W 0 (fun _ => true) true Tryz.f3.params.toList args.toList ds p := hA0
  rw [Tryz.params3] at hA hval hsz
  obtain ⟨v0, vs0, d0, ds0, p0, q0, hargs, rfl, rfl, h0, r0⟩ := trodAll_cons hA
  obtain ⟨rfl, rfl, rfl⟩ := trodAll_nil r0
  obtain rfl : args = #[v0] := by cases args; simp_all
  obtain ⟨rfl, rfl⟩ := trodVars_none hV
  obtain ⟨a0, len0, cap0, rfl⟩ := okWide_slice Tryz.underlying22 (hval 0 22 v0 rfl rfl)
  have k0 := h0
  have lt0 : ∀ x ∈ p0, x.block < W.heap.size := by obtain ⟨m, hm⟩ := k0; exact DataW.trod_lt m _ _ _ hm
  obtain ⟨z0, w0⟩ : ∃ zs, IsRow .u8 W a0 len0 cap0 zs := by
    obtain ⟨fuel, hf⟩ := h0
    rcases open_ints Tryz.underlying22 Tryz.underlying5 (by kernel_rfl) hf with ⟨hcs, _⟩ | ⟨x, l, c, zs, hcs, _, hl, hm, hz, _, hcell, hwz⟩
    · simp [Value.cells] at hcs
      obtain ⟨rfl, rfl, rfl⟩ := hcs
      exact ⟨[], .inl ⟨rfl, rfl, rfl, rfl⟩⟩
    · simp [Value.cells] at hcs
      obtain ⟨rfl, rfl, rfl⟩ := hcs
      exact ⟨zs, .inr ⟨_, rfl, hl, hm, by simpa using hz, hcell, hwz⟩⟩
  have y0 : len0 * 1 ≤ 140737488351232 := Go.Proofs.YtpgpjgdcfhodgaaGreatDoorW.PrintWords.sized_ints hsz (j := 0) (t := 22) rfl rfl Tryz.underlying22 Tryz.underlying5 (by kernel_rfl) (by kernel_rfl) h0
  clear hA0 hval0 hsz0 hsz
  refine (P.laws_FnTexts.walk Pure.FnTexts a0 len0 cap0 z0 W w0 y0).mono fun e W' ⟨he, bel⟩ => ?_
  subst he
  exact ⟨_, rfl, _, _, _, [], _, [], hW', trodAll_mk1 (shut_bool Tryz.underlying4 _), (trodAll_cons_mk (Below.trod laidOut (by kernel_rfl) (of_decide_eq_true (by kernel_rfl)) k0 bel lt0) trodAll_mk0), rfl, bel.frame _, fun h => by cases h⟩
theorem over : Rows.fnTextsRow.holds Tryz.pinned (OpenSpec.ofChange Rows.fnTextsSpec) :=
  OpenClaim.holds_of_wide 3 Tryz.f3 rfl rfl rfl rfl rfl rfl rfl ⟨rfl, rfl, rfl, rfl, rfl⟩ rfl rfl rfl rfl rfl (by kernel_rfl) Tryz.func3 (by kernel_rfl)
    (of_decide_eq_true (by kernel_rfl)) (by unfold Func.isWrapper; first | (rw [if_pos (by decide +kernel)]; kernel_rfl) | (rw [if_neg (by decide +kernel)]; exact ⟨rfl, rfl⟩))
    (fun os started H enc _ => lifted os started H enc)
theorem proved : Rows.FnTextsSaid := over
#print axioms proved
end Go.Proofs.YtpgpjgdcfhodgaaGreatDoor.fnTexts
namespace Go.Proofs.YtpgpjgdcfhodgaaGreatDoor
/-- The tied card, under a short name, for the claim. -/
theorem fnTexts_card : Rows.FnTextsCardSaid :=
  Claim7.holds_tied_plain_at .later [] [.data, .pinned] true (true, "25668dd016c923f089a982ccc7320d812e2b0ad3a3ad7558835fdfa8c3e9b153") true
    fnTexts.proved (fun _ h => by cases h) (by kernel_rfl) (fun _ h => by cases h) fnTexts_row_tie rfl ⟨rfl, rfl⟩ (by kernel_rfl) rfl
    (fun f fn hf hfn => by
      obtain rfl : f = 3 := Option.some.inj ((show Tryz.prog.funcNamed "loop.example/g00207/laws.FnTexts" = some 3 by kernel_rfl).symm.trans hf) |>.symm
      obtain rfl : fn = Tryz.f3 := (Option.some.inj (Tryz.func3.symm.trans hfn)).symm
      exact ⟨by kernel_rfl, fun j t ht => by
        rw [Tryz.params3] at ht
        have hm : t ∈ [22] := by simpa using Array.mem_of_getElem? ht
        have hall : ([22].all fun u => !Tryz.prog.wantsStandIn u) = true := by kernel_rfl
        exact (show Tryz.prog.wantsStandIn t = false by simpa using List.all_eq_true.1 hall t hm)⟩)
    (by kernel_rfl)
#print axioms fnTexts_card
end Go.Proofs.YtpgpjgdcfhodgaaGreatDoor
