/- Functions of the Go program as Lean functions, and proofs about them, merged out of this session's texts by its program bundle.py; conditions: those that each theorem states. -/
import Derived.Below
import Derived.ChangeOld
import Derived.Handed
import Derived.HandedShaped
import Derived.LaidMore
import Derived.Laws.BytesArg
import Derived.Laws.Strings3
import Derived.Lay
import Derived.Lib.AtoiErrMem
import Derived.Lib.Bytealg
import Derived.Lib.ConvBytes
import Derived.Lib.Hide
import Derived.Lib.IndexMore
import Derived.Lib.ItoaNum
import Derived.Lib.LaidTab
import Derived.Lib.SplitLaws
import Derived.Lib.Strings
import Derived.Lib.Walk
import Derived.MakeChecks
import Derived.OpenShut
import Derived.ProofKit
import Derived.SevenTiedAt
import Derived.Shelf.SlicesE.DeleteFunc
import Derived.Shelf.SlicesE.IndexFunc
import Derived.Shelf.Sort.Plain
import Derived.Shelf.Vars
import Derived.ShutString
import Derived.SizedLaws
import Derived.Sort.Walk0
import Derived.Stop.Joined
import Derived.Test.YtonimccihcodnaaGreatDoorCards
import Derived.Test.YtonimccihcodnaaGreatDoorGIndexByte
import Derived.Test.YtonimccihcodnaaGreatDoorGJoin
import Derived.Test.YtonimccihcodnaaGreatDoorGSplit
import Derived.Test.YtonimccihcodnaaGreatDoorGspecl1Token
import Derived.Test.YtonimccihcodnaaGreatDoorGspecl3Plain
import Derived.Test.YtonimccihcodnaaGreatDoorP0
import Derived.Test.YtonimccihcodnaaGreatDoorPimplCoded
import Derived.Test.YtonimccihcodnaaGreatDoorPimplDotless
import Derived.Test.YtonimccihcodnaaGreatDoorPimplisDigit
import Derived.Test.YtonimccihcodnaaGreatDoorPimplisLetter
import Derived.Test.YtonimccihcodnaaGreatDoorPimplisPath
import Derived.Test.YtonimccihcodnaaGreatDoorPimplisPlain
import Derived.Test.YtonimccihcodnaaGreatDoorProg
import Derived.Test.YtonimccihcodnaaGreatDoorPspecDotless
import Derived.Test.YtonimccihcodnaaGreatDoorPspecNormalPath
import Derived.Test.YtonimccihcodnaaGreatDoorPspecSortedQuery
import Derived.Test.YtonimccihcodnaaGreatDoorPspecTokenOk
import Derived.Test.YtonimccihcodnaaGreatDoorPspecUncoded
import Derived.Test.YtonimccihcodnaaGreatDoorPspecl1Hex
import Derived.Test.YtonimccihcodnaaGreatDoorPspecl3Coded
import Derived.Test.YtonimccihcodnaaGreatDoorPspecl3Path
import Derived.Test.YtonimccihcodnaaGreatDoorPspecl3Sorted
import Derived.Test.YtonimccihcodnaaGreatDoorPspecl3Split
import Derived.Test.YtonimccihcodnaaGreatDoorPstringsHasPrefix
import Derived.Test.YtonimccihcodnaaGreatDoorPstringsliteHasPrefix
import Derived.Test.YtonimccihcodnaaGreatDoorRows
import Derived.Test.YtonimccihcodnaaGreatDoorShelf
import Derived.Test.YtonimccihcodnaaGreatDoorTie
import Derived.Test.YtonimccihcodnaaGreatDoorXA
import Derived.Test.YtonimccihcodnaaGreatDoorXW
import Derived.WalkKit
namespace Go.Proofs.YtonimccihcodnaaGreatDoor.RowAid
open Go
variable {H : Type} {enc : TypeId × Value → H}
theorem handed_both {a : Assume} {C : Checked} {os : Os} {f : FuncId} {fn : Func} {s : ChangeSpec} {conds : List PathCond} {apart fresh handsOn again : Bool} {X : World → Array Value → Prop}
    (hX : ∀ (w w' : World) (args : Array Value), w.heap = w'.heap → X w args → X w' args)
    (own : ownKnob C.prog.godebug = none) (started : os.Started) (noInit : C.prog.inits.idxOf? f = none) (hfn : C.prog.funcs[f]? = some fn)
    (witness : ∃ (w : World) (tape : Tape) (i : Input), w.os = os ∧ (w.forCall tape i).Shaped C.prog ∧ i.vars = [] ∧ Input.okWide C.prog (w.forCall tape i) .any w.heap.size f i ∧
      ((s.pre enc C.prog fn conds apart (w.forCall tape i).memory i.args ∧ X (w.forCall tape i).memory i.args) ∧ sizedMet enc C.prog fn (OpenSpec.ofChange s) apart (w.forCall tape i).memory i.args) ∧ a.holds C.prog (lone (Frame.enter C.prog f i.args .normal) [] (w.forCall tape i)))
    (contract : ∀ (W : World) (base : Nat) (args : Array Value) (ds gs : List (DataW H)) (before : List MemPlace),
      (∀ (j : Nat) t v, fn.params[j]? = some t → args[j]? = some v → Value.okWide C.prog W .any base t v) →
      DataW.Whole enc C.prog fn.params.toList s.vars apart W args.toList ds gs before →
      conds.all (PathCond.test C.prog ⟨fn.params.toList, ds, s.plain.varTypes C.prog, gs⟩) = true →
      (DataW.weightsEach C.prog (fn.params.toList ++ s.plain.varTypes C.prog) (ds ++ gs)).all (· ≤ reachBytes) = true → X W args → W.ShapedOpen C.prog →
      a.holds C.prog (lone (Frame.enter C.prog f args .normal) [] W) →
      Calls C.prog f args W fun e W' => ∃ v, e = .returned v ∧ s.post enc C.prog fn apart fresh handsOn again W args v W') :
    ReturnsInHanded a C os f .any (fun w args => (s.pre enc C.prog fn conds apart w args ∧ X w args) ∧ sizedMet enc C.prog fn (OpenSpec.ofChange s) apart w args) (s.post enc C.prog fn apart fresh handsOn again) := by
  refine returnsInHanded_of_calls own started noInit witness ?_
  intro w tape i _ hsh _ hok hpre hholds
  obtain ⟨_, _, _, fn', hfn', _, _, _, _, hval⟩ := hok
  have e : fn' = fn := Option.some.inj (hfn'.symm.trans hfn)
  subst e
  obtain ⟨⟨⟨ds, gs, before, hw, hc⟩, hx⟩, hz⟩ := hpre
  have hw' := DataW.Whole.of_heap (w' := w.forCall tape i) (by rfl) hw
  refine (contract (w.forCall tape i) w.heap.size i.args ds gs before hval hw' hc (hz.weights hw) (hX _ _ _ (by rfl) hx) hsh hholds).mono fun e W' ⟨v, he, hp⟩ => ?_
  subst he
  exact ChangeSpec.post_blind hp
end Go.Proofs.YtonimccihcodnaaGreatDoor.RowAid
namespace Go.Proofs.YtonimccihcodnaaGreatDoor.RowAid
open Go

/-- What a list lays a variable with. -/
def laysAs (laid : List (String × DataW Unit)) (name : String) : Option (DataW Unit) :=
  match laid with
  | [] => none
  | x :: r => if x.1 = name then some x.2 else laysAs r name
theorem tabIs_mem {P : Program} {W : World} {name : String} {k : IntKind} {zs : List Int} {g : Nat} {t e : TypeId} {n : Nat}
    (hg : P.globalNamed name = some g) (hty : (P.globals[g]?).map (·.type) = some t) (ht : P.underlying t = some (.array n e)) (he : P.underlying e = some (.int k)) (hce : P.cellsOf e = 1) (hct : P.cellsOf t = n) :
    ∀ (laid : List (String × DataW Unit)) (ps : List MemPlace), DataW.LaidVars P W laid ps → laysAs laid name = some (Lib.tabData k zs) → Lib.TabIs P W name k zs := by
  intro laid
  induction laid with
  | nil => intro ps _ h; cases h
  | cons x r ih =>
    intro ps hl hm
    obtain ⟨nm, d⟩ := x
    obtain ⟨g', t', cs, fuel, p, q, hg', ht', hvar, hd, hr, _⟩ := hl
    unfold laysAs at hm
    by_cases hn : nm = name
    · subst hn
      rw [if_pos rfl] at hm
      obtain rfl : d = Lib.tabData k zs := Option.some.inj hm
      obtain rfl := Option.some.inj (hg.symm.trans hg')
      obtain rfl := Option.some.inj (hty.symm.trans ht')
      unfold Lib.TabIs
      rw [hvar, ← Lib.cells_of_tab ht he hce hct hd]
    · rw [if_neg hn] at hm
      exact ih q hr hm
theorem xw_of {m : Nat} {W : World} (hS : W.ShapedOpen Tryz.prog) (laid : List (String × DataW Unit)) (hL : laidMetH Tryz.prog laid W) (hp : (laid.all fun x => x.2.handleName?.isNone) = true)
    (h10 : m / 2 % 2 = 1 → laysAs laid "internal/strconv.uint64pow10" = some (Lib.tabData .u64 Lib.pow10Tab)) (htz : m / 4 % 2 = 1 → laysAs laid "math/bits.deBruijn64tab" = some (Lib.tabData .u8 P.deBruijn64Tab)) : P.XW m W := by
  rw [MakeChecks.laidMetH_plain _ _ _ hp] at hL
  obtain ⟨ps, hv, _⟩ := hL
  unfold P.XW
  refine ⟨fun _ => cell_of_shapedOpen_int (zero := #[.int .i64 0]) (t := 3) hS (of_decide_eq_true (by kernel_rfl)) (by kernel_rfl) rfl (by kernel_rfl) (by kernel_rfl) Tryz.underlying3, ?_⟩
  refine ⟨fun h => tabIs_mem (g := 5) (n := 20) (by kernel_rfl) rfl (by kernel_rfl) Tryz.underlying86 (by kernel_rfl) (by kernel_rfl) laid ps hv (h10 h), ?_⟩
  refine ⟨fun h => tabIs_mem (g := 7) (n := 64) (by kernel_rfl) rfl (by kernel_rfl) Tryz.underlying5 (by kernel_rfl) (by kernel_rfl) laid ps hv (htz h), ?_⟩
  trivial
end Go.Proofs.YtonimccihcodnaaGreatDoor.RowAid
namespace Go.Proofs.YtonimccihcodnaaGreatDoor.P
open Go.RowKit Go.Proofs.YtonimccihcodnaaGreatDoorW.PrintWords Go.Proofs.YtonimccihcodnaaGreatDoorW.PrintLast Go.Proofs.YtonimccihcodnaaGreatDoorW.PrintMore

def strings_Cut.f (a0 a1 : ByteArray) : Option (ByteArray × ByteArray × Bool) :=
  if a0.size < 4294967281 then some (⟨(Lib.cut a0.data.toList a1.data.toList).1.toArray⟩, ⟨(Lib.cut a0.data.toList a1.data.toList).2.1.toArray⟩, (Lib.cut a0.data.toList a1.data.toList).2.2) else none
theorem strings_Cut.calls (a0 a1 r1 r2 : ByteArray) (r3 : Bool) (w : World) (hX : XW 1 w) (h : strings_Cut.f a0 a1 = some (r1, r2, r3)) :
    Calls Tryz.prog 16 #[.string a0, .string a1] w fun e w' => e = .returned (.tuple #[.string r1, .string r2, .bool r3]) ∧ Below w.heap.size w w' := by
  unfold strings_Cut.f at h
  split at h
  · rename_i hs
    simp only [Option.some.injEq, Prod.mk.injEq] at h
    obtain ⟨rfl, rfl, rfl⟩ := h
    obtain ⟨v, hv⟩ := hX.maxLen rfl
    refine (Tryz.strings_Cut a0 a1 v w hs hv).mono ?_
    rintro e w' ⟨rfl, n, rfl⟩
    exact ⟨rfl, pw_below_drewN (Below.refl _ _) n⟩
  · cases h
end Go.Proofs.YtonimccihcodnaaGreatDoor.P
namespace Go.Proofs.YtonimccihcodnaaGreatDoor.P
set_option linter.unusedVariables false
set_option linter.unusedSimpArgs false
open Go.RowKit Go.Lib Go.Proofs.YtonimccihcodnaaGreatDoorW.PrintWords Go.Proofs.YtonimccihcodnaaGreatDoorW.PrintLast Go.Proofs.YtonimccihcodnaaGreatDoorW.PrintMore

/-- A great letter made small. -/
def low8 (c : Int) : Int := if 65 ≤ c then (if c ≤ 90 then c + 32 else c) else c
/-- The bytes behind k rounds. -/
def lowAt (s : ByteArray) (k j : Nat) : Int := if j < k then low8 (bt s j) else bt s j
theorem lowAt_next (s : ByteArray) (k j : Nat) (h : j ≠ k) : lowAt s (k + 1) j = lowAt s k j := by
  unfold lowAt
  by_cases h1 : j < k
  · rw [if_pos h1, if_pos (by omega)]
  · rw [if_neg h1, if_neg (by omega)]
theorem lowAt_here (s : ByteArray) (k : Nat) : lowAt s (k + 1) k = low8 (bt s k) := by unfold lowAt; rw [if_pos (by omega)]
theorem lowAt_now (s : ByteArray) (k : Nat) : lowAt s k k = bt s k := by unfold lowAt; rw [if_neg (by omega)]
def LowCells (w wr : World) (s : ByteArray) (k : Nat) : Prop :=
  (∀ j, j < s.size → wr.cell? ⟨w.heap.size, j, none⟩ = some (.int .u8 (lowAt s k j))) ∧ (∀ j, j < s.size → wr.frozen? ⟨w.heap.size, j, none⟩ = false) ∧ Below w.heap.size w wr
theorem LowCells.start (w : World) (s : ByteArray) : LowCells w (bytesWorld w 5 s) s 0 := by
  refine ⟨fun j hj => ?_, fun j hj => ?_, ?_⟩
  · rw [bytesWorld_cell w 5 s j hj]
    have : bt s j = ((s.data.toList.getD j 0).toNat : Int) := by
      rw [← rd_bytesOf]
      have h' : j < s.data.toList.length := by rw [data_length]; exact hj
      simp [rd, bytesOf, List.getD_eq_getElem?_getD, List.getElem?_eq_getElem h']
    rw [← this]
    rfl
  · have hz : s.size ≤ (bytesCells w 5 s).size := by simp only [bytesCells, Array.size_append, Array.size_map]; exact Nat.le_add_right _ _
    simp [World.frozen?, bytesWorld_at_new]
    omega
  · exact bytes_below (Below.refl _ w) (Nat.le_refl _) 5 s
theorem LowCells.skip {w wr : World} {s : ByteArray} {k : Nat} (h : LowCells w wr s k) (hk : k < s.size) (e : low8 (bt s k) = bt s k) : LowCells w wr s (k + 1) :=
  ⟨fun j hj => by
    by_cases h1 : j = k
    · subst h1
      rw [h.1 j hj, lowAt_here, lowAt_now, e]
    · rw [lowAt_next s k j h1, h.1 j hj], h.2.1, h.2.2⟩
theorem LowCells.put {w wr : World} {s : ByteArray} {k : Nat} (h : LowCells w wr s k) (hk : k < s.size) (c : Int) (e : low8 (bt s k) = c) : LowCells w (wr.setCell ⟨w.heap.size, k, none⟩ (.int .u8 c)) s (k + 1) :=
  ⟨fun j hj => by
    by_cases h1 : j = k
    · subst h1
      rw [World.cell?_setCell_same _ _ _ (h.1 j hj), lowAt_here, e]
    · rw [World.cell?_setCell_other _ _ _ _ (by intro e2; injection e2 with _ e3; exact h1 e3.symm), lowAt_next s k j h1, h.1 j hj],
   fun j hj => by rw [World.frozen?_setCell]; exact h.2.1 j hj, h.2.2.setCell (Nat.le_refl _) _⟩
theorem LowCells.done {w wr : World} {s : ByteArray} {k : Nat} (h : LowCells w wr s k) (hk : s.size ≤ k) (j : Nat) (hj : j < s.size) : wr.cell? ⟨w.heap.size, 0 + j, none⟩ = some (.int .u8 (((bytesOf s).map low8).getD j 0)) := by
  rw [Nat.zero_add, h.1 j hj]
  have h1 : j < (bytesOf s).length := by rw [bytesOf_length]; exact hj
  unfold lowAt
  rw [if_pos (by omega), ← rd_bytesOf]
  simp [rd, List.getD_eq_getElem?_getD, List.getElem?_eq_getElem h1]

set_option maxHeartbeats 1000000 in
theorem impl_Lower_any (s : ByteArray) (w : World) (hs : s.size ≤ 9223372036854775807) :
    Calls Tryz.prog 19 #[.string s] w fun e w' => e = .returned (.string (strOfNums ((bytesOf s).map low8))) ∧ Below w.heap.size w w' := by
  have kc := fun W : World => Lib.run_convert_string_bytes (P := Tryz.prog) W 9 25 5 s Tryz.underlying9 Tryz.underlying25 Tryz.underlying5
  have hmap : ((bytesOf s).map low8).length = s.size := by rw [List.length_map, bytesOf_length]
  have H0 := Lib.hid hmap
  clear hmap
  have S0 := Lib.hid (LowCells.start w s)
  go_enter Tryz.func19, Tryz.ntmps19
  go_wp2
  go_loopw [10] (fun i wr => ∃ k : Nat, k ≤ s.size ∧ i = .int .i64 k ∧ Aside (LowCells w wr s k)) (fun i _ => s.size - (intOf i).toNat)
  case atStart => exact ⟨0, Nat.zero_le _, rfl, S0.out⟩
  case round =>
    obtain ⟨k, hk, rfl, A⟩ := hrel
    by_cases hlt : k < s.size
    · have hcell := A.out.1 k hlt
      rw [lowAt_now] at hcell
      have hfro := A.out.2.1 k hlt
      have hr := bt_range s k
      obtain ⟨c, hc⟩ : ∃ c, bt s k = c := ⟨_, rfl⟩
      rw [hc] at hcell hr
      have HC := Lib.hid hc
      clear hc
      obtain ⟨hr0, hr1⟩ := hr
      have hltz : (k : Int) < (s.size : Int) := by omega
      by_cases h1 : (65 : Int) ≤ c
      · by_cases h2 : c ≤ 90
        · go_wp2
          go_roundw
          case rel => exact ⟨k + 1, by omega, by go_num, show Aside _ from A.out.put hlt _ (by rw [HC.out]; unfold low8; rw [if_pos h1, if_pos h2]; omega)⟩
          case measure => simp [intOf]; omega
        · go_wp2
          go_roundw
          case rel => exact ⟨k + 1, by omega, by go_num, show Aside _ from A.out.skip hlt (by rw [HC.out]; unfold low8; rw [if_pos h1, if_neg h2])⟩
          case measure => simp [intOf]; omega
      · go_wp2
        go_roundw
        case rel => exact ⟨k + 1, by omega, by go_num, show Aside _ from A.out.skip hlt (by rw [HC.out]; unfold low8; rw [if_neg h1])⟩
        case measure => simp [intOf]; omega
    · have hltz : ¬ (k : Int) < (s.size : Int) := by omega
      have kb := fun cap => run_convert_bytes_arg (P := Tryz.prog) wr 25 5 Tryz.underlying25 Tryz.underlying5 w.heap.size 0 s.size cap ((bytesOf s).map low8) H0.out (A.out.done (by omega)) 9 Tryz.underlying9
      go_wp2
      go_ret
      exact ⟨rfl, A.out.2.2⟩

def impl_Lower.f (a0 : ByteArray) : Option ByteArray := if a0.size ≤ 9223372036854775807 then some (strOfNums ((bytesOf a0).map low8)) else none
theorem impl_Lower.calls (a0 : ByteArray) (r : ByteArray) (w : World) (h : impl_Lower.f a0 = some r) :
    Calls Tryz.prog 19 #[.string a0] w fun e w' => e = .returned (.string r) ∧ Below w.heap.size w w' := by
  unfold impl_Lower.f at h
  split at h
  · obtain rfl := Option.some.inj h
    exact impl_Lower_any a0 w (by assumption)
  · cases h
end Go.Proofs.YtonimccihcodnaaGreatDoor.P
namespace Go.Proofs.YtonimccihcodnaaGreatDoor.P
set_option linter.unusedVariables false
set_option linter.unusedSimpArgs false
open Go.RowKit Go.Lib Go.Sort Go.Proofs.YtonimccihcodnaaGreatDoorW.PrintWords Go.Proofs.YtonimccihcodnaaGreatDoorW.PrintLast Go.Proofs.YtonimccihcodnaaGreatDoorW.PrintMore
attribute [local go_sem] max2_int min2_int max_two min_two max_three min_three max_four min_four

def keptL (s : ByteArray) : List (List UInt8) := ((Lib.splitB ⟨#[38]⟩ 0 (Lib.countB s ⟨#[38]⟩) s).map (·.data.toList)).filter fun x => !(x == [])
def sortedL (s : ByteArray) : List (List UInt8) := (keptL s).mergeSort fun x y => decide (x ≤ y)
def impl_SortedQuery.f (a0 : ByteArray) : Option ByteArray := if a0.size > 200 then some ⟨#[]⟩ else some ⟨(Lib.join (sortedL a0) [38]).toArray⟩
theorem query_empty (l : List UInt8) (w : World) : Calls Tryz.prog 24 #[.string ⟨l.toArray⟩] w fun e w' => e = .returned (.bool (l == [])) ∧ w' = w := by
  cases l with
  | nil =>
    have h : (⟨([] : List UInt8).toArray⟩ : ByteArray).toList.isEmpty = true := by rw [ByteArray.toList_eq]; rfl
    go_enter Tryz.func24, Tryz.ntmps24
    go_wp2
    go_ret
    exact ⟨rfl, rfl⟩
  | cons b l =>
    have h : (⟨(b :: l).toArray⟩ : ByteArray).toList.isEmpty = false := by rw [ByteArray.toList_eq]; rfl
    have h2 : ((⟨(b :: l).toArray⟩ : ByteArray).toList == ([] : List UInt8)) = false := by rw [ByteArray.toList_eq]; rfl
    go_enter Tryz.func24, Tryz.ntmps24
    go_wp2
    go_ret
    exact ⟨by simp_all, rfl⟩
theorem query_gives (l : List UInt8) (W : World) : FnGives Tryz.prog 24 #[] #[encStr l] (.bool (l == [])) W := by
  refine (query_empty l W).mono ?_
  rintro e w' ⟨rfl, rfl⟩
  exact ⟨rfl, 0, rfl⟩
theorem join_len_le (l : List (List UInt8)) (sep : List UInt8) : (Lib.join l sep).length ≤ (l.map fun x => x.length + sep.length).sum := by
  cases l with
  | nil => exact Nat.zero_le _
  | cons a l =>
    rw [Lib.join_cons, List.length_append, List.map_cons, List.sum_cons]
    have : (Lib.joinTail sep l).length = (l.map fun x => x.length + sep.length).sum := by
      unfold Lib.joinTail
      induction l with
      | nil => rfl
      | cons b l ih => rw [List.map_cons, List.flatten_cons, List.length_append, ih, List.map_cons, List.sum_cons, List.length_append]; omega
    omega
theorem sum_filter_le (p : List UInt8 → Bool) (g : List UInt8 → Nat) (l : List (List UInt8)) : ((l.filter p).map g).sum ≤ (l.map g).sum := by
  induction l with
  | nil => exact Nat.le_refl _
  | cons a l ih =>
    rw [List.filter_cons]
    split
    · simp only [List.map_cons, List.sum_cons]; omega
    · simp only [List.map_cons, List.sum_cons]; omega
theorem splitK_sum (sep : List UInt8) : ∀ (k : Nat) (s : List UInt8), ((Lib.splitK sep 0 k s).map List.length).sum ≤ s.length
  | 0, s => by simp [Lib.splitK]
  | k + 1, s => by
    unfold Lib.splitK
    split
    · simp
    · simp only [List.map_cons, List.sum_cons, List.length_take]
      have := splitK_sum sep k (s.drop ((Lib.index s sep).toNat + sep.length))
      rw [List.length_drop] at this
      omega
theorem sum_one (l : List (List UInt8)) : (l.map fun x => x.length + 1).sum = (l.map List.length).sum + l.length := by
  induction l with
  | nil => rfl
  | cons a l ih => simp only [List.map_cons, List.sum_cons, List.length_cons, ih]; omega
theorem sorted_len (s : ByteArray) (hs : s.size ≤ 200) : (Lib.join (sortedL s) [38]).length ≤ 401 := by
  have h1 := join_len_le (sortedL s) [38]
  have h2 : ((sortedL s).map fun x => x.length + ([38] : List UInt8).length).sum = ((keptL s).map fun x => x.length + 1).sum := ((List.mergeSort_perm _ _).map _).sum_nat
  have h3 := sum_filter_le (fun x => !(x == [])) (fun x => x.length + 1) ((Lib.splitB ⟨#[38]⟩ 0 (Lib.countB s ⟨#[38]⟩) s).map (·.data.toList))
  rw [sum_one ((Lib.splitB ⟨#[38]⟩ 0 (Lib.countB s ⟨#[38]⟩) s).map (·.data.toList)), List.length_map, Lib.splitB_data] at h3
  have h4 := splitK_sum (⟨#[38]⟩ : ByteArray).data.toList (Lib.countB s ⟨#[38]⟩) s.data.toList
  have h5 := Lib.splitB_length_le ⟨#[38]⟩ 0 (Lib.countB s ⟨#[38]⟩) s
  have h6 := Lib.countB_le ⟨#[38]⟩ (by decide) s.size s (Nat.le_refl _)
  have h7 : s.data.toList.length = s.size := Array.length_toList
  unfold keptL at h2
  rw [Lib.splitB_data] at h2
  omega
theorem below_put {w W : World} (h : Below w.heap.size w W) (enc : List UInt8 → Value) (n b off : Nat) (d : Array (List UInt8)) (hb : w.heap.size ≤ b) : Below w.heap.size w (putRow enc (Go.Sort.ahead W n) b off d) := by
  refine ⟨h.os, h.tape, h.output, by rw [size_putRow]; exact h.size, fun j hj => ?_⟩
  rw [← h.block j hj]
  show (W.heap.modify b _)[j]? = _
  rw [Array.getElem?_modify, if_neg (by omega)]
theorem below_growS {w W : World} (h : Below w.heap.size w W) (os : Array Obj) : Below w.heap.size w (grow W os) := by
  refine ⟨h.os, h.tape, h.output, by rw [size_grow]; exact Nat.le_trans h.size (Nat.le_add_right _ _), fun j hj => ?_⟩
  rw [← h.block j hj]
  exact heap_grow_old W os (Nat.lt_of_lt_of_le hj h.size)
theorem arr_get (l : List (List UInt8)) (j : Nat) (h : j < l.length) : l.toArray[j]! = l[j] := by
  rw [getElem!_pos l.toArray j (by simpa using h)]
  simp
theorem holds_prefix {W : World} {b : Nat} {a r : List (List UInt8)} (h : Holds encStr W b 0 (a ++ r).toArray) : Holds encStr W b 0 a.toArray := by
  intro j hj
  have hj1 : j < a.length := by simpa using hj
  have h2 := h j (by rw [List.size_toArray, List.length_append]; omega)
  rw [arr_get _ _ (by rw [List.length_append]; omega), List.getElem_append_left hj1] at h2
  rw [arr_get _ _ hj1]
  exact h2
theorem cells_of_holds {W : World} {b : Nat} {l : List (List UInt8)} (h : Holds encStr W b 0 l.toArray) (j : Nat) (x : ByteArray) (hx : (l.map fun l => (⟨l.toArray⟩ : ByteArray))[j]? = some x) : W.cell? ⟨b, 0 + j, none⟩ = some (.string x) := by
  rw [List.getElem?_map] at hx
  obtain ⟨y, hy, rfl⟩ := Option.map_eq_some_iff.1 hx
  have hj : j < l.length := (List.getElem?_eq_some_iff.1 hy).1
  rw [(h j (by simpa using hj)).1, arr_get _ _ hj, (List.getElem?_eq_some_iff.1 hy).2]
set_option maxHeartbeats 4000000 in
set_option maxRecDepth 100000 in
theorem impl_SortedQuery.calls (a0 : ByteArray) (r : ByteArray) (w : World) (hX : XW 1 w) (h : impl_SortedQuery.f a0 = some r) :
    Calls Tryz.prog 9 #[.string a0] w fun e w' => e = .returned (.string r) ∧ Below w.heap.size w w' := by
  unfold impl_SortedQuery.f at h
  by_cases hz : a0.size > 200
  · rw [if_pos hz] at h
    obtain rfl := Option.some.inj h
    have hz1 : decide ((200 : Int) < (a0.size : Int)) = true := decide_eq_true (by omega)
    have hz2 : decide (200 < a0.size) = true := decide_eq_true hz
    go_enter Tryz.func9, Tryz.ntmps9
    go_wp2
    go_ret
    exact ⟨rfl, Below.refl _ _⟩
  · rw [if_neg hz] at h
    obtain rfl := Option.some.inj h
    have hz1 : decide ((200 : Int) < (a0.size : Int)) = false := decide_eq_false (by omega)
    have hz2 : decide (200 < a0.size) = false := decide_eq_false hz
    have hlen := sorted_len a0 (by omega)
    obtain ⟨v, hv⟩ := hX.maxLen rfl
    have CS := Tryz.strings_Split a0 ⟨#[38]⟩ v w (by omega) hv (by decide)
    have hl := split_len a0 ⟨#[38]⟩ (by decide)
    have h6 := Lib.countB_le ⟨#[38]⟩ (by decide) a0.size a0 (Nat.le_refl _)
    rw [← hl] at CS
    have hkeep : keptL a0 = ((Lib.splitB ⟨#[38]⟩ 0 (Lib.countB a0 ⟨#[38]⟩) a0).map (·.data.toList)).filter fun x => !(x == []) := rfl
    have hlen2 : (Lib.splitB ⟨#[38]⟩ 0 (Lib.countB a0 ⟨#[38]⟩) a0).length ≤ 201 := by omega
    generalize Lib.splitB ⟨#[38]⟩ 0 (Lib.countB a0 ⟨#[38]⟩) a0 = ps at CS hkeep hlen2
    clear hl
    have hmap : (ps.map Value.string).toArray = (((ps.map (·.data.toList)).map encStr).toArray) := by
      rw [List.map_map]
      congr 1
    obtain ⟨d, hd⟩ : ∃ d : Array (List UInt8), d = (ps.map (·.data.toList)).toArray := ⟨_, rfl⟩
    have hdl : d.toList = ps.map (·.data.toList) := by rw [hd]
    have hds : d.size = ps.length := by rw [hd]; simp
    have H1 : Holds encStr (w.alloc (.cells (ps.map Value.string).toArray 9)) w.heap.size 0 d := by
      intro j hj
      have hb := blk_new w (.cells (ps.map Value.string).toArray 9 (0, 0))
      refine ⟨?_, blk_frozen hb _⟩
      rw [blk_cell hb, hmap, hd, Nat.zero_add]
      have hj2 : j < (ps.map (·.data.toList)).length := by rw [List.length_map]; omega
      rw [List.getElem?_toArray, List.getElem?_map, List.getElem?_eq_getElem hj2, Option.map_some]
      congr 2
      rw [getElem!_pos _ _ (by simpa using hj2)]
      rfl
    have CD := fun W (hW : Holds encStr W w.heap.size 0 d) => Tryz.slices_DeleteFunc (α := List UInt8) encStr (fun _ => rfl) (fun l => l == []) 24 #[] (enters_ Tryz.func24 (by kernel_rfl) rfl) [] (fun _ => by kernel_rfl) w.heap.size 0 d.size d W (fun W' x _ => query_gives x W') (fun n os dk x _ => query_gives x _) hW (by omega) (Nat.le_refl _)
    rw [hdl, ← hkeep, hds] at CD
    have hkl : (keptL a0).length ≤ ps.length := by
      rw [hkeep]
      have := List.length_filter_le (fun x => !(x == [])) (ps.map (·.data.toList))
      rwa [List.length_map] at this
    have CD1 := (CD _ H1).mono (R' := fun e w2 => e = .returned (.slice (some ⟨w.heap.size, 0, none⟩) (keptL a0).length ps.length) ∧ (Holds encStr w2 w.heap.size 0 (keptL a0).toArray ∧ Below w.heap.size w w2 ∧ w.heap.size < w2.heap.size)) (by
      rintro e w2 ⟨rfl, q, rfl⟩
      have hsz : ((keptL a0) ++ List.replicate (ps.length - (keptL a0).length) []).toArray.size = d.size := by rw [hds]; simp; omega
      have HP := holds_putRow encStr (Go.Sort.ahead (w.alloc (.cells (ps.map Value.string).toArray 9)) q) w.heap.size 0 d ((keptL a0) ++ List.replicate (ps.length - (keptL a0).length) []).toArray H1 hsz
      exact ⟨rfl, holds_prefix HP, below_put (below_alloc (Below.refl _ _) _) _ _ _ _ _ (Nat.le_refl _), by rw [size_putRow]; show _ < (w.alloc _).heap.size; simp⟩)
    have hsl : (sortedL a0).length = (keptL a0).length := (List.mergeSort_perm _ _).length_eq
    have CO := fun W (hW : Holds encStr W w.heap.size 0 (keptL a0).toArray) (hB : Below w.heap.size w W) (hb : w.heap.size < W.heap.size) => (Tryz.slices_Sort_string w.heap.size 0 ps.length (keptL a0) W hW hb (by omega)).mono (R' := fun e w3 => e = .returned (.tuple #[]) ∧ ((∀ (j : Nat) x, ((sortedL a0).map fun l => (⟨l.toArray⟩ : ByteArray))[j]? = some x → w3.cell? ⟨w.heap.size, 0 + j, none⟩ = some (.string x)) ∧ Below w.heap.size w w3 ∧ w.heap.size < w3.heap.size)) (by
      rintro e w3 ⟨rfl, n, os, rfl⟩
      have hsz : ((keptL a0).mergeSort (fun x y => decide (x ≤ y))).toArray.size = (keptL a0).toArray.size := by simp
      have HP := holds_putRow encStr (Go.Sort.ahead W n) w.heap.size 0 (keptL a0).toArray ((keptL a0).mergeSort (fun x y => decide (x ≤ y))).toArray hW hsz
      have HG := holds_grow encStr _ os w.heap.size 0 _ (by rw [size_putRow]; exact hb) HP
      exact ⟨rfl, cells_of_holds HG, below_growS (below_put hB _ _ _ _ _ (Nat.le_refl _)) _, by rw [size_grow, size_putRow]; show _ < W.heap.size + _; omega⟩)
    have CJ := fun W (hc : ∀ (j : Nat) x, ((sortedL a0).map fun l => (⟨l.toArray⟩ : ByteArray))[j]? = some x → W.cell? ⟨w.heap.size, 0 + j, none⟩ = some (.string x)) (hb : w.heap.size < W.heap.size) => Tryz.strings_Join w.heap.size 0 ps.length ((sortedL a0).map fun l => (⟨l.toArray⟩ : ByteArray)) ⟨#[38]⟩ W hc hb (by rw [List.length_map]; omega) (by rw [List.length_map]; omega) (by
      rw [List.map_map]
      have : (List.map ((fun x => x.data.toList) ∘ fun l => (⟨l.toArray⟩ : ByteArray)) (sortedL a0)) = sortedL a0 := (List.map_congr_left fun _ _ => rfl).trans (List.map_id _)
      rw [this]
      show (Lib.join (sortedL a0) [38]).length ≤ _
      omega)
    have hjm : (((sortedL a0).map fun l => (⟨l.toArray⟩ : ByteArray)).map (·.data.toList)) = sortedL a0 := by
      rw [List.map_map]
      exact (List.map_congr_left fun _ _ => rfl).trans (List.map_id _)
    have hjl : ((sortedL a0).map fun l => (⟨l.toArray⟩ : ByteArray)).length = (keptL a0).length := by rw [List.length_map, hsl]
    rw [hjl, hjm] at CJ
    have hj3 : (⟨#[38]⟩ : ByteArray).data.toList = [38] := rfl
    rw [hj3] at CJ
    generalize ((sortedL a0).map fun l => (⟨l.toArray⟩ : ByteArray)) = sl at CO CJ
    generalize (keptL a0).length = kn at CD1 CO CJ
    have XD := Aside0.mk CD1
    have XO := Aside0.mk CO
    have XJ := Aside0.mk CJ
    have XS := Aside0.mk CS
    clear CD CD1 CO CJ CS hjm hjl hj3 hsl hkl H1 hdl hds hmap hkeep hlen hlen2 h6 hv
    go_enter Tryz.func9, Tryz.ntmps9
    go_wp2_with (first
      | (go_at_call 23; refine XS.out.mono ?_; rintro e w1 ⟨rfl, rfl⟩)
      | (go_at_call 22; refine XD.out.mono ?_; rintro e w2 ⟨rfl, hh2, hb2, hs2⟩; have K2 := Aside0.mk (And.intro hh2 (And.intro hb2 hs2)); clear hh2 hb2 hs2)
      | (go_at_call 25; refine (XO.out _ K2.out.1 K2.out.2.1 K2.out.2.2).mono ?_; rintro e w3 ⟨rfl, hh3, hb3, hs3⟩; have K3 := Aside0.mk (And.intro hh3 (And.intro hb3 hs3)); clear hh3 hb3 hs3)
      | (go_at_call 26; refine (XJ.out _ K3.out.1 K3.out.2.2).mono ?_; rintro e w4 ⟨rfl, hb4⟩))
    go_ret
    exact ⟨rfl, below_then K3.out.2.1 K3.out.2.1.size hb4⟩
end Go.Proofs.YtonimccihcodnaaGreatDoor.P
namespace Go.Proofs.YtonimccihcodnaaGreatDoor.P
set_option linter.unusedVariables false
set_option linter.unusedSimpArgs false
open Go.RowKit Go.Lib Go.Proofs.YtonimccihcodnaaGreatDoorW.PrintWords Go.Proofs.YtonimccihcodnaaGreatDoorW.PrintLast Go.Proofs.YtonimccihcodnaaGreatDoorW.PrintMore

/-- A digit's number, or -1. -/
def dgt (c : Int) : Int := if 48 ≤ c ∧ c ≤ 57 then c - 48 else if 97 ≤ c ∧ c ≤ 102 then c - 87 else if 65 ≤ c ∧ c ≤ 70 then c - 55 else -1
def numB (b : Int) (l : List Int) : Int := l.foldl (fun n c => n * b + dgt c) 0
def okB (b : Int) (l : List Int) : Bool := l.all fun c => decide (0 ≤ dgt c) && decide (dgt c < b)
theorem okB_at {b : Int} {l : List Int} (h : okB b l = true) (c : Int) (hc : c ∈ l) : 0 ≤ dgt c ∧ dgt c < b := by
  have := List.all_eq_true.1 h c hc
  simpa using this
theorem numB_snoc (b : Int) (l : List Int) (c : Int) : numB b (l ++ [c]) = numB b l * b + dgt c := by
  unfold numB
  rw [List.foldl_append]
  rfl
theorem numB_take {b : Int} {l : List Int} {k : Nat} (h : k < l.length) : numB b (l.take (k + 1)) = numB b (l.take k) * b + dgt (l.getD k 0) := by
  rw [List.take_add_one, List.getD_eq_getElem?_getD, List.getElem?_eq_getElem h]
  exact numB_snoc _ _ _
theorem lowerBits (c v : Int) (h : (97 ≤ c ∧ c ≤ 102 ∧ v = c) ∨ (65 ≤ c ∧ c ≤ 70 ∧ v = c + 32)) : Go.bits .or .u8 c 32 = v := by
  have hc : c = 97 ∨ c = 98 ∨ c = 99 ∨ c = 100 ∨ c = 101 ∨ c = 102 ∨ c = 65 ∨ c = 66 ∨ c = 67 ∨ c = 68 ∨ c = 69 ∨ c = 70 := by omega
  rcases hc with rfl | rfl | rfl | rfl | rfl | rfl | rfl | rfl | rfl | rfl | rfl | rfl
  all_goals
    first
    | (have : v = 97 := by omega
       subst this; decide +kernel)
    | (have : v = 98 := by omega
       subst this; decide +kernel)
    | (have : v = 99 := by omega
       subst this; decide +kernel)
    | (have : v = 100 := by omega
       subst this; decide +kernel)
    | (have : v = 101 := by omega
       subst this; decide +kernel)
    | (have : v = 102 := by omega
       subst this; decide +kernel)
theorem numB_bound (b : Int) (l : List Int) (hb : 0 ≤ b) (h : okB b l = true) (k : Nat) : 0 ≤ numB b (l.take k) ∧ numB b (l.take k) < b ^ (min k l.length) := by
  induction k with
  | zero => simp [numB]
  | succ k ih =>
    by_cases hk : k < l.length
    · rw [numB_take hk]
      have hm : l.getD k 0 ∈ l := by
        rw [List.getD_eq_getElem?_getD, List.getElem?_eq_getElem hk]
        exact List.getElem_mem hk
      obtain ⟨d0, d1⟩ := okB_at h _ hm
      obtain ⟨i0, i1⟩ := ih
      rw [Nat.min_eq_left (by omega)] at i1
      rw [Nat.min_eq_left (by omega), Int.pow_succ]
      have h1 : numB b (l.take k) * b + b ≤ b ^ k * b := by
        have : (numB b (l.take k) + 1) * b ≤ b ^ k * b := Int.mul_le_mul_of_nonneg_right (by omega) hb
        rw [Int.add_mul, Int.one_mul] at this
        exact this
      have h2 : 0 ≤ numB b (l.take k) * b := Int.mul_nonneg i0 hb
      omega
    · rw [List.take_of_length_le (by omega), Nat.min_eq_right (by omega)]
      rw [List.take_of_length_le (by omega), Nat.min_eq_right (by omega)] at ih
      exact ih
theorem pow_small {b : Int} (hb : b = 10 ∨ b = 16) {k m : Nat} (hm : (b = 10 ∧ m ≤ 15) ∨ (b = 16 ∧ m ≤ 13)) (hk : k ≤ m) : b ^ k ≤ 4503599627370496 := by
  rcases hm with ⟨rfl, h⟩ | ⟨rfl, h⟩
  · have : k = 0 ∨ k = 1 ∨ k = 2 ∨ k = 3 ∨ k = 4 ∨ k = 5 ∨ k = 6 ∨ k = 7 ∨ k = 8 ∨ k = 9 ∨ k = 10 ∨ k = 11 ∨ k = 12 ∨ k = 13 ∨ k = 14 ∨ k = 15 := by omega
    rcases this with rfl | rfl | rfl | rfl | rfl | rfl | rfl | rfl | rfl | rfl | rfl | rfl | rfl | rfl | rfl | rfl <;> decide +kernel
  · have : k = 0 ∨ k = 1 ∨ k = 2 ∨ k = 3 ∨ k = 4 ∨ k = 5 ∨ k = 6 ∨ k = 7 ∨ k = 8 ∨ k = 9 ∨ k = 10 ∨ k = 11 ∨ k = 12 ∨ k = 13 := by omega
    rcases this with rfl | rfl | rfl | rfl | rfl | rfl | rfl | rfl | rfl | rfl | rfl | rfl | rfl | rfl <;> decide +kernel

set_option maxHeartbeats 8000000 in
set_option maxRecDepth 100000 in
theorem ParseUint16 (t : ByteArray) (hne : t.size ≠ 0) (h13 : t.size ≤ 13) (hok : okB 16 (bytesOf t) = true) (w : World) :
    Calls Tryz.prog 104 #[.string t, .int .i64 16, .int .i64 64] w fun e w' => e = .returned (.tuple #[.int .u64 (numB 16 (bytesOf t)), .nilIface]) ∧ w' = Lib.bytesWorld w 5 t := by
  have hemp : t.toList.isEmpty = false := by
    rw [← decide_eq_emptyBytes]
    exact decide_eq_false (fun h => hne (by rw [h]; rfl))
  have hcv := Lib.run_convert_string_bytes (P := Tryz.prog) w 9 25 5 t Tryz.underlying9 Tryz.underlying25 Tryz.underlying5
  have hB : ∀ j, j < t.size → (Lib.bytesWorld w 5 t).cell? ⟨w.heap.size, j, none⟩ = some (.int .u8 (bt t j)) := fun j hj => by
    rw [Lib.bytesWorld_cell w 5 t j hj]
    have : bt t j = ((t.data.toList.getD j 0).toNat : Int) := by
      rw [← rd_bytesOf]
      have h' : j < t.data.toList.length := by rw [data_length]; exact hj
      simp [rd, bytesOf, List.getD_eq_getElem?_getD, List.getElem?_eq_getElem h']
    rw [← this]
  obtain ⟨W1, hW1⟩ : ∃ W1, W1 = Lib.bytesWorld w 5 t := ⟨_, rfl⟩
  rw [← hW1] at hcv hB ⊢
  clear hW1
  have hlen : (bytesOf t).length = t.size := bytesOf_length t
  have hget : ∀ k, (bytesOf t).getD k 0 = bt t k := fun k => by rw [← rd_bytesOf]; simp [rd]
  have HA : Hid (∀ k, k < t.size → (0 ≤ dgt (bt t k) ∧ dgt (bt t k) < 16) ∧ (0 ≤ numB 16 ((bytesOf t).take k) ∧ numB 16 ((bytesOf t).take k) < 4503599627370496) ∧ numB 16 ((bytesOf t).take (k + 1)) = numB 16 ((bytesOf t).take k) * 16 + dgt (bt t k)) := Lib.hid fun k hk => by
    have hm : (bytesOf t).getD k 0 ∈ bytesOf t := by
      rw [List.getD_eq_getElem?_getD, List.getElem?_eq_getElem (by omega)]
      exact List.getElem_mem (by omega)
    have h1 := okB_at hok _ hm
    rw [hget] at h1
    have h2 := numB_bound 16 (bytesOf t) (by decide) hok k
    have h3 := pow_small (b := 16) (.inr rfl) (m := 13) (.inr ⟨rfl, Nat.le_refl _⟩) (k := min k (bytesOf t).length) (by omega)
    have h4 := numB_take (b := 16) (l := bytesOf t) (k := k) (by omega)
    rw [hget] at h4
    exact ⟨h1, ⟨h2.1, by omega⟩, h4⟩
  have HE : Hid (numB 16 ((bytesOf t).take t.size) = numB 16 (bytesOf t)) := Lib.hid (by rw [← hlen, List.take_length])
  have HZ : Hid (numB 16 ((bytesOf t).take 0) = 0) := Lib.hid rfl
  clear hok hget hlen
  have hmv : IntKind.u64.wrap (IntKind.u64.wrap 18446744073709551616 - 1) = 18446744073709551615 := by
    rw [IntKind.wrap_u64, IntKind.wrap_u64]
    decide
  go_enter Tryz.func104, Tryz.ntmps104
  go_wp2
  go_loop [12, 13, 101] (fun vu vn vi => ∃ (k : Nat) (a : Int), vu = .bool false ∧ vn = .int .u64 a ∧ vi = .int .i64 k ∧ k ≤ t.size ∧ Hid (a = numB 16 ((bytesOf t).take k)))
    (fun _ _ vi => t.size - (Go.RowKit.intOf vi).toNat)
  case atStart => exact ⟨0, 0, rfl, rfl, rfl, by omega, HZ⟩
  case round =>
    obtain ⟨k, a, rfl, rfl, rfl, hk, hh⟩ := hrel
    by_cases hkn : k < t.size
    · have hc := hB k hkn
      have hr := bt_range t k
      obtain ⟨⟨d0, d1⟩, ⟨b0, b1⟩, hnx⟩ := HA.out k hkn
      rw [← hh.out] at b0 b1 hnx
      obtain ⟨c, hcc⟩ : ∃ c, bt t k = c := ⟨_, rfl⟩
      rw [hcc] at hc hr d0 d1 hnx
      obtain ⟨r0, r1⟩ := hr
      clear hcc hB hh
      by_cases hdig : 48 ≤ c ∧ c ≤ 57
      · obtain ⟨g0, g1⟩ := hdig
        have hd : dgt c = c - 48 := by unfold dgt; rw [if_pos ⟨g0, g1⟩]
        rw [hd] at hnx
        clear d0 d1 hd
        have iov : a * 16 + (c - 48) < 18446744073709551616 := by omega
        have HN : Hid (a * 16 + (c - 48) = numB 16 ((bytesOf t).take (k + 1))) := Lib.hid hnx.symm
        clear hnx
        go_wp2
        refine ⟨⟨k + 1, a * 16 + (c - 48), rfl, (by first | rfl | (congr 1; omega)), (by first | rfl | (congr 1; omega)), by omega, HN⟩, by simp [Go.RowKit.intOf]; omega⟩
      · have hv : ∃ v, Go.bits .or .u8 c 32 = v ∧ 97 ≤ v ∧ v ≤ 102 ∧ dgt c = v - 87 := by
          unfold dgt at d0 ⊢
          rw [if_neg hdig] at d0 ⊢
          by_cases h1 : 97 ≤ c ∧ c ≤ 102
          · rw [if_pos h1]
            exact ⟨c, lowerBits c c (.inl ⟨h1.1, h1.2, rfl⟩), h1.1, h1.2, rfl⟩
          · rw [if_neg h1] at d0 ⊢
            by_cases h2 : 65 ≤ c ∧ c ≤ 70
            · rw [if_pos h2]
              exact ⟨c + 32, lowerBits c _ (.inr ⟨h2.1, h2.2, rfl⟩), by omega, by omega, by omega⟩
            · rw [if_neg h2] at d0
              omega
        obtain ⟨v, hv0, v0, v1, hd⟩ := hv
        have hnd : ¬ (48 ≤ c ∧ c ≤ 57) := hdig
        have hc57 : (c < 48) ∨ (57 < c) := by omega
        have hcl : (65 ≤ c ∧ c ≤ 70) ∨ (97 ≤ c ∧ c ≤ 102) := by
          unfold dgt at d0
          rw [if_neg hdig] at d0
          by_cases h1 : 97 ≤ c ∧ c ≤ 102
          · exact .inr h1
          · rw [if_neg h1] at d0
            by_cases h2 : 65 ≤ c ∧ c ≤ 70
            · exact .inl h2
            · rw [if_neg h2] at d0; omega
        have c95 : ¬ c = 95 := by omega
        have c48 : 57 < c := by omega
        have c47 : 48 ≤ c := by omega
        have c58 : ¬ c ≤ 57 := by omega
        have v122 : v ≤ 122 := by omega
        rw [hd] at hnx
        clear d0 d1 hd hdig hnd hc57 hcl
        have iov : a * 16 + (v - 87) < 18446744073709551616 := by omega
        have HN : Hid (a * 16 + (v - 97 + 10) = numB 16 ((bytesOf t).take (k + 1))) := Lib.hid (by rw [hnx]; omega)
        clear hnx
        go_wp2
        refine ⟨⟨k + 1, a * 16 + (v - 97 + 10), rfl, (by first | rfl | (congr 1; omega)), (by first | rfl | (congr 1; omega)), by omega, HN⟩, by simp [Go.RowKit.intOf]; omega⟩
    · have hkk : k = t.size := by omega
      subst hkk
      have hE := HE.out
      have hE2 := hh.out.trans hE
      clear hE hh HA HE HZ hB hcv
      subst hE2
      go_wp2
      go_ret2
      exact ⟨rfl, rfl⟩
set_option maxHeartbeats 8000000 in
set_option maxRecDepth 100000 in
theorem ParseUint10 (t : ByteArray) (hne : t.size ≠ 0) (h13 : t.size ≤ 15) (hok : okB 10 (bytesOf t) = true) (w : World) :
    Calls Tryz.prog 104 #[.string t, .int .i64 10, .int .i64 64] w fun e w' => e = .returned (.tuple #[.int .u64 (numB 10 (bytesOf t)), .nilIface]) ∧ w' = Lib.bytesWorld w 5 t := by
  have hemp : t.toList.isEmpty = false := by
    rw [← decide_eq_emptyBytes]
    exact decide_eq_false (fun h => hne (by rw [h]; rfl))
  have hcv := Lib.run_convert_string_bytes (P := Tryz.prog) w 9 25 5 t Tryz.underlying9 Tryz.underlying25 Tryz.underlying5
  have hB : ∀ j, j < t.size → (Lib.bytesWorld w 5 t).cell? ⟨w.heap.size, j, none⟩ = some (.int .u8 (bt t j)) := fun j hj => by
    rw [Lib.bytesWorld_cell w 5 t j hj]
    have : bt t j = ((t.data.toList.getD j 0).toNat : Int) := by
      rw [← rd_bytesOf]
      have h' : j < t.data.toList.length := by rw [data_length]; exact hj
      simp [rd, bytesOf, List.getD_eq_getElem?_getD, List.getElem?_eq_getElem h']
    rw [← this]
  obtain ⟨W1, hW1⟩ : ∃ W1, W1 = Lib.bytesWorld w 5 t := ⟨_, rfl⟩
  rw [← hW1] at hcv hB ⊢
  clear hW1
  have hlen : (bytesOf t).length = t.size := bytesOf_length t
  have hget : ∀ k, (bytesOf t).getD k 0 = bt t k := fun k => by rw [← rd_bytesOf]; simp [rd]
  have HA : Hid (∀ k, k < t.size → (0 ≤ dgt (bt t k) ∧ dgt (bt t k) < 10) ∧ (0 ≤ numB 10 ((bytesOf t).take k) ∧ numB 10 ((bytesOf t).take k) < 4503599627370496) ∧ numB 10 ((bytesOf t).take (k + 1)) = numB 10 ((bytesOf t).take k) * 10 + dgt (bt t k)) := Lib.hid fun k hk => by
    have hm : (bytesOf t).getD k 0 ∈ bytesOf t := by
      rw [List.getD_eq_getElem?_getD, List.getElem?_eq_getElem (by omega)]
      exact List.getElem_mem (by omega)
    have h1 := okB_at hok _ hm
    rw [hget] at h1
    have h2 := numB_bound 10 (bytesOf t) (by decide) hok k
    have h3 := pow_small (b := 10) (.inl rfl) (m := 15) (.inl ⟨rfl, Nat.le_refl _⟩) (k := min k (bytesOf t).length) (by omega)
    have h4 := numB_take (b := 10) (l := bytesOf t) (k := k) (by omega)
    rw [hget] at h4
    exact ⟨h1, ⟨h2.1, by omega⟩, h4⟩
  have HE : Hid (numB 10 ((bytesOf t).take t.size) = numB 10 (bytesOf t)) := Lib.hid (by rw [← hlen, List.take_length])
  have HZ : Hid (numB 10 ((bytesOf t).take 0) = 0) := Lib.hid rfl
  clear hok hget hlen
  have hmv : IntKind.u64.wrap (IntKind.u64.wrap 18446744073709551616 - 1) = 18446744073709551615 := by
    rw [IntKind.wrap_u64, IntKind.wrap_u64]
    decide
  go_enter Tryz.func104, Tryz.ntmps104
  go_wp2
  go_loop [12, 13, 101] (fun vu vn vi => ∃ (k : Nat) (a : Int), vu = .bool false ∧ vn = .int .u64 a ∧ vi = .int .i64 k ∧ k ≤ t.size ∧ Hid (a = numB 10 ((bytesOf t).take k)))
    (fun _ _ vi => t.size - (Go.RowKit.intOf vi).toNat)
  case atStart => exact ⟨0, 0, rfl, rfl, rfl, by omega, HZ⟩
  case round =>
    obtain ⟨k, a, rfl, rfl, rfl, hk, hh⟩ := hrel
    by_cases hkn : k < t.size
    · have hc := hB k hkn
      have hr := bt_range t k
      obtain ⟨⟨d0, d1⟩, ⟨b0, b1⟩, hnx⟩ := HA.out k hkn
      rw [← hh.out] at b0 b1 hnx
      obtain ⟨c, hcc⟩ : ∃ c, bt t k = c := ⟨_, rfl⟩
      rw [hcc] at hc hr d0 d1 hnx
      obtain ⟨r0, r1⟩ := hr
      clear hcc hB hh
      have hg : 48 ≤ c ∧ c ≤ 57 := by
        unfold dgt at d0 d1
        by_cases h0 : 48 ≤ c ∧ c ≤ 57
        · exact h0
        · rw [if_neg h0] at d0 d1
          by_cases h1 : 97 ≤ c ∧ c ≤ 102
          · rw [if_pos h1] at d1; omega
          · rw [if_neg h1] at d0 d1
            by_cases h2 : 65 ≤ c ∧ c ≤ 70
            · rw [if_pos h2] at d1; omega
            · rw [if_neg h2] at d0; omega
      obtain ⟨g0, g1⟩ := hg
      have hd : dgt c = c - 48 := by unfold dgt; rw [if_pos ⟨g0, g1⟩]
      rw [hd] at hnx
      clear d0 d1 hd
      have iov : a * 10 + (c - 48) < 18446744073709551616 := by omega
      have HN : Hid (a * 10 + (c - 48) = numB 10 ((bytesOf t).take (k + 1))) := Lib.hid hnx.symm
      clear hnx
      go_wp2
      refine ⟨⟨k + 1, a * 10 + (c - 48), rfl, (by first | rfl | (congr 1; omega)), (by first | rfl | (congr 1; omega)), by omega, HN⟩, by simp [Go.RowKit.intOf]; omega⟩
    · have hkk : k = t.size := by omega
      subst hkk
      have hE := HE.out
      have hE2 := hh.out.trans hE
      clear hE hh HA HE HZ hB hcv
      subst hE2
      go_wp2
      go_ret2
      exact ⟨rfl, rfl⟩

set_option maxHeartbeats 8000000 in
set_option maxRecDepth 100000 in
theorem ParseIntIn16 (t : ByteArray) (hne : t.size ≠ 0) (h13 : t.size ≤ 13) (hok : okB 16 (bytesOf t) = true) (w : World) :
    Calls Tryz.prog 100 #[.string t, .int .i64 16, .int .i64 64] w fun e w' => e = .returned (.tuple #[.int .i64 (numB 16 (bytesOf t)), .nilIface]) ∧ w' = Lib.bytesWorld w 5 t := by
  have hU := ParseUint16 t hne h13 hok w
  have hemp : t.toList.isEmpty = false := by
    rw [← decide_eq_emptyBytes]
    exact decide_eq_false (fun h => hne (by rw [h]; rfl))
  have hlen : (bytesOf t).length = t.size := bytesOf_length t
  have hb := numB_bound 16 (bytesOf t) (by decide) hok t.size
  have hp := pow_small (b := 16) (.inr rfl) (m := 13) (.inr ⟨rfl, Nat.le_refl _⟩) (k := t.size) h13
  rw [← hlen, List.take_length, hlen, Nat.min_self] at hb
  have hpos : 0 < t.size := by omega
  have hm : (bytesOf t).getD 0 0 ∈ bytesOf t := by
    rw [List.getD_eq_getElem?_getD, List.getElem?_eq_getElem (by omega)]
    exact List.getElem_mem (by omega)
  have h1 := okB_at hok _ hm
  obtain ⟨c0, hs0, hc0⟩ : ∃ c0 : UInt8, t[0]'hpos = c0 ∧ (bytesOf t).getD 0 0 = (c0.toNat : Int) := by
    refine ⟨_, rfl, ?_⟩
    have h' : 0 < t.data.toList.length := by rw [data_length]; exact hpos
    simp only [bytesOf, List.getD_eq_getElem?_getD, List.getElem?_map, List.getElem?_eq_getElem h', Option.map_some, Option.getD_some]
    rfl
  rw [hc0] at h1
  have i43 : ¬ (c0.toNat : Int) = 43 := by
    intro h
    rw [h] at h1
    exact absurd h1.1 (by decide)
  have i45 : ¬ (c0.toNat : Int) = 45 := by
    intro h
    rw [h] at h1
    exact absurd h1.1 (by decide)
  obtain ⟨a, ha⟩ : ∃ a : Int, numB 16 (bytesOf t) = a := ⟨_, rfl⟩
  rw [ha] at hU hb ⊢
  obtain ⟨a0, a1⟩ := hb
  have iin : a < 9223372036854775808 := by omega
  have a2 : a ≤ 18446744073709551615 := by omega
  clear ha h1 hm hp a1 hc0 hok hlen
  go_enter Tryz.func100, Tryz.ntmps100
  go_wp2_with (go_at_call 104; refine hU.mono ?_; rintro e w1 ⟨rfl, rfl⟩)
  go_wp2
  go_ret2
  exact ⟨rfl, rfl⟩
set_option maxHeartbeats 8000000 in
set_option maxRecDepth 100000 in
theorem ParseInt16 (t : ByteArray) (hne : t.size ≠ 0) (h13 : t.size ≤ 13) (hok : okB 16 (bytesOf t) = true) (w : World) :
    Calls Tryz.prog 84 #[.string t, .int .i64 16, .int .i64 64] w fun e w' => e = .returned (.tuple #[.int .i64 (numB 16 (bytesOf t)), .nilIface]) ∧ w' = Lib.bytesWorld w 5 t := by
  have hI := ParseIntIn16 t hne h13 hok w
  clear hok
  go_enter Tryz.func84, Tryz.ntmps84
  go_wp2_with (go_at_call 100; refine hI.mono ?_; rintro e w1 ⟨rfl, rfl⟩)
  go_wp2
  go_ret2
  exact ⟨rfl, rfl⟩

set_option maxHeartbeats 8000000 in
set_option maxRecDepth 100000 in
theorem ParseIntIn10 (t : ByteArray) (hne : t.size ≠ 0) (h13 : t.size ≤ 15) (hok : okB 10 (bytesOf t) = true) (w : World) :
    Calls Tryz.prog 100 #[.string t, .int .i64 10, .int .i64 64] w fun e w' => e = .returned (.tuple #[.int .i64 (numB 10 (bytesOf t)), .nilIface]) ∧ w' = Lib.bytesWorld w 5 t := by
  have hU := ParseUint10 t hne h13 hok w
  have hemp : t.toList.isEmpty = false := by
    rw [← decide_eq_emptyBytes]
    exact decide_eq_false (fun h => hne (by rw [h]; rfl))
  have hlen : (bytesOf t).length = t.size := bytesOf_length t
  have hb := numB_bound 10 (bytesOf t) (by decide) hok t.size
  have hp := pow_small (b := 10) (.inl rfl) (m := 15) (.inl ⟨rfl, Nat.le_refl _⟩) (k := t.size) h13
  rw [← hlen, List.take_length, hlen, Nat.min_self] at hb
  have hpos : 0 < t.size := by omega
  have hm : (bytesOf t).getD 0 0 ∈ bytesOf t := by
    rw [List.getD_eq_getElem?_getD, List.getElem?_eq_getElem (by omega)]
    exact List.getElem_mem (by omega)
  have h1 := okB_at hok _ hm
  obtain ⟨c0, hs0, hc0⟩ : ∃ c0 : UInt8, t[0]'hpos = c0 ∧ (bytesOf t).getD 0 0 = (c0.toNat : Int) := by
    refine ⟨_, rfl, ?_⟩
    have h' : 0 < t.data.toList.length := by rw [data_length]; exact hpos
    simp only [bytesOf, List.getD_eq_getElem?_getD, List.getElem?_map, List.getElem?_eq_getElem h', Option.map_some, Option.getD_some]
    rfl
  rw [hc0] at h1
  have i43 : ¬ (c0.toNat : Int) = 43 := by
    intro h
    rw [h] at h1
    exact absurd h1.1 (by decide)
  have i45 : ¬ (c0.toNat : Int) = 45 := by
    intro h
    rw [h] at h1
    exact absurd h1.1 (by decide)
  obtain ⟨a, ha⟩ : ∃ a : Int, numB 10 (bytesOf t) = a := ⟨_, rfl⟩
  rw [ha] at hU hb ⊢
  obtain ⟨a0, a1⟩ := hb
  have iin : a < 9223372036854775808 := by omega
  have a2 : a ≤ 18446744073709551615 := by omega
  clear ha h1 hm hp a1 hc0 hok hlen
  go_enter Tryz.func100, Tryz.ntmps100
  go_wp2_with (go_at_call 104; refine hU.mono ?_; rintro e w1 ⟨rfl, rfl⟩)
  go_wp2
  go_ret2
  exact ⟨rfl, rfl⟩
set_option maxHeartbeats 8000000 in
set_option maxRecDepth 100000 in
theorem ParseInt10 (t : ByteArray) (hne : t.size ≠ 0) (h13 : t.size ≤ 15) (hok : okB 10 (bytesOf t) = true) (w : World) :
    Calls Tryz.prog 84 #[.string t, .int .i64 10, .int .i64 64] w fun e w' => e = .returned (.tuple #[.int .i64 (numB 10 (bytesOf t)), .nilIface]) ∧ w' = Lib.bytesWorld w 5 t := by
  have hI := ParseIntIn10 t hne h13 hok w
  clear hok
  go_enter Tryz.func84, Tryz.ntmps84
  go_wp2_with (go_at_call 100; refine hI.mono ?_; rintro e w1 ⟨rfl, rfl⟩)
  go_wp2
  go_ret2
  exact ⟨rfl, rfl⟩

/-- What is told of strconv.ParseInt: the number of few digits at base 10 or 16. -/
def strconv_ParseInt.f (a0 : ByteArray) (a1 a2 : Int) : Option (Int × Option Int) :=
  if a2 = 64 ∧ a0.size ≠ 0 ∧ okB a1 (bytesOf a0) = true ∧ ((a1 = 16 ∧ a0.size ≤ 13) ∨ (a1 = 10 ∧ a0.size ≤ 15)) then some (numB a1 (bytesOf a0), none) else none
theorem strconv_ParseInt.calls (a0 : ByteArray) (a1 a2 : Int) (r1 : Int) (r2 : Option Int) (w : World) (h : strconv_ParseInt.f a0 a1 a2 = some (r1, r2)) :
    Calls Tryz.prog 84 #[.string a0, .int .i64 a1, .int .i64 a2] w fun e w' => e = .returned (.tuple #[.int .i64 r1, errW r2]) ∧ Below w.heap.size w w' := by
  unfold strconv_ParseInt.f at h
  split at h
  · rename_i hc
    obtain ⟨rfl, hne, hok, hb⟩ := hc
    have e := Option.some.inj h
    rw [Prod.mk.injEq] at e
    obtain ⟨rfl, rfl⟩ := e
    rcases hb with ⟨rfl, hs⟩ | ⟨rfl, hs⟩
    · refine (ParseInt16 a0 hne hs hok w).mono ?_
      rintro e w' ⟨rfl, rfl⟩
      exact ⟨rfl, Lib.bytesWorld_below _ _ _⟩
    · refine (ParseInt10 a0 hne hs hok w).mono ?_
      rintro e w' ⟨rfl, rfl⟩
      exact ⟨rfl, Lib.bytesWorld_below _ _ _⟩
  · cases h
end Go.Proofs.YtonimccihcodnaaGreatDoor.P
namespace Go.Proofs.YtonimccihcodnaaGreatDoor.P
open Go.RowKit Go.Proofs.YtonimccihcodnaaGreatDoorW.PrintWords Go.Proofs.YtonimccihcodnaaGreatDoorW.PrintLast Go.Proofs.YtonimccihcodnaaGreatDoorW.PrintMore
attribute [local go_sem] max2_int min2_int max_two min_two max_three min_three max_four min_four   -- for this text's walks alone
set_option linter.unusedVariables false
set_option linter.unusedSimpArgs false

/-! ### impl_TokenOk_1: function 43 -/
def impl_TokenOk_1.f (a0 : Int) : Option (Bool) := (impl_isLetter.f a0).bind fun t101 => (if t101 = true then (some true) else ((impl_isDigit.f a0).bind fun t102 => (if t102 = true then (some true) else ((strings_IndexByte.f (⟨#[33, 35, 36, 37, 38, 39, 42, 43, 45, 46, 94, 95, 124, 126, 96]⟩ : ByteArray) a0).bind fun t103 => (some (decide (t103 ≥ 0)))))))
set_option maxHeartbeats 8000000 in
set_option maxRecDepth 100000 in
theorem impl_TokenOk_1.calls (a0 : Int) (r : Bool) (w : World) (h : impl_TokenOk_1.f a0 = some r) :
  Calls Tryz.prog 43 #[.int .u8 a0] w fun e w' => e = .returned (.bool r) ∧ Drawn0 w w' := by
 have H : ((impl_isLetter.f a0).bind fun t101 => (if t101 = true then (some true) else ((impl_isDigit.f a0).bind fun t102 => (if t102 = true then (some true) else ((strings_IndexByte.f (⟨#[33, 35, 36, 37, 38, 39, 42, 43, 45, 46, 94, 95, 124, 126, 96]⟩ : ByteArray) a0).bind fun t103 => (some (decide (t103 ≥ 0)))))))) = some r := h
 clear h
 obtain ⟨t101, A20, H⟩ := Option.bind_eq_some_iff.mp H
 try dsimp only at H
 have A2 := Aside0.mk A20
 clear A20
 by_cases c3 : t101 = true
 ·
  subst c3
  have H1 : (some true) = some r := by rw [if_pos rfl] at H; exact H
  clear H
  have H := H1
  clear H1
  obtain rfl := Option.some.inj H
  go_enter Tryz.func43, Tryz.ntmps43
  go_wp2_with (first | ((with_reducible refine gate_callee (f := 44) rfl ?_); refine goesL_ (some 4) rfl rfl Tryz.func44 (by kernel_rfl) rfl #[.int .u8 a0] rfl mc ?_; (with_reducible refine (impl_isLetter.calls a0 true _ A2.out).mono ?_); rintro e w' ⟨rfl, ⟨nd, rfl⟩⟩; refine ⟨_, rfl, ?_⟩))
  go_ret
  exact ⟨by first | rfl | (simp; done) | (simp [*]; done), by repeat (first | exact Drawn0.refl _ | apply Drawn0.step)⟩
 ·
  replace c3 := Bool.eq_false_iff.mpr c3
  subst c3
  rw [if_neg (show ¬ (false = true) by decide)] at H
  obtain ⟨t102, A40, H⟩ := Option.bind_eq_some_iff.mp H
  try dsimp only at H
  have A4 := Aside0.mk A40
  clear A40
  by_cases c5 : t102 = true
  ·
   subst c5
   have H1 : (some true) = some r := by rw [if_pos rfl] at H; exact H
   clear H
   have H := H1
   clear H1
   obtain rfl := Option.some.inj H
   go_enter Tryz.func43, Tryz.ntmps43
   go_wp2_with (first | ((with_reducible refine gate_callee (f := 44) rfl ?_); refine goesL_ (some 4) rfl rfl Tryz.func44 (by kernel_rfl) rfl #[.int .u8 a0] rfl mc ?_; (with_reducible refine (impl_isLetter.calls a0 false _ A2.out).mono ?_); rintro e w' ⟨rfl, ⟨nd, rfl⟩⟩; refine ⟨_, rfl, ?_⟩) | (go_at_call 45; (with_reducible refine (impl_isDigit.calls a0 true _ A4.out).mono ?_); rintro e w' ⟨rfl, ⟨nd, rfl⟩⟩))
   go_ret
   exact ⟨by first | rfl | (simp; done) | (simp [*]; done), by repeat (first | exact Drawn0.refl _ | apply Drawn0.step)⟩
  ·
   replace c5 := Bool.eq_false_iff.mpr c5
   subst c5
   rw [if_neg (show ¬ (false = true) by decide)] at H
   replace H := Option.bind_eq_some_iff.mp H
   obtain ⟨t103, A60, H⟩ := H
   replace H : (some (decide (t103 ≥ 0))) = some r := H
   have A6 := Aside0.mk A60
   clear A60
   obtain rfl := Option.some.inj H
   go_enter Tryz.func43, Tryz.ntmps43
   go_wp2_with (first | ((with_reducible refine gate_callee (f := 44) rfl ?_); refine goesL_ (some 4) rfl rfl Tryz.func44 (by kernel_rfl) rfl #[.int .u8 a0] rfl mc ?_; (with_reducible refine (impl_isLetter.calls a0 false _ A2.out).mono ?_); rintro e w' ⟨rfl, ⟨nd, rfl⟩⟩; refine ⟨_, rfl, ?_⟩) | (go_at_call 45; (with_reducible refine (impl_isDigit.calls a0 false _ A4.out).mono ?_); rintro e w' ⟨rfl, ⟨nd, rfl⟩⟩) | (go_at_call 46; (with_reducible refine (strings_IndexByte.calls (⟨#[33, 35, 36, 37, 38, 39, 42, 43, 45, 46, 94, 95, 124, 126, 96]⟩ : ByteArray) a0 t103 _ A6.out).mono ?_); rintro e w' ⟨rfl, ⟨nd, rfl⟩⟩))
   go_ret
   exact ⟨by first | rfl | (simp; done) | (simp [*]; done), by repeat (first | exact Drawn0.refl _ | apply Drawn0.step)⟩
/-! ### impl_isHex: function 83 -/
def impl_isHex.f (a0 : Int) : Option (Bool) := (impl_isDigit.f a0).bind fun t101 => (if t101 = true then (some true) else (if a0 ≥ 97 then (if a0 ≤ 102 then (some true) else (if a0 ≥ 65 then (some (decide (a0 ≤ 70))) else (some false))) else (if a0 ≥ 65 then (some (decide (a0 ≤ 70))) else (some false))))
set_option maxHeartbeats 8000000 in
set_option maxRecDepth 100000 in
theorem impl_isHex.calls (a0 : Int) (r : Bool) (w : World) (h : impl_isHex.f a0 = some r) :
  Calls Tryz.prog 83 #[.int .u8 a0] w fun e w' => e = .returned (.bool r) ∧ Drawn0 w w' := by
 have H : ((impl_isDigit.f a0).bind fun t101 => (if t101 = true then (some true) else (if a0 ≥ 97 then (if a0 ≤ 102 then (some true) else (if a0 ≥ 65 then (some (decide (a0 ≤ 70))) else (some false))) else (if a0 ≥ 65 then (some (decide (a0 ≤ 70))) else (some false))))) = some r := h
 clear h
 obtain ⟨t101, A20, H⟩ := Option.bind_eq_some_iff.mp H
 try dsimp only at H
 have A2 := Aside0.mk A20
 clear A20
 by_cases c3 : t101 = true
 ·
  subst c3
  have H1 : (some true) = some r := by rw [if_pos rfl] at H; exact H
  clear H
  have H := H1
  clear H1
  obtain rfl := Option.some.inj H
  go_enter Tryz.func83, Tryz.ntmps83
  go_wp2_with (first | ((with_reducible refine gate_callee (f := 45) rfl ?_); refine goesL_ (some 4) rfl rfl Tryz.func45 (by kernel_rfl) rfl #[.int .u8 a0] rfl mc ?_; (with_reducible refine (impl_isDigit.calls a0 true _ A2.out).mono ?_); rintro e w' ⟨rfl, ⟨nd, rfl⟩⟩; refine ⟨_, rfl, ?_⟩))
  go_ret
  exact ⟨by first | rfl | (simp; done) | (simp [*]; done), by repeat (first | exact Drawn0.refl _ | apply Drawn0.step)⟩
 ·
  replace c3 := Bool.eq_false_iff.mpr c3
  subst c3
  rw [if_neg (show ¬ (false = true) by decide)] at H
  by_cases c4 : a0 ≥ 97
  ·
   rw [if_pos c4] at H
   have c4b0 : decide (97 ≤ a0) = true := decide_eq_true c4
   clear c4
   by_cases c5 : a0 ≤ 102
   ·
    rw [if_pos c5] at H
    have c5b0 : decide (a0 ≤ 102) = true := decide_eq_true c5
    clear c5
    obtain rfl := Option.some.inj H
    go_enter Tryz.func83, Tryz.ntmps83
    go_wp2_with (first | ((with_reducible refine gate_callee (f := 45) rfl ?_); refine goesL_ (some 4) rfl rfl Tryz.func45 (by kernel_rfl) rfl #[.int .u8 a0] rfl mc ?_; (with_reducible refine (impl_isDigit.calls a0 false _ A2.out).mono ?_); rintro e w' ⟨rfl, ⟨nd, rfl⟩⟩; refine ⟨_, rfl, ?_⟩))
    go_ret
    exact ⟨by first | rfl | (simp; done) | (simp [*]; done), by repeat (first | exact Drawn0.refl _ | apply Drawn0.step)⟩
   ·
    rw [if_neg c5] at H
    have c5b0 : decide (a0 ≤ 102) = false := decide_eq_false c5
    clear c5
    by_cases c6 : a0 ≥ 65
    ·
     rw [if_pos c6] at H
     have c6b0 : decide (65 ≤ a0) = true := decide_eq_true c6
     clear c6
     obtain rfl := Option.some.inj H
     go_enter Tryz.func83, Tryz.ntmps83
     go_wp2_with (first | ((with_reducible refine gate_callee (f := 45) rfl ?_); refine goesL_ (some 4) rfl rfl Tryz.func45 (by kernel_rfl) rfl #[.int .u8 a0] rfl mc ?_; (with_reducible refine (impl_isDigit.calls a0 false _ A2.out).mono ?_); rintro e w' ⟨rfl, ⟨nd, rfl⟩⟩; refine ⟨_, rfl, ?_⟩))
     go_ret
     exact ⟨by first | rfl | (simp; done) | (simp [*]; done), by repeat (first | exact Drawn0.refl _ | apply Drawn0.step)⟩
    ·
     rw [if_neg c6] at H
     have c6b0 : decide (65 ≤ a0) = false := decide_eq_false c6
     clear c6
     obtain rfl := Option.some.inj H
     go_enter Tryz.func83, Tryz.ntmps83
     go_wp2_with (first | ((with_reducible refine gate_callee (f := 45) rfl ?_); refine goesL_ (some 4) rfl rfl Tryz.func45 (by kernel_rfl) rfl #[.int .u8 a0] rfl mc ?_; (with_reducible refine (impl_isDigit.calls a0 false _ A2.out).mono ?_); rintro e w' ⟨rfl, ⟨nd, rfl⟩⟩; refine ⟨_, rfl, ?_⟩))
     go_ret
     exact ⟨by first | rfl | (simp; done) | (simp [*]; done), by repeat (first | exact Drawn0.refl _ | apply Drawn0.step)⟩
  ·
   rw [if_neg c4] at H
   have c4b0 : decide (97 ≤ a0) = false := decide_eq_false c4
   clear c4
   by_cases c7 : a0 ≥ 65
   ·
    rw [if_pos c7] at H
    have c7b0 : decide (65 ≤ a0) = true := decide_eq_true c7
    clear c7
    obtain rfl := Option.some.inj H
    go_enter Tryz.func83, Tryz.ntmps83
    go_wp2_with (first | ((with_reducible refine gate_callee (f := 45) rfl ?_); refine goesL_ (some 4) rfl rfl Tryz.func45 (by kernel_rfl) rfl #[.int .u8 a0] rfl mc ?_; (with_reducible refine (impl_isDigit.calls a0 false _ A2.out).mono ?_); rintro e w' ⟨rfl, ⟨nd, rfl⟩⟩; refine ⟨_, rfl, ?_⟩))
    go_ret
    exact ⟨by first | rfl | (simp; done) | (simp [*]; done), by repeat (first | exact Drawn0.refl _ | apply Drawn0.step)⟩
   ·
    rw [if_neg c7] at H
    have c7b0 : decide (65 ≤ a0) = false := decide_eq_false c7
    clear c7
    obtain rfl := Option.some.inj H
    go_enter Tryz.func83, Tryz.ntmps83
    go_wp2_with (first | ((with_reducible refine gate_callee (f := 45) rfl ?_); refine goesL_ (some 4) rfl rfl Tryz.func45 (by kernel_rfl) rfl #[.int .u8 a0] rfl mc ?_; (with_reducible refine (impl_isDigit.calls a0 false _ A2.out).mono ?_); rintro e w' ⟨rfl, ⟨nd, rfl⟩⟩; refine ⟨_, rfl, ?_⟩))
    go_ret
    exact ⟨by first | rfl | (simp; done) | (simp [*]; done), by repeat (first | exact Drawn0.refl _ | apply Drawn0.step)⟩
end Go.Proofs.YtonimccihcodnaaGreatDoor.P
namespace Go.Proofs.YtonimccihcodnaaGreatDoor.P
set_option linter.unusedVariables false
set_option linter.unusedSimpArgs false
open Go.RowKit Go.Lib Go.Shelf Go.Proofs.YtonimccihcodnaaGreatDoorW.PrintWords Go.Proofs.YtonimccihcodnaaGreatDoorW.PrintLast Go.Proofs.YtonimccihcodnaaGreatDoorW.PrintMore

/-- The function that 'all' makes out of a predicate g: 'not g'. -/
theorem all_pred (g : Nat) (p : Int → Bool) (B : Nat) (w : World) (hB : B < w.heap.size) (hcell : w.cell? ⟨B, 0, none⟩ = some (.func (.func g) #[] #[]))
    (eg : ∀ args w, (callFunc g args).run Tryz.prog w = .ok (.enter g args) w) (hp : PredAt Tryz.prog g #[] (Value.int .u8) p w) :
    PredAt Tryz.prog 62 #[.pointer (some ⟨B, 0, none⟩)] (Value.int .u8) (fun x => !p x) w := fun W x hb => by
  have hc : W.cell? ⟨B, 0, none⟩ = some (.func (.func g) #[] #[]) := (hb.cell (p := ⟨B, 0, none⟩) hB).trans hcell
  have hcall := hp W x hb
  show Calls Tryz.prog 62 #[.int .u8 x, .pointer (some ⟨B, 0, none⟩)] W _
  unfold FnGives at hcall
  obtain ⟨y, hy⟩ : ∃ y, p x = y := ⟨_, rfl⟩
  rw [hy] at hcall
  have Hy := Lib.hid hy
  clear hy
  go_enter Tryz.func62, Tryz.ntmps62
  go_wp2_with (go_at_fn g; refine hcall.mono ?_; rintro e w' ⟨rfl, q, rfl⟩)
  go_ret
  exact ⟨by rw [Hy.out]; rfl, _, rfl⟩

theorem any_not (l : List Int) (p : Int → Bool) : l.any (fun x => !p x) = !(l.all p) := by
  induction l with
  | nil => rfl
  | cons a l ih => simp [List.any_cons, List.all_cons, ih]
theorem below_bytesWorld {w W : World} (h : Below w.heap.size w W) (hle : w.heap.size ≤ W.heap.size) (e : TypeId) (s : ByteArray) : Below w.heap.size w (bytesWorld W e s) :=
  ⟨h.os, h.tape, h.output, by rw [bytesWorld_size]; omega, fun j hj => (bytesWorld_at_old W e s j (by omega)).trans (h.block j hj)⟩

set_option maxHeartbeats 1000000 in
/-- 'all', of whatever predicate that only reads. -/
theorem all_any (g : Nat) (p : Int → Bool) (s : ByteArray) (w : World)
    (eg : ∀ args w, (callFunc g args).run Tryz.prog w = .ok (.enter g args) w) (hp : PredAt Tryz.prog g #[] (Value.int .u8) p w) (hs : s.size ≤ 9223372036854775807) :
    Calls Tryz.prog 42 #[.string s, .func (.func g) #[] #[]] w fun e w' => e = .returned (.bool ((bytesOf s).all p)) ∧ Below w.heap.size w w' := by
  have eg1 : ∀ args w, (callFunc 62 args).run Tryz.prog w = .ok (.enter 62 args) w := enters_of Tryz.func62 (by kernel_rfl) rfl
  have kc := fun W : World => Lib.run_convert_string_bytes (P := Tryz.prog) W 9 25 5 s Tryz.underlying9 Tryz.underlying25 Tryz.underlying5
  have hB0 : Below w.heap.size w (bytesWorld (w.alloc (.cells #[.func (.func g) #[] #[]] 49)) 5 s) := below_bytesWorld ((Below.refl _ w).alloc (Nat.le_refl _) _) (by simp) 5 s
  have hcon := fun c => AnyE.slices_ContainsFunc Tryz.layCFb (Value.int .u8) (fun x => !p x) 62 #[.pointer (some ⟨w.heap.size, 0, none⟩)] eg1 (w.heap.size + 1) 0 s.size c (bytesOf s) (bytesWorld (w.alloc (.cells #[.func (.func g) #[] #[]] 49)) 5 s)
    (all_pred g p w.heap.size _ (by rw [bytesWorld_size]; simp; omega) (by rw [bytesWorld_old _ _ _ _ (by simp)]; simp) eg (hp.later hB0)) (by rw [bytesOf_length]; exact Nat.le_refl _) hs
    (fun j hj => by
      have hj' : j < s.size := by rw [bytesOf_length] at hj; exact hj
      have h1 := bytesWorld_cell (w.alloc (.cells #[.func (.func g) #[] #[]] 49)) 5 s j hj'
      rw [Nat.zero_add]
      have h2 : (w.alloc (.cells #[.func (.func g) #[] #[]] 49)).heap.size = w.heap.size + 1 := by simp
      rw [h2] at h1
      rw [h1]
      simp [bytesOf, hj'])
  change ∀ c, Calls Tryz.prog 61 _ _ _ at hcon
  have hany : ((bytesOf s).take s.size).any (fun x => !p x) = !((bytesOf s).all p) := by
    rw [List.take_of_length_le (by rw [bytesOf_length]; exact Nat.le_refl _)]
    exact any_not _ _
  rw [hany] at hcon
  have HB := Lib.hid (fun q => below_drewN' hB0 q)
  clear hany hB0
  obtain ⟨y, hy⟩ : ∃ y, (bytesOf s).all p = y := ⟨_, rfl⟩
  rw [hy] at hcon
  have H1 := Lib.hid hy
  clear hy
  go_enter Tryz.func42, Tryz.ntmps42
  go_wp2_with fail
  refine (hcon _).mono ?_
  rintro e w' ⟨rfl, q, rfl⟩
  go_wp2_with fail
  go_ret
  exact ⟨by rw [H1.out]; rfl, HB.out _⟩

theorem tot_ite {α : Type} {c : Prop} [Decidable c] {x y : Option α} (hx : ∃ b, x = some b) (hy : ∃ b, y = some b) : ∃ b, (if c then x else y) = some b := by
  split
  · exact hx
  · exact hy
theorem tot_bind {α β : Type} {x : Option α} {f : α → Option β} (hx : ∃ a, x = some a) (hf : ∀ a, ∃ b, f a = some b) : ∃ b, x.bind f = some b := by
  obtain ⟨a, rfl⟩ := hx
  exact hf a

/-- A printed predicate, as 'PredAt' asks it. -/
theorem predAt_of (g : Nat) (f : Int → Option Bool) (w : World) (ht : ∀ x, ∃ b, f x = some b)
    (hc : ∀ (x : Int) (r : Bool) (W : World), f x = some r → Calls Tryz.prog g #[.int .u8 x] W fun e w' => e = .returned (.bool r) ∧ Drawn0 W w') :
    PredAt Tryz.prog g #[] (Value.int .u8) (fun x => f x == some true) w := fun W x _ => by
  obtain ⟨b, hb⟩ := ht x
  unfold FnGives
  refine (hc x b W hb).mono ?_
  rintro e w' ⟨rfl, q, rfl⟩
  refine ⟨?_, q, rfl⟩
  simp only [hb]
  cases b <;> rfl

theorem total_impl_isHex (x : Int) : ∃ b, impl_isHex.f x = some b := by unfold impl_isHex.f; (repeat' first | exact ⟨_, rfl⟩ | refine tot_ite ?_ ?_ | refine tot_bind ?_ ?_ | intro _ | unfold impl_isDigit.f | unfold impl_isLetter.f | unfold strings_IndexByte.f)
theorem total_impl_isDigit (x : Int) : ∃ b, impl_isDigit.f x = some b := by unfold impl_isDigit.f; (repeat' first | exact ⟨_, rfl⟩ | refine tot_ite ?_ ?_ | refine tot_bind ?_ ?_ | intro _ | unfold impl_isDigit.f | unfold impl_isLetter.f | unfold strings_IndexByte.f)
theorem total_impl_TokenOk_1 (x : Int) : ∃ b, impl_TokenOk_1.f x = some b := by unfold impl_TokenOk_1.f; (repeat' first | exact ⟨_, rfl⟩ | refine tot_ite ?_ ?_ | refine tot_bind ?_ ?_ | intro _ | unfold impl_isDigit.f | unfold impl_isLetter.f | unfold strings_IndexByte.f)

/-- 'all' at the function number a1. -/
def impl_all.f (a0 : ByteArray) (a1 : Nat) : Option Bool :=
  if a0.size ≤ 9223372036854775807 then
    if a1 = 83 then some ((bytesOf a0).all fun c => impl_isHex.f c == some true) else
    if a1 = 45 then some ((bytesOf a0).all fun c => impl_isDigit.f c == some true) else
    if a1 = 43 then some ((bytesOf a0).all fun c => impl_TokenOk_1.f c == some true) else
    none
  else none
theorem impl_all.calls (a0 : ByteArray) (a1 : Nat) (r : Bool) (w : World) (h : impl_all.f a0 a1 = some r) :
    Calls Tryz.prog 42 #[.string a0, .func (.func a1) #[] #[]] w fun e w' => e = .returned (.bool r) ∧ Below w.heap.size w w' := by
  unfold impl_all.f at h
  split at h
  · rename_i hs
    split at h
    · rename_i e
      subst e
      obtain rfl := Option.some.inj h
      exact all_any _ _ a0 w (enters_of Tryz.func83 (by kernel_rfl) rfl) (predAt_of _ _ w total_impl_isHex fun x r W hx => impl_isHex.calls x r W hx) hs
    split at h
    · rename_i e
      subst e
      obtain rfl := Option.some.inj h
      exact all_any _ _ a0 w (enters_of Tryz.func45 (by kernel_rfl) rfl) (predAt_of _ _ w total_impl_isDigit fun x r W hx => impl_isDigit.calls x r W hx) hs
    split at h
    · rename_i e
      subst e
      obtain rfl := Option.some.inj h
      exact all_any _ _ a0 w (enters_of Tryz.func43 (by kernel_rfl) rfl) (predAt_of _ _ w total_impl_TokenOk_1 fun x r W hx => impl_TokenOk_1.calls x r W hx) hs
    · cases h
  · cases h
end Go.Proofs.YtonimccihcodnaaGreatDoor.P
namespace Go.Proofs.YtonimccihcodnaaGreatDoor.P
open Go.RowKit Go.Proofs.YtonimccihcodnaaGreatDoorW.PrintWords Go.Proofs.YtonimccihcodnaaGreatDoorW.PrintLast Go.Proofs.YtonimccihcodnaaGreatDoorW.PrintMore
attribute [local go_sem] max2_int min2_int max_two min_two max_three min_three max_four min_four   -- for this text's walks alone
set_option linter.unusedVariables false
set_option linter.unusedSimpArgs false

/-! ### impl_HexDigits: function 58 -/
def impl_HexDigits.f (a0 : ByteArray) : Option (Int × Bool) := if (a0.size : Int) < 1 then (some (0, false)) else (if (a0.size : Int) > 13 then (some (0, false)) else ((impl_all.f a0 83).bind fun t101 => (if t101 = true then ((strconv_ParseInt.f a0 16 64).bind fun bt102 => (some (bt102.1, true))) else (some (0, false)))))
set_option maxHeartbeats 8000000 in
set_option maxRecDepth 100000 in
theorem impl_HexDigits.calls (a0 : ByteArray) (r1 : Int) (r2 : Bool) (w : World) (h : impl_HexDigits.f a0 = some (r1, r2)) :
  Calls Tryz.prog 58 #[.string a0] w fun e w' => e = .returned (.tuple #[.int .i64 r1, .bool r2]) ∧ Below w.heap.size w w' := by
 have HB := Aside0.mk (Below.refl w.heap.size w)
 have H : (if (a0.size : Int) < 1 then (some (0, false)) else (if (a0.size : Int) > 13 then (some (0, false)) else ((impl_all.f a0 83).bind fun t101 => (if t101 = true then ((strconv_ParseInt.f a0 16 64).bind fun bt102 => (some (bt102.1, true))) else (some (0, false)))))) = some (r1, r2) := h
 clear h
 by_cases c2 : (a0.size : Int) < 1
 ·
  rw [if_pos c2] at H
  have c2b0 : decide ((a0.size : Int) < 1) = true := decide_eq_true c2
  have c2b1 : decide (a0.size < 1) = true := decide_eq_true (by omega)
  clear c2
  simp only [Option.some.injEq, Prod.mk.injEq] at H
  obtain ⟨rfl, rfl⟩ := H
  go_enter Tryz.func58, Tryz.ntmps58
  go_wp2
  go_ret2
  exact ⟨er, bh⟩
 ·
  rw [if_neg c2] at H
  have c2b0 : decide ((a0.size : Int) < 1) = false := decide_eq_false c2
  have c2b1 : decide (a0.size < 1) = false := decide_eq_false (by omega)
  clear c2
  by_cases c3 : (a0.size : Int) > 13
  ·
   rw [if_pos c3] at H
   have c3b0 : decide (13 < (a0.size : Int)) = true := decide_eq_true c3
   have c3b1 : decide (13 < a0.size) = true := decide_eq_true (by omega)
   clear c3
   simp only [Option.some.injEq, Prod.mk.injEq] at H
   obtain ⟨rfl, rfl⟩ := H
   go_enter Tryz.func58, Tryz.ntmps58
   go_wp2
   go_ret2
   exact ⟨er, bh⟩
  ·
   rw [if_neg c3] at H
   have c3b0 : decide (13 < (a0.size : Int)) = false := decide_eq_false c3
   have c3b1 : decide (13 < a0.size) = false := decide_eq_false (by omega)
   clear c3
   obtain ⟨t101, A40, H⟩ := Option.bind_eq_some_iff.mp H
   try dsimp only at H
   have A4 := Aside0.mk A40
   clear A40
   by_cases c5 : t101 = true
   ·
    subst c5
    rw [if_pos rfl] at H
    replace H := Option.bind_eq_some_iff.mp H
    obtain ⟨⟨t102, t103⟩, A60, H⟩ := H
    replace H : (some (t102, true)) = some (r1, r2) := H
    have A6 := Aside0.mk A60
    clear A60
    simp only [Option.some.injEq, Prod.mk.injEq] at H
    obtain ⟨rfl, rfl⟩ := H
    go_enter Tryz.func58, Tryz.ntmps58
    go_wp2_with (first | (go_at_call 42; (with_reducible refine (impl_all.calls a0 83 true _ A4.out).mono ?_); rintro e w7 ⟨rfl, hb⟩; replace HB := Aside0.mk (below_step bh hb); (try clear hb); (try clear hb2); (try clear hk); (try clear hi)) | ((with_reducible refine gate_callee (f := 84) rfl ?_); refine goesL_ (some 21) rfl rfl Tryz.func84 (by kernel_rfl) rfl #[.string a0, .int .i64 16, .int .i64 64] rfl mc ?_; (with_reducible refine (strconv_ParseInt.calls a0 16 64 t102 t103 _ A6.out).mono ?_); rintro e w8 ⟨rfl, hb⟩; refine ⟨_, rfl, ?_⟩; replace HB := Aside0.mk (below_step bh hb); (try clear hb); (try clear hb2); (try clear hk); (try clear hi); (try simp only [errW_none, errW_some])))
    go_ret2
    exact ⟨er, bh⟩
   ·
    replace c5 := Bool.eq_false_iff.mpr c5
    subst c5
    have H1 : (some (0, false)) = some (r1, r2) := by rw [if_neg (show ¬ (false = true) by decide)] at H; exact H
    clear H
    have H := H1
    clear H1
    simp only [Option.some.injEq, Prod.mk.injEq] at H
    obtain ⟨rfl, rfl⟩ := H
    go_enter Tryz.func58, Tryz.ntmps58
    go_wp2_with (first | (go_at_call 42; (with_reducible refine (impl_all.calls a0 83 false _ A4.out).mono ?_); rintro e w9 ⟨rfl, hb⟩; replace HB := Aside0.mk (below_step bh hb); (try clear hb); (try clear hb2); (try clear hk); (try clear hi)))
    go_ret2
    exact ⟨er, bh⟩
/-! ### impl_Uncoded: function 38 -/
def impl_Uncoded.l0 : Nat → ByteArray → List Int → Int → Option (ByteArray × Bool)
 | 0, _, _, _ => none
 | k + 1, x0, x4, x5 => if x5 < (x0.size : Int) then (if 0 ≤ x5 then (if (bt x0 x5) = 37 then (if 0 ≤ (wrap64 (x5 + 1)) then (if (wrap64 (x5 + 1)) ≤ (mn (wrap64 (x5 + 3)) (x0.size : Int)) then (if (mn (wrap64 (x5 + 3)) (x0.size : Int)) ≤ (x0.size : Int) then ((impl_HexDigits.f (x0.extract ((wrap64 (x5 + 1)) : Int).toNat ((mn (wrap64 (x5 + 3)) (x0.size : Int)) : Int).toNat)).bind fun bt104 => (if bt104.2 = true then (if (wrap64 (x5 + 3)) > (x0.size : Int) then (some ((⟨#[]⟩ : ByteArray), false)) else (if x4.length < 140737488355328 then (impl_Uncoded.l0 k x0 (x4 ++ [(bt104.1) % 256]) (wrap64 ((wrap64 (x5 + 2)) + 1))) else (none))) else (some ((⟨#[]⟩ : ByteArray), false)))) else (none)) else (none)) else (none)) else (if x4.length < 140737488355328 then (impl_Uncoded.l0 k x0 (x4 ++ [bt x0 x5]) (wrap64 (x5 + 1))) else (none))) else (none)) else (some (strOfNums x4, true))
def impl_Uncoded.f (k : Nat) (a0 : ByteArray) : Option (ByteArray × Bool) := if (a0.size : Int) > 200 then (some ((⟨#[]⟩ : ByteArray), false)) else (impl_Uncoded.l0 k a0 (([] : List Int)) 0)
theorem impl_Uncoded.mono_l : ∀ k, (∀ y0 y1 y2, LeO (impl_Uncoded.l0 k y0 y1 y2) (impl_Uncoded.l0 (k + 1) y0 y1 y2))
 | 0 => fun _ _ _ r h => by simp [impl_Uncoded.l0] at h
 | k + 1 => by
  have ih0 := impl_Uncoded.mono_l k
  ·
   intro y0 y1 y2
   unfold impl_Uncoded.l0
   repeat' first
   | (with_reducible exact ih0 _ _ _)
   | (with_reducible exact LeO.refl _)
   | (with_reducible exact LeO.none _)
   | (with_reducible refine LeO.ite ?_ ?_)
   | (with_reducible refine LeO.bind ?_ (fun _ => ?_))
   | exact ih0 _ _ _
   | exact LeO.none _
   | refine LeO.ite ?_ ?_
   | refine LeO.bind ?_ (fun _ => ?_)
theorem impl_Uncoded.mono : ∀ a0 k, LeO (impl_Uncoded.f k a0) (impl_Uncoded.f (k + 1) a0) := by
 intro a0 k
 have ih0 := impl_Uncoded.mono_l k
 unfold impl_Uncoded.f
 repeat' first
   | (with_reducible exact ih0 _ _ _)
   | (with_reducible exact LeO.refl _)
   | (with_reducible exact LeO.none _)
   | (with_reducible refine LeO.ite ?_ ?_)
   | (with_reducible refine LeO.bind ?_ (fun _ => ?_))
   | exact ih0 _ _ _
   | exact LeO.none _
   | refine LeO.ite ?_ ?_
   | refine LeO.bind ?_ (fun _ => ?_)
set_option maxHeartbeats 8000000 in
set_option maxRecDepth 100000 in
theorem impl_Uncoded.calls (k : Nat) (a0 : ByteArray) (r1 : ByteArray) (r2 : Bool) (w : World) (h : impl_Uncoded.f k a0 = some (r1, r2)) :
  Calls Tryz.prog 38 #[.string a0] w fun e w' => e = .returned (.tuple #[.string r1, .bool r2]) ∧ Below w.heap.size w w' := by
 have HB := Aside0.mk (Below.refl w.heap.size w)
 have H : (if (a0.size : Int) > 200 then (some ((⟨#[]⟩ : ByteArray), false)) else (impl_Uncoded.l0 k a0 (([] : List Int)) 0)) = some (r1, r2) := h
 clear h
 by_cases c2 : (a0.size : Int) > 200
 ·
  rw [if_pos c2] at H
  have c2b0 : decide (200 < (a0.size : Int)) = true := decide_eq_true c2
  have c2b1 : decide (200 < a0.size) = true := decide_eq_true (by omega)
  clear c2
  simp only [Option.some.injEq, Prod.mk.injEq] at H
  obtain ⟨rfl, rfl⟩ := H
  go_enter Tryz.func38, Tryz.ntmps38
  go_wp2
  go_ret2
  exact ⟨er, bh⟩
 ·
  rw [if_neg c2] at H
  have c2b0 : decide (200 < (a0.size : Int)) = false := decide_eq_false c2
  have c2b1 : decide (200 < a0.size) = false := decide_eq_false (by omega)
  clear c2
  obtain ⟨y101, hy101⟩ : ∃ y_ : List Int, y_ = (([] : List Int)) := ⟨_, rfl⟩
  replace H : (impl_Uncoded.l0 k a0 y101 0) = some (r1, r2) := by first | (rw [hy101]; with_reducible exact H) | (have H2_ := (Option.bind_some _ _).symm.trans H; rw [hy101]; with_reducible exact H2_) | (have H2_ := (Option.bind_some _ _).symm.trans H; with_reducible exact H2_) | with_reducible exact H | (rw [hy101]; exact H) | exact H
  have Ny101 := Aside0.mk hy101
  clear hy101
  have H' := Aside0.mk H
  clear H
  go_enter Tryz.func38, Tryz.ntmps38
  go_wp2_with (first | ((with_reducible refine gate_dst (N := 11) rfl ?_); (try (refine gate_guard (by rfl) ?_; dsimp only)); refine Kd.R_lit (Kd.int .u8) _ 5 ?hg (N := 11) ?hd (xs := ([] : List Int)) (inner := []) (ok := fun _ => True) (okp := fun _ => True) ?hr ?hp (fun _ hk => hk) trivial (Below.refl _ _) (Nat.le_refl _) (by simp) ?_; (case hd => rfl); (case hg => rfl); (case hr => first | (go_simp; done) | (go_simp; rfl)); (case hp => exact (Reps.none _ _)); intro v102 w3 ho4 hb hg_ hnew_; clear hg_ hnew_; (first | rw [← Ny101.out] at ho4 | (simp only [Int.reduceToNat] at ho4; rw [← Ny101.out] at ho4)); have HO103 := Aside0.mk (Kd.R_lower ho4 (below_size bh)); replace HB := Aside0.mk (below_step bh hb); clear hb ho4))
  go_loopg [4, 5] k (fun kq v4 v5 w' => ∃ (x4_1 : List Int) (x5_1 : Int), v5 = .int .i64 x5_1 ∧ Aside0 (impl_Uncoded.l0 kq a0 x4_1 x5_1 = some (r1, r2)) ∧ Aside0 (kq ≤ k) ∧ Aside0 (Kd.R (Kd.int .u8) 5 w' w.heap.size (fun _ => True) v4 x4_1) ∧ Aside0 (Below w.heap.size w w'))
  case atStart => exact ⟨(y101), (0), (by first | rfl | (simp; done) | (simp [*]; done)), H', ⟨Nat.le_refl _⟩, ⟨by (with_reducible repeat (first | apply Kd.R_alloc | apply Kd.R_drewN | apply Kd.R_drew)); exact HO103.out⟩, ⟨bh⟩⟩
  case round =>
   clear H'
   try clear c2
   try clear c2b0
   try clear c2b1
   try clear p2
   try clear c3
   obtain ⟨x4_1, x5_1, rfl, HA, HK1, HO_4, HB⟩ := hrel
   cases gk with
   | zero => exact absurd HA.out (by simp [impl_Uncoded.l0])
   | succ k1 =>
    have H := HA.out
    clear HA
    simp only [impl_Uncoded.l0] at H
    by_cases c5 : x5_1 < (a0.size : Int)
    ·
     rw [if_pos c5] at H
     have c5b0 : decide (x5_1 < (a0.size : Int)) = true := decide_eq_true c5
     clear c5
     by_cases c6 : 0 ≤ x5_1
     ·
      rw [if_pos c6] at H
      have c6b0 : decide (0 ≤ x5_1) = true := decide_eq_true c6
      clear c6
      by_cases c8 : (bt a0 x5_1) = 37
      ·
       rw [if_pos c8] at H
       have c8b0 : ((bt a0 x5_1) == 37) = true := beq_iff_eq.mpr c8
       have c8b1 : ((bt a0 x5_1) != 37) = false := bne_eq_false_iff_eq.mpr c8
       clear c8
       obtain ⟨ji9, hji9⟩ : ∃ j_ : Int, (mn (wrap64 (x5_1 + 3)) (a0.size : Int)) = j_ := ⟨_, rfl⟩
       replace H : (if 0 ≤ (wrap64 (x5_1 + 1)) then (if (wrap64 (x5_1 + 1)) ≤ (ji9) then (if (ji9) ≤ (a0.size : Int) then ((impl_HexDigits.f (a0.extract ((wrap64 (x5_1 + 1)) : Int).toNat ((ji9) : Int).toNat)).bind fun bt104 => (if bt104.2 = true then (if (wrap64 (x5_1 + 3)) > (a0.size : Int) then (some ((⟨#[]⟩ : ByteArray), false)) else (if x4_1.length < 140737488355328 then (impl_Uncoded.l0 k1 a0 (x4_1 ++ [(bt104.1) % 256]) (wrap64 ((wrap64 (x5_1 + 2)) + 1))) else (none))) else (some ((⟨#[]⟩ : ByteArray), false)))) else (none)) else (none)) else (none)) = some (r1, r2) := by first | (rw [hji9] at H; exact H) | (simp only [hji9] at H ⊢; exact H)
       have hji9_ : (if (a0.size : Int) < (wrap64 (x5_1 + 3)) then (a0.size : Int) else (wrap64 (x5_1 + 3))) = ji9 := hji9
       obtain ⟨ji10, hji10⟩ : ∃ j_ : Int, (wrap64 (x5_1 + 1)) = j_ := ⟨_, rfl⟩
       replace H : (if 0 ≤ (ji10) then (if (ji10) ≤ (ji9) then (if (ji9) ≤ (a0.size : Int) then ((impl_HexDigits.f (a0.extract ((ji10) : Int).toNat ((ji9) : Int).toNat)).bind fun bt104 => (if bt104.2 = true then (if (wrap64 (x5_1 + 3)) > (a0.size : Int) then (some ((⟨#[]⟩ : ByteArray), false)) else (if x4_1.length < 140737488355328 then (impl_Uncoded.l0 k1 a0 (x4_1 ++ [(bt104.1) % 256]) (wrap64 ((wrap64 (x5_1 + 2)) + 1))) else (none))) else (some ((⟨#[]⟩ : ByteArray), false)))) else (none)) else (none)) else (none)) = some (r1, r2) := by first | (rw [hji10] at H; exact H) | (simp only [hji10] at H ⊢; exact H)
       have hji10w : (IntKind.i64.wrap (x5_1 + 1)) = ji10 := (i64_w _).trans hji10
       by_cases c11 : 0 ≤ (ji10)
       ·
        rw [if_pos c11] at H
        have c11b0 := eq_true c11
        have c11b1 : decide (0 ≤ (ji10)) = true := decide_eq_true c11
        clear c11
        by_cases c12 : (ji10) ≤ (ji9)
        ·
         rw [if_pos c12] at H
         have c12b0 := eq_true c12
         have c12b1 : decide ((ji10) ≤ (ji9)) = true := decide_eq_true c12
         clear c12
         by_cases c13 : (ji9) ≤ (a0.size : Int)
         ·
          rw [if_pos c13] at H
          have c13b0 := eq_true c13
          have c13b1 : decide ((ji9) ≤ (a0.size : Int)) = true := decide_eq_true c13
          clear c13
          obtain ⟨⟨t104, t105⟩, A140, H⟩ := Option.bind_eq_some_iff.mp H
          try dsimp only at H
          have A14 := Aside0.mk A140
          clear A140
          by_cases c15 : t105 = true
          ·
           subst c15
           rw [if_pos rfl] at H
           by_cases c16 : (wrap64 (x5_1 + 3)) > (a0.size : Int)
           ·
            rw [if_pos c16] at H
            have c16b0 : decide ((a0.size : Int) < (wrap64 (x5_1 + 3))) = true := decide_eq_true c16
            clear c16
            simp only [Option.some.injEq, Prod.mk.injEq] at H
            obtain ⟨rfl, rfl⟩ := H
            have p7 : 0 ≤ (x5_1 : Int) := of_decide_eq_true (by first | (with_reducible assumption) | assumption)
            have q7 : x5_1 < (a0.size : Int) := of_decide_eq_true (by first | (with_reducible assumption) | assumption)
            have hx7 := bt_at a0 x5_1
            replace p7 := eq_true p7
            replace q7 := eq_true q7
            go_wp2_with (first | ((with_reducible refine gate_callee (f := 58) rfl ?_); refine goesL_ (some 38) rfl rfl Tryz.func58 (by kernel_rfl) rfl #[.string (a0.extract ((ji10) : Int).toNat ((ji9) : Int).toNat)] rfl (by (try simp only [List.map_toArray, List.map_cons, List.map_nil]); first | done | (simp only [hji10, hji9]; rfl) | rfl | (simp only [List.length_drop, List.length_take]; rfl)) ?_; (with_reducible refine (impl_HexDigits.calls (a0.extract ((ji10) : Int).toNat ((ji9) : Int).toNat) t104 true _ A14.out).mono ?_); rintro e w17 ⟨rfl, hb⟩; refine ⟨_, rfl, ?_⟩; replace HO_4 := Aside0.mk (Kd.R_below (by (with_reducible repeat (first | apply Kd.R_alloc | apply Kd.R_drewN | apply Kd.R_drew)); exact HO_4.out) hb); replace HB := Aside0.mk (below_step bh hb); (try clear hb); (try clear hb2); (try clear hk); (try clear hi)))
            go_ret2
            exact ⟨by first | rfl | (simp [errW_none, errW_some] <;> rfl) | (simp only [← hji9, ← hji10]; first | rfl | (simp [errW_none, errW_some] <;> rfl)) | (simp [*, errW_none, errW_some] <;> rfl), bh⟩
           ·
            rw [if_neg c16] at H
            have c16b0 : decide ((a0.size : Int) < (wrap64 (x5_1 + 3))) = false := decide_eq_false c16
            clear c16
            by_cases c18 : x4_1.length < 140737488355328
            ·
             rw [if_pos c18] at H
             have LMc18 := Aside0.mk c18
             clear c18
             obtain ⟨y106, hy106⟩ : ∃ y_ : List Int, y_ = (x4_1 ++ [(t104) % 256]) := ⟨_, rfl⟩
             replace H : (impl_Uncoded.l0 k1 a0 y106 (wrap64 ((wrap64 (x5_1 + 2)) + 1))) = some (r1, r2) := by first | (rw [hy106]; with_reducible exact H) | (have H2_ := (Option.bind_some _ _).symm.trans H; rw [hy106]; with_reducible exact H2_) | (have H2_ := (Option.bind_some _ _).symm.trans H; with_reducible exact H2_) | with_reducible exact H | (rw [hy106]; exact H) | exact H
             have Ny106 := Aside0.mk hy106
             clear hy106
             have H' := Aside0.mk H
             clear H
             have p7 : 0 ≤ (x5_1 : Int) := of_decide_eq_true (by first | (with_reducible assumption) | assumption)
             have q7 : x5_1 < (a0.size : Int) := of_decide_eq_true (by first | (with_reducible assumption) | assumption)
             have hx7 := bt_at a0 x5_1
             replace p7 := eq_true p7
             replace q7 := eq_true q7
             go_wp2_with (first | ((with_reducible refine gate_callee (f := 58) rfl ?_); refine goesL_ (some 38) rfl rfl Tryz.func58 (by kernel_rfl) rfl #[.string (a0.extract ((ji10) : Int).toNat ((ji9) : Int).toNat)] rfl (by (try simp only [List.map_toArray, List.map_cons, List.map_nil]); first | done | (simp only [hji10, hji9]; rfl) | rfl | (simp only [List.length_drop, List.length_take]; rfl)) ?_; (with_reducible refine (impl_HexDigits.calls (a0.extract ((ji10) : Int).toNat ((ji9) : Int).toNat) t104 true _ A14.out).mono ?_); rintro e w19 ⟨rfl, hb⟩; refine ⟨_, rfl, ?_⟩; replace HO_4 := Aside0.mk (Kd.R_below (by (with_reducible repeat (first | apply Kd.R_alloc | apply Kd.R_drewN | apply Kd.R_drew)); exact HO_4.out) hb); replace HB := Aside0.mk (below_step bh hb); (try clear hb); (try clear hb2); (try clear hk); (try clear hi)) | ((with_reducible refine gate_builtin (b := .append) (xs := #[.tmp 50, .tmp 53]) rfl ?_); (try (refine gate_guard (by rfl) ?_; dsimp only)); at_builtin; refine Kd.R_append (Kd.int .u8) (w0 := w) w.heap.size rfl (.tmp 50) (.tmp 53) 25 5 (.int .u8 0) 1 rfl Tryz.underlying25 info5 rfl (by decide) (by omega) u4 x4_1 ((t104) % 256) [.int .u8 ((t104) % 256)] (fun _ => True) (fun _ => False) rfl rfl ?aP (fun _ hk => hk.elim) ?aF ?aO ?aB ?aS ?aL ?_; (case aP => exact rfl); (case aB => exact bh); (case aF => exact (fun _ _ => trivial)); (case aO => exact (by (with_reducible repeat (first | apply Kd.R_alloc | apply Kd.R_drewN | apply Kd.R_drew)); exact HO_4.out)); (case aS => exact (below_size bh)); (case aL => have := LMc18.out; omega); intro v107 w20 ho hb hg hat; rw [← Ny106.out] at ho; have n0_ := Aside0.mk (hb); have n1_ := Aside0.mk (ho); clear HB; clear HO_4; have HB := n0_; have HO108 := n1_; clear n0_ n1_; clear ho hb hg hat))
             go_roundg k1
             case measure => have := HK1.out; omega
             case rel => exact ⟨(y106), (wrap64 ((wrap64 (x5_1 + 2)) + 1)), (by first | rfl | (simp; done) | (simp [*]; done)), H', ⟨by have := HK1.out; omega⟩, ⟨by (with_reducible repeat (first | apply Kd.R_alloc | apply Kd.R_drewN | apply Kd.R_drew)); exact HO108.out⟩, ⟨bh⟩⟩
            ·
             rw [if_neg c18] at H
             exact absurd H (by simp)
          ·
           replace c15 := Bool.eq_false_iff.mpr c15
           subst c15
           have H1 : (some ((⟨#[]⟩ : ByteArray), false)) = some (r1, r2) := by rw [if_neg (show ¬ (false = true) by decide)] at H; exact H
           clear H
           have H := H1
           clear H1
           simp only [Option.some.injEq, Prod.mk.injEq] at H
           obtain ⟨rfl, rfl⟩ := H
           have p7 : 0 ≤ (x5_1 : Int) := of_decide_eq_true (by first | (with_reducible assumption) | assumption)
           have q7 : x5_1 < (a0.size : Int) := of_decide_eq_true (by first | (with_reducible assumption) | assumption)
           have hx7 := bt_at a0 x5_1
           replace p7 := eq_true p7
           replace q7 := eq_true q7
           go_wp2_with (first | ((with_reducible refine gate_callee (f := 58) rfl ?_); refine goesL_ (some 38) rfl rfl Tryz.func58 (by kernel_rfl) rfl #[.string (a0.extract ((ji10) : Int).toNat ((ji9) : Int).toNat)] rfl (by (try simp only [List.map_toArray, List.map_cons, List.map_nil]); first | done | (simp only [hji10, hji9]; rfl) | rfl | (simp only [List.length_drop, List.length_take]; rfl)) ?_; (with_reducible refine (impl_HexDigits.calls (a0.extract ((ji10) : Int).toNat ((ji9) : Int).toNat) t104 false _ A14.out).mono ?_); rintro e w21 ⟨rfl, hb⟩; refine ⟨_, rfl, ?_⟩; replace HO_4 := Aside0.mk (Kd.R_below (by (with_reducible repeat (first | apply Kd.R_alloc | apply Kd.R_drewN | apply Kd.R_drew)); exact HO_4.out) hb); replace HB := Aside0.mk (below_step bh hb); (try clear hb); (try clear hb2); (try clear hk); (try clear hi)))
           go_ret2
           exact ⟨by first | rfl | (simp [errW_none, errW_some] <;> rfl) | (simp only [← hji9, ← hji10]; first | rfl | (simp [errW_none, errW_some] <;> rfl)) | (simp [*, errW_none, errW_some] <;> rfl), bh⟩
         ·
          rw [if_neg c13] at H
          exact absurd H (by simp)
        ·
         rw [if_neg c12] at H
         exact absurd H (by simp)
       ·
        rw [if_neg c11] at H
        exact absurd H (by simp)
      ·
       rw [if_neg c8] at H
       have c8b0 : ((bt a0 x5_1) == 37) = false := beq_eq_false_iff_ne.mpr c8
       have c8b1 : ((bt a0 x5_1) != 37) = true := bne_iff_ne.mpr c8
       by_cases c23 : x4_1.length < 140737488355328
       ·
        rw [if_pos c23] at H
        have LMc23 := Aside0.mk c23
        clear c23
        obtain ⟨y109, hy109⟩ : ∃ y_ : List Int, y_ = (x4_1 ++ [bt a0 x5_1]) := ⟨_, rfl⟩
        replace H : (impl_Uncoded.l0 k1 a0 y109 (wrap64 (x5_1 + 1))) = some (r1, r2) := by first | (rw [hy109]; with_reducible exact H) | (have H2_ := (Option.bind_some _ _).symm.trans H; rw [hy109]; with_reducible exact H2_) | (have H2_ := (Option.bind_some _ _).symm.trans H; with_reducible exact H2_) | with_reducible exact H | (rw [hy109]; exact H) | exact H
        have Ny109 := Aside0.mk hy109
        clear hy109
        have H' := Aside0.mk H
        clear H
        have p7 : 0 ≤ (x5_1 : Int) := of_decide_eq_true (by first | (with_reducible assumption) | assumption)
        have q7 : x5_1 < (a0.size : Int) := of_decide_eq_true (by first | (with_reducible assumption) | assumption)
        have hx7 := bt_at a0 x5_1
        replace p7 := eq_true p7
        replace q7 := eq_true q7
        have p22 : 0 ≤ (x5_1 : Int) := of_decide_eq_true (by first | (with_reducible assumption) | assumption)
        have q22 : x5_1 < (a0.size : Int) := of_decide_eq_true (by first | (with_reducible assumption) | assumption)
        have hx22 := bt_at a0 x5_1
        replace p22 := eq_true p22
        replace q22 := eq_true q22
        go_wp2_with (first | ((with_reducible refine gate_builtin (b := .append) (xs := #[.tmp 22, .tmp 26]) rfl ?_); (try (refine gate_guard (by rfl) ?_; dsimp only)); at_builtin; refine Kd.R_append (Kd.int .u8) (w0 := w) w.heap.size rfl (.tmp 22) (.tmp 26) 25 5 (.int .u8 0) 1 rfl Tryz.underlying25 info5 rfl (by decide) (by omega) u4 x4_1 (bt a0 x5_1) [.int .u8 (bt a0 x5_1)] (fun _ => True) (fun _ => False) rfl rfl ?aP (fun _ hk => hk.elim) ?aF ?aO ?aB ?aS ?aL ?_; (case aP => exact rfl); (case aB => exact bh); (case aF => exact (fun _ _ => trivial)); (case aO => exact (by (with_reducible repeat (first | apply Kd.R_alloc | apply Kd.R_drewN | apply Kd.R_drew)); exact HO_4.out)); (case aS => exact (below_size bh)); (case aL => have := LMc23.out; omega); intro v110 w24 ho hb hg hat; rw [← Ny109.out] at ho; have n0_ := Aside0.mk (hb); have n1_ := Aside0.mk (ho); clear HB; clear HO_4; have HB := n0_; have HO111 := n1_; clear n0_ n1_; clear ho hb hg hat))
        go_roundg k1
        case measure => have := HK1.out; omega
        case rel => exact ⟨(y109), (wrap64 (x5_1 + 1)), (by first | rfl | (simp; done) | (simp [*]; done)), H', ⟨by have := HK1.out; omega⟩, ⟨by (with_reducible repeat (first | apply Kd.R_alloc | apply Kd.R_drewN | apply Kd.R_drew)); exact HO111.out⟩, ⟨bh⟩⟩
       ·
        rw [if_neg c23] at H
        exact absurd H (by simp)
     ·
      rw [if_neg c6] at H
      exact absurd H (by simp)
    ·
     rw [if_neg c5] at H
     have c5b0 : decide (x5_1 < (a0.size : Int)) = false := decide_eq_false c5
     clear c5
     simp only [Option.some.injEq, Prod.mk.injEq] at H
     obtain ⟨rfl, rfl⟩ := H
     have hcv25 := own_string (P := Tryz.prog) Tryz.underlying25 Tryz.underlying5 Tryz.underlying9 (Kd.own_of_R HO_4.out)
     go_wp2
     go_ret2
     exact ⟨er, bh⟩
/-! ### impl_NormalPath: function 17 -/
def impl_NormalPath.j0 : Nat → ByteArray → Bool → Option (ByteArray × Bool)
 | 0, _, _ => none
 | k + 1, x4, x23 => if x23 = true then (some ((⟨#[]⟩ : ByteArray), false)) else ((impl_Coded.f k x4).bind fun t106 => ((impl_Dotless.f k t106).bind fun t107 => (some (t107, true))))
def impl_NormalPath.f (k : Nat) (a0 : ByteArray) : Option (ByteArray × Bool) := (impl_Uncoded.f k a0).bind fun bt101 => (if bt101.2 = true then ((impl_isPath.f a0).bind fun t103 => (if t103 = true then ((impl_Coded.f k bt101.1).bind fun t104 => ((impl_isPath.f t104).bind fun t105 => (impl_NormalPath.j0 k bt101.1 (!t105)))) else (impl_NormalPath.j0 k bt101.1 true))) else (impl_NormalPath.j0 k bt101.1 true))
theorem impl_NormalPath.mono_l : ∀ k, (∀ y0 y1, LeO (impl_NormalPath.j0 k y0 y1) (impl_NormalPath.j0 (k + 1) y0 y1))
 | 0 => fun _ _ r h => by simp [impl_NormalPath.j0] at h
 | k + 1 => by
  have ih0 := impl_NormalPath.mono_l k
  ·
   intro y0 y1
   unfold impl_NormalPath.j0
   repeat' first
   | (with_reducible exact ih0 _ _)
   | (with_reducible exact impl_Coded.mono _ _)
   | (with_reducible exact impl_Dotless.mono _ _)
   | (with_reducible exact impl_Uncoded.mono _ _)
   | (with_reducible exact LeO.refl _)
   | (with_reducible exact LeO.none _)
   | (with_reducible refine LeO.ite ?_ ?_)
   | (with_reducible refine LeO.bind ?_ (fun _ => ?_))
   | exact ih0 _ _
   | exact impl_Coded.mono _ _
   | exact impl_Dotless.mono _ _
   | exact impl_Uncoded.mono _ _
   | exact LeO.none _
   | refine LeO.ite ?_ ?_
   | refine LeO.bind ?_ (fun _ => ?_)
theorem impl_NormalPath.mono : ∀ a0 k, LeO (impl_NormalPath.f k a0) (impl_NormalPath.f (k + 1) a0) := by
 intro a0 k
 have ih0 := impl_NormalPath.mono_l k
 unfold impl_NormalPath.f
 repeat' first
   | (with_reducible exact ih0 _ _)
   | (with_reducible exact impl_Coded.mono _ _)
   | (with_reducible exact impl_Dotless.mono _ _)
   | (with_reducible exact impl_Uncoded.mono _ _)
   | (with_reducible exact LeO.refl _)
   | (with_reducible exact LeO.none _)
   | (with_reducible refine LeO.ite ?_ ?_)
   | (with_reducible refine LeO.bind ?_ (fun _ => ?_))
   | exact ih0 _ _
   | exact impl_Coded.mono _ _
   | exact impl_Dotless.mono _ _
   | exact impl_Uncoded.mono _ _
   | exact LeO.none _
   | refine LeO.ite ?_ ?_
   | refine LeO.bind ?_ (fun _ => ?_)
set_option maxHeartbeats 8000000 in
set_option maxRecDepth 100000 in
theorem impl_NormalPath.calls (k : Nat) (a0 : ByteArray) (r1 : ByteArray) (r2 : Bool) (w : World) (hX : XW 1 w) (h : impl_NormalPath.f k a0 = some (r1, r2)) :
  Calls Tryz.prog 17 #[.string a0] w fun e w' => e = .returned (.tuple #[.string r1, .bool r2]) ∧ Below w.heap.size w w' := by
 have HB := Aside0.mk (Below.refl w.heap.size w)
 have H : ((impl_Uncoded.f k a0).bind fun bt101 => (if bt101.2 = true then ((impl_isPath.f a0).bind fun t103 => (if t103 = true then ((impl_Coded.f k bt101.1).bind fun t104 => ((impl_isPath.f t104).bind fun t105 => (impl_NormalPath.j0 k bt101.1 (!t105)))) else (impl_NormalPath.j0 k bt101.1 true))) else (impl_NormalPath.j0 k bt101.1 true))) = some (r1, r2) := h
 clear h
 obtain ⟨⟨t101, t102⟩, A20, H⟩ := Option.bind_eq_some_iff.mp H
 try dsimp only at H
 have A2 := Aside0.mk A20
 clear A20
 have HC3 := Aside0.mk H
 clear H
 go_enter Tryz.func17, Tryz.ntmps17
 go_upto_region 2 with (first | ((with_reducible refine gate_callee (f := 38) rfl ?_); refine goesL_ (some 8) rfl rfl Tryz.func38 (by kernel_rfl) rfl #[.string a0] rfl mc ?_; (with_reducible refine (impl_Uncoded.calls k a0 t101 t102 _ A2.out).mono ?_); rintro e w4 ⟨rfl, hb⟩; refine ⟨_, rfl, ?_⟩; replace HB := Aside0.mk (below_step bh hb); (try clear hb); (try clear hb2); (try clear hk); (try clear hi)))
 (try simp only [Act.put, List.setIfInBounds_toArray, List.set_cons_zero, List.set_cons_succ])
 go_cut [23] (fun v23 wc => ∃ (kq : Nat) (x23_2 : Bool), v23 = .bool x23_2 ∧ Aside0 (impl_NormalPath.j0 kq t101 x23_2 = some (r1, r2)) ∧ Aside0 (kq ≤ k) ∧ Aside0 (Below w.heap.size w wc))
 case first =>
  have H := HC3.out
  clear HC3
  by_cases c5 : t102 = true
  ·
   subst c5
   rw [if_pos rfl] at H
   obtain ⟨t103, A60, H⟩ := Option.bind_eq_some_iff.mp H
   try dsimp only at H
   have A6 := Aside0.mk A60
   clear A60
   by_cases c7 : t103 = true
   ·
    subst c7
    rw [if_pos rfl] at H
    obtain ⟨t104, A80, H⟩ := Option.bind_eq_some_iff.mp H
    try dsimp only at H
    have A8 := Aside0.mk A80
    clear A80
    replace H := Option.bind_eq_some_iff.mp H
    obtain ⟨t105, A90, H⟩ := H
    replace H : (impl_NormalPath.j0 k t101 (!t105)) = some (r1, r2) := H
    have A9 := Aside0.mk A90
    clear A90
    have H' := Aside0.mk H
    clear H
    go_wp2_with (first | (go_at_call 39; (with_reducible refine (impl_isPath.calls a0 true _ A6.out).mono ?_); rintro e w' ⟨rfl, ⟨nd, rfl⟩⟩) | (go_at_call 40; (with_reducible refine (impl_Coded.calls k t101 t104 _ A8.out).mono ?_); rintro e w10 ⟨rfl, hb⟩; replace HB := Aside0.mk (below_step bh hb); (try clear hb); (try clear hb2); (try clear hk); (try clear hi)) | (go_at_call 39; (with_reducible refine (impl_isPath.calls t104 t105 _ A9.out).mono ?_); rintro e w' ⟨rfl, ⟨nd, rfl⟩⟩))
    go_meet
    case rel => exact ⟨_, (!t105), (by first | rfl | (simp; done) | (simp [*]; done)), H', ⟨by first | omega | exact Nat.le_refl _⟩, ⟨bh⟩⟩
   ·
    replace c7 := Bool.eq_false_iff.mpr c7
    subst c7
    have H1 : (impl_NormalPath.j0 k t101 true) = some (r1, r2) := by rw [if_neg (show ¬ (false = true) by decide)] at H; exact H
    clear H
    have H := H1
    clear H1
    have H' := Aside0.mk H
    clear H
    go_wp2_with (first | (go_at_call 39; (with_reducible refine (impl_isPath.calls a0 false _ A6.out).mono ?_); rintro e w' ⟨rfl, ⟨nd, rfl⟩⟩))
    go_meet
    case rel => exact ⟨_, (true), (by first | rfl | (simp; done) | (simp [*]; done)), H', ⟨by first | omega | exact Nat.le_refl _⟩, ⟨bh⟩⟩
  ·
   replace c5 := Bool.eq_false_iff.mpr c5
   subst c5
   have H1 : (impl_NormalPath.j0 k t101 true) = some (r1, r2) := by rw [if_neg (show ¬ (false = true) by decide)] at H; exact H
   clear H
   have H := H1
   clear H1
   have H' := Aside0.mk H
   clear H
   go_wp2
   go_meet
   case rel => exact ⟨_, (true), (by first | rfl | (simp; done) | (simp [*]; done)), H', ⟨by first | omega | exact Nat.le_refl _⟩, ⟨bh⟩⟩
 case rest =>
  clear HC3
  try clear c1
  try clear p2
  try clear c3
  try clear c5
  try clear c7
  obtain ⟨kq, x23_2, rfl, HA, HJ2, HB⟩ := hcut
  cases kq with
  | zero => exact absurd HA.out (by simp [impl_NormalPath.j0])
  | succ kj2 =>
   have H := HA.out
   clear HA
   simp only [impl_NormalPath.j0] at H
   by_cases c11 : x23_2 = true
   ·
    subst c11
    have H1 : (some ((⟨#[]⟩ : ByteArray), false)) = some (r1, r2) := by rw [if_pos rfl] at H; exact H
    clear H
    have H := H1
    clear H1
    simp only [Option.some.injEq, Prod.mk.injEq] at H
    obtain ⟨rfl, rfl⟩ := H
    go_wp2
    go_ret2
    exact ⟨er, bh⟩
   ·
    replace c11 := Bool.eq_false_iff.mpr c11
    subst c11
    rw [if_neg (show ¬ (false = true) by decide)] at H
    obtain ⟨t106, A120, H⟩ := Option.bind_eq_some_iff.mp H
    try dsimp only at H
    have A12 := Aside0.mk A120
    clear A120
    replace H := Option.bind_eq_some_iff.mp H
    obtain ⟨t107, A130, H⟩ := H
    replace H : (some (t107, true)) = some (r1, r2) := H
    have A13 := Aside0.mk A130
    clear A130
    simp only [Option.some.injEq, Prod.mk.injEq] at H
    obtain ⟨rfl, rfl⟩ := H
    go_wp2_with (first | ((with_reducible refine gate_callee (f := 40) rfl ?_); refine goesL_ (some 25) rfl rfl Tryz.func40 (by kernel_rfl) rfl #[.string t101] rfl mc ?_; (with_reducible refine (impl_Coded.calls kj2 t101 t106 _ A12.out).mono ?_); rintro e w14 ⟨rfl, hb⟩; refine ⟨_, rfl, ?_⟩; replace HB := Aside0.mk (below_step bh hb); (try clear hb); (try clear hb2); (try clear hk); (try clear hi)) | ((with_reducible refine gate_callee (f := 41) rfl ?_); refine goesL_ (some 26) rfl rfl Tryz.func41 (by kernel_rfl) rfl #[.string t106] rfl mc ?_; (with_reducible refine (impl_Dotless.calls kj2 t106 t107 _ ?side1 A13.out).mono ?_); (case side1 => exact XW.to (XW.stays hX bh) (by decide)); rintro e w15 ⟨rfl, hb⟩; refine ⟨_, rfl, ?_⟩; replace HB := Aside0.mk (below_step bh hb); (try clear hb); (try clear hb2); (try clear hk); (try clear hi)))
    go_ret2
    exact ⟨er, bh⟩
/-! ### impl_TokenOk: function 18 -/
def impl_TokenOk.f (a0 : ByteArray) : Option (Bool) := if (a0.size : Int) ≥ 1 then (if (a0.size : Int) ≤ 64 then ((impl_all.f a0 43).bind fun t101 => (some t101)) else (some false)) else (some false)
set_option maxHeartbeats 8000000 in
set_option maxRecDepth 100000 in
theorem impl_TokenOk.calls (a0 : ByteArray) (r : Bool) (w : World) (h : impl_TokenOk.f a0 = some r) :
  Calls Tryz.prog 18 #[.string a0] w fun e w' => e = .returned (.bool r) ∧ Below w.heap.size w w' := by
 have HB := Aside0.mk (Below.refl w.heap.size w)
 have H : (if (a0.size : Int) ≥ 1 then (if (a0.size : Int) ≤ 64 then ((impl_all.f a0 43).bind fun t101 => (some t101)) else (some false)) else (some false)) = some r := h
 clear h
 by_cases c2 : (a0.size : Int) ≥ 1
 ·
  rw [if_pos c2] at H
  have c2b0 : decide (1 ≤ (a0.size : Int)) = true := decide_eq_true c2
  have c2b1 : decide (1 ≤ a0.size) = true := decide_eq_true (by omega)
  clear c2
  by_cases c3 : (a0.size : Int) ≤ 64
  ·
   rw [if_pos c3] at H
   have c3b0 : decide ((a0.size : Int) ≤ 64) = true := decide_eq_true c3
   have c3b1 : decide (a0.size ≤ 64) = true := decide_eq_true (by omega)
   clear c3
   replace H := Option.bind_eq_some_iff.mp H
   obtain ⟨t101, A40, H⟩ := H
   replace H : (some t101) = some r := H
   have A4 := Aside0.mk A40
   clear A40
   obtain rfl := Option.some.inj H
   go_enter Tryz.func18, Tryz.ntmps18
   go_wp2_with (first | (go_at_call 42; (with_reducible refine (impl_all.calls a0 43 t101 _ A4.out).mono ?_); rintro e w5 ⟨rfl, hb⟩; replace HB := Aside0.mk (below_step bh hb); (try clear hb); (try clear hb2); (try clear hk); (try clear hi)))
   go_ret
   exact ⟨er, bh⟩
  ·
   rw [if_neg c3] at H
   have c3b0 : decide ((a0.size : Int) ≤ 64) = false := decide_eq_false c3
   have c3b1 : decide (a0.size ≤ 64) = false := decide_eq_false (by omega)
   clear c3
   obtain rfl := Option.some.inj H
   go_enter Tryz.func18, Tryz.ntmps18
   go_wp2
   go_ret
   exact ⟨er, bh⟩
 ·
  rw [if_neg c2] at H
  have c2b0 : decide (1 ≤ (a0.size : Int)) = false := decide_eq_false c2
  have c2b1 : decide (1 ≤ a0.size) = false := decide_eq_false (by omega)
  clear c2
  obtain rfl := Option.some.inj H
  go_enter Tryz.func18, Tryz.ntmps18
  go_wp2
  go_ret
  exact ⟨er, bh⟩
/-! ### impl_Key: function 6 -/
def impl_Key.j0 : Nat → ByteArray → ByteArray → ByteArray → Bool → Option (ByteArray × Bool)
 | 0, _, _, _, _ => none
 | k + 1, x0, x6, x7, x27 => if x27 = true then (some ((⟨#[]⟩ : ByteArray), false)) else ((impl_SortedQuery.f x7).bind fun t107 => (if t107.toList = ([] : List UInt8) then ((impl_Lower.f x0).bind fun t108 => (if t108.size + x6.size ≤ 9223372036854775807 then (if (t108 ++ x6).size + t107.size ≤ 9223372036854775807 then (some ((t108 ++ x6) ++ t107, true)) else (none)) else (none))) else (if 1 + t107.size ≤ 9223372036854775807 then ((impl_Lower.f x0).bind fun t109 => (if t109.size + x6.size ≤ 9223372036854775807 then (if (t109 ++ x6).size + ((⟨#[63]⟩ : ByteArray) ++ t107).size ≤ 9223372036854775807 then (some ((t109 ++ x6) ++ ((⟨#[63]⟩ : ByteArray) ++ t107), true)) else (none)) else (none))) else (none))))
def impl_Key.f (k : Nat) (a0 : ByteArray) (a1 : ByteArray) : Option (ByteArray × Bool) := (strings_Cut.f a1 (⟨#[63]⟩ : ByteArray)).bind fun bt101 => ((impl_NormalPath.f k bt101.1).bind fun bt104 => (if bt104.2 = true then ((impl_TokenOk.f a0).bind fun t106 => (impl_Key.j0 k a0 bt104.1 bt101.2.1 (!t106))) else (impl_Key.j0 k a0 bt104.1 bt101.2.1 true)))
theorem impl_Key.mono_l : ∀ k, (∀ y0 y1 y2 y3, LeO (impl_Key.j0 k y0 y1 y2 y3) (impl_Key.j0 (k + 1) y0 y1 y2 y3))
 | 0 => fun _ _ _ _ r h => by simp [impl_Key.j0] at h
 | k + 1 => by
  have ih0 := impl_Key.mono_l k
  ·
   intro y0 y1 y2 y3
   unfold impl_Key.j0
   repeat' first
   | (with_reducible exact ih0 _ _ _ _)
   | (with_reducible exact impl_NormalPath.mono _ _)
   | (with_reducible exact LeO.refl _)
   | (with_reducible exact LeO.none _)
   | (with_reducible refine LeO.ite ?_ ?_)
   | (with_reducible refine LeO.bind ?_ (fun _ => ?_))
   | exact ih0 _ _ _ _
   | exact impl_NormalPath.mono _ _
   | exact LeO.none _
   | refine LeO.ite ?_ ?_
   | refine LeO.bind ?_ (fun _ => ?_)
theorem impl_Key.mono : ∀ a0 a1 k, LeO (impl_Key.f k a0 a1) (impl_Key.f (k + 1) a0 a1) := by
 intro a0 a1 k
 have ih0 := impl_Key.mono_l k
 unfold impl_Key.f
 repeat' first
   | (with_reducible exact ih0 _ _ _ _)
   | (with_reducible exact impl_NormalPath.mono _ _)
   | (with_reducible exact LeO.refl _)
   | (with_reducible exact LeO.none _)
   | (with_reducible refine LeO.ite ?_ ?_)
   | (with_reducible refine LeO.bind ?_ (fun _ => ?_))
   | exact ih0 _ _ _ _
   | exact impl_NormalPath.mono _ _
   | exact LeO.none _
   | refine LeO.ite ?_ ?_
   | refine LeO.bind ?_ (fun _ => ?_)
set_option maxHeartbeats 8000000 in
set_option maxRecDepth 100000 in
theorem impl_Key.calls (k : Nat) (a0 : ByteArray) (a1 : ByteArray) (r1 : ByteArray) (r2 : Bool) (w : World) (hX : XW 1 w) (h : impl_Key.f k a0 a1 = some (r1, r2)) :
  Calls Tryz.prog 6 #[.string a0, .string a1] w fun e w' => e = .returned (.tuple #[.string r1, .bool r2]) ∧ Below w.heap.size w w' := by
 have HB := Aside0.mk (Below.refl w.heap.size w)
 have H : ((strings_Cut.f a1 (⟨#[63]⟩ : ByteArray)).bind fun bt101 => ((impl_NormalPath.f k bt101.1).bind fun bt104 => (if bt104.2 = true then ((impl_TokenOk.f a0).bind fun t106 => (impl_Key.j0 k a0 bt104.1 bt101.2.1 (!t106))) else (impl_Key.j0 k a0 bt104.1 bt101.2.1 true)))) = some (r1, r2) := h
 clear h
 obtain ⟨⟨t101, t102, t103⟩, A30, H⟩ := Option.bind_eq_some_iff.mp H
 try dsimp only at H
 have A3 := Aside0.mk A30
 clear A30
 obtain ⟨⟨t104, t105⟩, A40, H⟩ := Option.bind_eq_some_iff.mp H
 try dsimp only at H
 have A4 := Aside0.mk A40
 clear A40
 have HC5 := Aside0.mk H
 clear H
 go_enter Tryz.func6, Tryz.ntmps6
 go_upto_region 3 with (first | ((with_reducible refine gate_callee (f := 16) rfl ?_); refine goesL_ (some 12) rfl rfl Tryz.func16 (by kernel_rfl) rfl #[.string a1, .string (⟨#[63]⟩ : ByteArray)] rfl (by (try simp only [List.map_toArray, List.map_cons, List.map_nil]); first | done | rfl | (simp only [ne_nil_isEmpty]; rfl) | (simp only [List.length_drop, List.length_take]; rfl)) ?_; (with_reducible refine (strings_Cut.calls a1 (⟨#[63]⟩ : ByteArray) t101 t102 t103 _ ?side1 A3.out).mono ?_); (case side1 => exact XW.to (XW.stays hX bh) (by decide)); rintro e w6 ⟨rfl, hb⟩; refine ⟨_, rfl, ?_⟩; replace HB := Aside0.mk (below_step bh hb); (try clear hb); (try clear hb2); (try clear hk); (try clear hi)) | ((with_reducible refine gate_callee (f := 17) rfl ?_); refine goesL_ (some 18) rfl rfl Tryz.func17 (by kernel_rfl) rfl #[.string t101] rfl (by (try simp only [List.map_toArray, List.map_cons, List.map_nil]); first | done | rfl | (simp only [ne_nil_isEmpty]; rfl) | (simp only [List.length_drop, List.length_take]; rfl)) ?_; (with_reducible refine (impl_NormalPath.calls k t101 t104 t105 _ ?side1 A4.out).mono ?_); (case side1 => exact XW.to (XW.stays hX bh) (by decide)); rintro e w7 ⟨rfl, hb⟩; refine ⟨_, rfl, ?_⟩; replace HB := Aside0.mk (below_step bh hb); (try clear hb); (try clear hb2); (try clear hk); (try clear hi)))
 (try simp only [Act.put, List.setIfInBounds_toArray, List.set_cons_zero, List.set_cons_succ])
 go_cut [27] (fun v27 wc => ∃ (kq : Nat) (x27_4 : Bool), v27 = .bool x27_4 ∧ Aside0 (impl_Key.j0 kq a0 t104 t102 x27_4 = some (r1, r2)) ∧ Aside0 (kq ≤ k) ∧ Aside0 (Below w.heap.size w wc))
 case first =>
  have H := HC5.out
  clear HC5
  by_cases c8 : t105 = true
  ·
   subst c8
   rw [if_pos rfl] at H
   replace H := Option.bind_eq_some_iff.mp H
   obtain ⟨t106, A90, H⟩ := H
   replace H : (impl_Key.j0 k a0 t104 t102 (!t106)) = some (r1, r2) := H
   have A9 := Aside0.mk A90
   clear A90
   have H' := Aside0.mk H
   clear H
   go_wp2_with (first | (go_at_call 18; (with_reducible refine (impl_TokenOk.calls a0 t106 _ A9.out).mono ?_); rintro e w10 ⟨rfl, hb⟩; replace HB := Aside0.mk (below_step bh hb); (try clear hb); (try clear hb2); (try clear hk); (try clear hi)))
   go_meet
   case rel => exact ⟨_, (!t106), (by first | rfl | (simp; done) | (simp [*]; done)), H', ⟨by first | omega | exact Nat.le_refl _⟩, ⟨bh⟩⟩
  ·
   replace c8 := Bool.eq_false_iff.mpr c8
   subst c8
   have H1 : (impl_Key.j0 k a0 t104 t102 true) = some (r1, r2) := by rw [if_neg (show ¬ (false = true) by decide)] at H; exact H
   clear H
   have H := H1
   clear H1
   have H' := Aside0.mk H
   clear H
   go_wp2
   go_meet
   case rel => exact ⟨_, (true), (by first | rfl | (simp; done) | (simp [*]; done)), H', ⟨by first | omega | exact Nat.le_refl _⟩, ⟨bh⟩⟩
 case rest =>
  clear HC5
  try clear c1
  try clear p2
  try clear c6
  try clear c8
  obtain ⟨kq, x27_4, rfl, HA, HJ4, HB⟩ := hcut
  cases kq with
  | zero => exact absurd HA.out (by simp [impl_Key.j0])
  | succ kj4 =>
   have H := HA.out
   clear HA
   simp only [impl_Key.j0] at H
   by_cases c11 : x27_4 = true
   ·
    subst c11
    have H1 : (some ((⟨#[]⟩ : ByteArray), false)) = some (r1, r2) := by rw [if_pos rfl] at H; exact H
    clear H
    have H := H1
    clear H1
    simp only [Option.some.injEq, Prod.mk.injEq] at H
    obtain ⟨rfl, rfl⟩ := H
    go_wp2
    go_ret2
    exact ⟨er, bh⟩
   ·
    replace c11 := Bool.eq_false_iff.mpr c11
    subst c11
    rw [if_neg (show ¬ (false = true) by decide)] at H
    obtain ⟨t107, A120, H⟩ := Option.bind_eq_some_iff.mp H
    try dsimp only at H
    have A12 := Aside0.mk A120
    clear A120
    by_cases c13 : t107.toList = ([] : List UInt8)
    ·
     rw [if_pos c13] at H
     have c13b0 : (t107.toList == ([] : List UInt8)) = true := beq_iff_eq.mpr c13
     have c13b1 : (t107.toList != ([] : List UInt8)) = false := bne_eq_false_iff_eq.mpr c13
     clear c13
     obtain ⟨t108, A140, H⟩ := Option.bind_eq_some_iff.mp H
     try dsimp only at H
     have A14 := Aside0.mk A140
     clear A140
     by_cases c15 : t108.size + t104.size ≤ 9223372036854775807
     ·
      rw [if_pos c15] at H
      have c15b0 := eq_true c15
      have c15b1 : decide (t108.size + t104.size ≤ 9223372036854775807) = true := decide_eq_true c15
      try have c15b2 : (9223372036854775807 < t108.size + t104.size) = False := eq_false (Nat.not_lt.2 c15)
      by_cases c16 : (t108 ++ t104).size + t107.size ≤ 9223372036854775807
      ·
       rw [if_pos c16] at H
       have c16b0 := eq_true c16
       have c16b1 : decide ((t108 ++ t104).size + t107.size ≤ 9223372036854775807) = true := decide_eq_true c16
       try have c16b2 : (9223372036854775807 < (t108 ++ t104).size + t107.size) = False := eq_false (Nat.not_lt.2 c16)
       try have c16n3 := by have z_ := c16b2; simp only [ByteArray.size_append', ByteArray.size_mk', List.size_toArray, List.length_cons, List.length_nil, Nat.zero_add, Nat.reduceAdd] at z_; exact z_
       simp only [Option.some.injEq, Prod.mk.injEq] at H
       obtain ⟨rfl, rfl⟩ := H
       go_wp2_with (first | ((with_reducible refine gate_callee (f := 9) rfl ?_); refine goesL_ (some 29) rfl rfl Tryz.func9 (by kernel_rfl) rfl #[.string t102] rfl (by (try simp only [List.map_toArray, List.map_cons, List.map_nil]); first | done | rfl | (simp only [ne_nil_isEmpty]; rfl) | (simp only [List.length_drop, List.length_take]; rfl)) ?_; (with_reducible refine (impl_SortedQuery.calls t102 t107 _ ?side1 A12.out).mono ?_); (case side1 => exact XW.to (XW.stays hX bh) (by decide)); rintro e w17 ⟨rfl, hb⟩; refine ⟨_, rfl, ?_⟩; replace HB := Aside0.mk (below_step bh hb); (try clear hb); (try clear hb2); (try clear hk); (try clear hi)) | ((with_reducible refine gate_callee (f := 19) rfl ?_); refine goesL_ (some 35) rfl rfl Tryz.func19 (by kernel_rfl) rfl #[.string a0] rfl (by (try simp only [List.map_toArray, List.map_cons, List.map_nil]); first | done | rfl | (simp only [ne_nil_isEmpty]; rfl) | (simp only [List.length_drop, List.length_take]; rfl)) ?_; (with_reducible refine (impl_Lower.calls a0 t108 _ A14.out).mono ?_); rintro e w18 ⟨rfl, hb⟩; refine ⟨_, rfl, ?_⟩; replace HB := Aside0.mk (below_step bh hb); (try clear hb); (try clear hb2); (try clear hk); (try clear hi)))
       go_ret2
       exact ⟨er, bh⟩
      ·
       rw [if_neg c16] at H
       exact absurd H (by simp)
     ·
      rw [if_neg c15] at H
      exact absurd H (by simp)
    ·
     rw [if_neg c13] at H
     have c13b0 : (t107.toList == ([] : List UInt8)) = false := beq_eq_false_iff_ne.mpr c13
     have c13b1 : (t107.toList != ([] : List UInt8)) = true := bne_iff_ne.mpr c13
     by_cases c19 : 1 + t107.size ≤ 9223372036854775807
     ·
      rw [if_pos c19] at H
      have c19b0 := eq_true c19
      have c19b1 : decide (1 + t107.size ≤ 9223372036854775807) = true := decide_eq_true c19
      try have c19b2 : (9223372036854775807 < 1 + t107.size) = False := eq_false (Nat.not_lt.2 c19)
      obtain ⟨t109, A200, H⟩ := Option.bind_eq_some_iff.mp H
      try dsimp only at H
      have A20 := Aside0.mk A200
      clear A200
      by_cases c21 : t109.size + t104.size ≤ 9223372036854775807
      ·
       rw [if_pos c21] at H
       have c21b0 := eq_true c21
       have c21b1 : decide (t109.size + t104.size ≤ 9223372036854775807) = true := decide_eq_true c21
       try have c21b2 : (9223372036854775807 < t109.size + t104.size) = False := eq_false (Nat.not_lt.2 c21)
       by_cases c22 : (t109 ++ t104).size + ((⟨#[63]⟩ : ByteArray) ++ t107).size ≤ 9223372036854775807
       ·
        rw [if_pos c22] at H
        have c22b0 := eq_true c22
        have c22b1 : decide ((t109 ++ t104).size + ((⟨#[63]⟩ : ByteArray) ++ t107).size ≤ 9223372036854775807) = true := decide_eq_true c22
        try have c22b2 : (9223372036854775807 < (t109 ++ t104).size + ((⟨#[63]⟩ : ByteArray) ++ t107).size) = False := eq_false (Nat.not_lt.2 c22)
        try have c22n3 := by have z_ := c22b2; simp only [ByteArray.size_append', ByteArray.size_mk', List.size_toArray, List.length_cons, List.length_nil, Nat.zero_add, Nat.reduceAdd] at z_; exact z_
        simp only [Option.some.injEq, Prod.mk.injEq] at H
        obtain ⟨rfl, rfl⟩ := H
        go_wp2_with (first | ((with_reducible refine gate_callee (f := 9) rfl ?_); refine goesL_ (some 29) rfl rfl Tryz.func9 (by kernel_rfl) rfl #[.string t102] rfl (by (try simp only [List.map_toArray, List.map_cons, List.map_nil]); first | done | rfl | (simp only [ne_nil_isEmpty]; rfl) | (simp only [List.length_drop, List.length_take]; rfl)) ?_; (with_reducible refine (impl_SortedQuery.calls t102 t107 _ ?side1 A12.out).mono ?_); (case side1 => exact XW.to (XW.stays hX bh) (by decide)); rintro e w23 ⟨rfl, hb⟩; refine ⟨_, rfl, ?_⟩; replace HB := Aside0.mk (below_step bh hb); (try clear hb); (try clear hb2); (try clear hk); (try clear hi)) | ((with_reducible refine gate_callee (f := 19) rfl ?_); refine goesL_ (some 35) rfl rfl Tryz.func19 (by kernel_rfl) rfl #[.string a0] rfl (by (try simp only [List.map_toArray, List.map_cons, List.map_nil]); first | done | rfl | (simp only [ne_nil_isEmpty]; rfl) | (simp only [List.length_drop, List.length_take]; rfl)) ?_; (with_reducible refine (impl_Lower.calls a0 t109 _ A20.out).mono ?_); rintro e w24 ⟨rfl, hb⟩; refine ⟨_, rfl, ?_⟩; replace HB := Aside0.mk (below_step bh hb); (try clear hb); (try clear hb2); (try clear hk); (try clear hi)))
        go_ret2
        exact ⟨er, bh⟩
       ·
        rw [if_neg c22] at H
        exact absurd H (by simp)
      ·
       rw [if_neg c21] at H
       exact absurd H (by simp)
     ·
      rw [if_neg c19] at H
      exact absurd H (by simp)
end Go.Proofs.YtonimccihcodnaaGreatDoor.P
namespace Go.Proofs.YtonimccihcodnaaGreatDoor.P
set_option linter.unusedVariables false
set_option linter.unusedSimpArgs false
open Go.RowKit Go.Lib Go.Proofs.YtonimccihcodnaaGreatDoorW.PrintWords Go.Proofs.YtonimccihcodnaaGreatDoorW.PrintLast Go.Proofs.YtonimccihcodnaaGreatDoorW.PrintMore

set_option maxHeartbeats 1000000 in
theorem spec_Lower_any (s : ByteArray) (w : World) (hs : s.size ≤ 9223372036854775807) :
    Calls Tryz.prog 15 #[.string s] w fun e w' => e = .returned (.string (strOfNums ((bytesOf s).map low8))) ∧ Below w.heap.size w w' := by
  have kc := fun W : World => Lib.run_convert_string_bytes (P := Tryz.prog) W 9 25 5 s Tryz.underlying9 Tryz.underlying25 Tryz.underlying5
  have hmap : ((bytesOf s).map low8).length = s.size := by rw [List.length_map, bytesOf_length]
  have H0 := Lib.hid hmap
  clear hmap
  have S0 := Lib.hid (LowCells.start w s)
  go_enter Tryz.func15, Tryz.ntmps15
  go_wp2
  go_loopw [4] (fun i wr => ∃ k : Nat, k ≤ s.size ∧ i = .int .i64 k ∧ Aside (LowCells w wr s k)) (fun i _ => s.size - (intOf i).toNat)
  case atStart => exact ⟨0, Nat.zero_le _, rfl, S0.out⟩
  case round =>
    obtain ⟨k, hk, rfl, A⟩ := hrel
    by_cases hlt : k < s.size
    · have hcell := A.out.1 k hlt
      rw [lowAt_now] at hcell
      have hfro := A.out.2.1 k hlt
      have hr := bt_range s k
      obtain ⟨c, hc⟩ : ∃ c, bt s k = c := ⟨_, rfl⟩
      rw [hc] at hcell hr
      have HC := Lib.hid hc
      clear hc
      obtain ⟨hr0, hr1⟩ := hr
      have hltz : (k : Int) < (s.size : Int) := by omega
      by_cases h1 : (65 : Int) ≤ c
      · by_cases h2 : c ≤ 90
        · go_wp2
          go_roundw
          case rel => exact ⟨k + 1, by omega, by go_num, show Aside _ from A.out.put hlt _ (by rw [HC.out]; unfold low8; rw [if_pos h1, if_pos h2])⟩
          case measure => simp [intOf]; omega
        · go_wp2
          go_roundw
          case rel => exact ⟨k + 1, by omega, by go_num, show Aside _ from A.out.skip hlt (by rw [HC.out]; unfold low8; rw [if_pos h1, if_neg h2])⟩
          case measure => simp [intOf]; omega
      · go_wp2
        go_roundw
        case rel => exact ⟨k + 1, by omega, by go_num, show Aside _ from A.out.skip hlt (by rw [HC.out]; unfold low8; rw [if_neg h1])⟩
        case measure => simp [intOf]; omega
    · have hltz : ¬ (k : Int) < (s.size : Int) := by omega
      have kb := fun cap => run_convert_bytes_arg (P := Tryz.prog) wr 25 5 Tryz.underlying25 Tryz.underlying5 w.heap.size 0 s.size cap ((bytesOf s).map low8) H0.out (A.out.done (by omega)) 9 Tryz.underlying9
      go_wp2
      go_ret
      exact ⟨rfl, A.out.2.2⟩

def spec_Lower.f (a0 : ByteArray) : Option ByteArray := if a0.size ≤ 9223372036854775807 then some (strOfNums ((bytesOf a0).map low8)) else none
theorem spec_Lower.calls (a0 : ByteArray) (r : ByteArray) (w : World) (h : spec_Lower.f a0 = some r) :
    Calls Tryz.prog 15 #[.string a0] w fun e w' => e = .returned (.string r) ∧ Below w.heap.size w w' := by
  unfold spec_Lower.f at h
  split at h
  · obtain rfl := Option.some.inj h
    exact spec_Lower_any a0 w (by assumption)
  · cases h
end Go.Proofs.YtonimccihcodnaaGreatDoor.P
namespace Go.Proofs.YtonimccihcodnaaGreatDoor.P
open Go.RowKit Go.Proofs.YtonimccihcodnaaGreatDoorW.PrintWords Go.Proofs.YtonimccihcodnaaGreatDoorW.PrintLast Go.Proofs.YtonimccihcodnaaGreatDoorW.PrintMore
attribute [local go_sem] max2_int min2_int max_two min_two max_three min_three max_four min_four   -- for this text's walks alone
set_option linter.unusedVariables false
set_option linter.unusedSimpArgs false

/-! ### spec_Key: function 5 -/
mutual
def spec_Key.j1 : Nat → ByteArray → ByteArray → ByteArray → Option (ByteArray × Bool)
 | 0, _, _, _ => none
 | k + 1, x0, x6, x7 => (spec_NormalPath.f k x6).bind fun bt101 => (if bt101.2 = true then ((spec_TokenOk.f k x0).bind fun t103 => (spec_Key.j2 k x0 x7 bt101.1 (!t103))) else (spec_Key.j2 k x0 x7 bt101.1 true))
def spec_Key.j2 : Nat → ByteArray → ByteArray → ByteArray → Bool → Option (ByteArray × Bool)
 | 0, _, _, _, _ => none
 | k + 1, x0, x7, x9, x41 => if x41 = true then (some ((⟨#[]⟩ : ByteArray), false)) else ((spec_SortedQuery.f k x7).bind fun t104 => (if t104.toList = ([] : List UInt8) then ((spec_Lower.f x0).bind fun t105 => (if t105.size + x9.size ≤ 9223372036854775807 then (some (t105 ++ x9, true)) else (none))) else (if x9.size + 1 ≤ 9223372036854775807 then (if (x9 ++ (⟨#[63]⟩ : ByteArray)).size + t104.size ≤ 9223372036854775807 then ((spec_Lower.f x0).bind fun t106 => (if t106.size + ((x9 ++ (⟨#[63]⟩ : ByteArray)) ++ t104).size ≤ 9223372036854775807 then (some (t106 ++ ((x9 ++ (⟨#[63]⟩ : ByteArray)) ++ t104), true)) else (none))) else (none)) else (none))))
def spec_Key.l0 : Nat → ByteArray → ByteArray → ByteArray → ByteArray → Int → Option (ByteArray × Bool)
 | 0, _, _, _, _, _ => none
 | k + 1, x0, x1, x6, x7, x8 => if x8 < (x1.size : Int) then (if 0 ≤ x8 then (if (bt x1 x8) = 63 then (if x8 ≤ (x1.size : Int) then (if 0 ≤ (wrap64 (x8 + 1)) then (if (wrap64 (x8 + 1)) ≤ (x1.size : Int) then (spec_Key.j1 k x0 (x1.extract 0 (x8 : Int).toNat) (x1.extract ((wrap64 (x8 + 1)) : Int).toNat x1.size)) else (none)) else (none)) else (none)) else (spec_Key.l0 k x0 x1 x6 x7 (wrap64 (x8 + 1)))) else (none)) else (spec_Key.j1 k x0 x6 x7)
end
def spec_Key.f (k : Nat) (a0 : ByteArray) (a1 : ByteArray) : Option (ByteArray × Bool) := spec_Key.l0 k a0 a1 a1 (⟨#[]⟩ : ByteArray) 0
theorem spec_Key.mono_l : ∀ k, (∀ y0 y1 y2, LeO (spec_Key.j1 k y0 y1 y2) (spec_Key.j1 (k + 1) y0 y1 y2)) ∧ (∀ y0 y1 y2 y3, LeO (spec_Key.j2 k y0 y1 y2 y3) (spec_Key.j2 (k + 1) y0 y1 y2 y3)) ∧ (∀ y0 y1 y2 y3 y4, LeO (spec_Key.l0 k y0 y1 y2 y3 y4) (spec_Key.l0 (k + 1) y0 y1 y2 y3 y4))
 | 0 => ⟨fun _ _ _ r h => by simp [spec_Key.j1] at h, fun _ _ _ _ r h => by simp [spec_Key.j2] at h, fun _ _ _ _ _ r h => by simp [spec_Key.l0] at h⟩
 | k + 1 => by
  obtain ⟨ih0, ih1, ih2⟩ := spec_Key.mono_l k
  refine ⟨?_, ?_, ?_⟩
  ·
   intro y0 y1 y2
   unfold spec_Key.j1
   repeat' first
   | (with_reducible exact ih0 _ _ _)
   | (with_reducible exact ih1 _ _ _ _)
   | (with_reducible exact ih2 _ _ _ _ _)
   | (with_reducible exact spec_NormalPath.mono _ _)
   | (with_reducible exact spec_SortedQuery.mono _ _)
   | (with_reducible exact spec_TokenOk.mono _ _)
   | (with_reducible exact LeO.refl _)
   | (with_reducible exact LeO.none _)
   | (with_reducible refine LeO.ite ?_ ?_)
   | (with_reducible refine LeO.bind ?_ (fun _ => ?_))
   | exact ih0 _ _ _
   | exact ih1 _ _ _ _
   | exact ih2 _ _ _ _ _
   | exact spec_NormalPath.mono _ _
   | exact spec_SortedQuery.mono _ _
   | exact spec_TokenOk.mono _ _
   | exact LeO.none _
   | refine LeO.ite ?_ ?_
   | refine LeO.bind ?_ (fun _ => ?_)
  ·
   intro y0 y1 y2 y3
   unfold spec_Key.j2
   repeat' first
   | (with_reducible exact ih0 _ _ _)
   | (with_reducible exact ih1 _ _ _ _)
   | (with_reducible exact ih2 _ _ _ _ _)
   | (with_reducible exact spec_NormalPath.mono _ _)
   | (with_reducible exact spec_SortedQuery.mono _ _)
   | (with_reducible exact spec_TokenOk.mono _ _)
   | (with_reducible exact LeO.refl _)
   | (with_reducible exact LeO.none _)
   | (with_reducible refine LeO.ite ?_ ?_)
   | (with_reducible refine LeO.bind ?_ (fun _ => ?_))
   | exact ih0 _ _ _
   | exact ih1 _ _ _ _
   | exact ih2 _ _ _ _ _
   | exact spec_NormalPath.mono _ _
   | exact spec_SortedQuery.mono _ _
   | exact spec_TokenOk.mono _ _
   | exact LeO.none _
   | refine LeO.ite ?_ ?_
   | refine LeO.bind ?_ (fun _ => ?_)
  ·
   intro y0 y1 y2 y3 y4
   unfold spec_Key.l0
   repeat' first
   | (with_reducible exact ih0 _ _ _)
   | (with_reducible exact ih1 _ _ _ _)
   | (with_reducible exact ih2 _ _ _ _ _)
   | (with_reducible exact spec_NormalPath.mono _ _)
   | (with_reducible exact spec_SortedQuery.mono _ _)
   | (with_reducible exact spec_TokenOk.mono _ _)
   | (with_reducible exact LeO.refl _)
   | (with_reducible exact LeO.none _)
   | (with_reducible refine LeO.ite ?_ ?_)
   | (with_reducible refine LeO.bind ?_ (fun _ => ?_))
   | exact ih0 _ _ _
   | exact ih1 _ _ _ _
   | exact ih2 _ _ _ _ _
   | exact spec_NormalPath.mono _ _
   | exact spec_SortedQuery.mono _ _
   | exact spec_TokenOk.mono _ _
   | exact LeO.none _
   | refine LeO.ite ?_ ?_
   | refine LeO.bind ?_ (fun _ => ?_)
theorem spec_Key.mono : ∀ a0 a1 k, LeO (spec_Key.f k a0 a1) (spec_Key.f (k + 1) a0 a1) := by
 intro a0 a1 k
 obtain ⟨ih0, ih1, ih2⟩ := spec_Key.mono_l k
 unfold spec_Key.f
 repeat' first
   | (with_reducible exact ih0 _ _ _)
   | (with_reducible exact ih1 _ _ _ _)
   | (with_reducible exact ih2 _ _ _ _ _)
   | (with_reducible exact spec_NormalPath.mono _ _)
   | (with_reducible exact spec_SortedQuery.mono _ _)
   | (with_reducible exact spec_TokenOk.mono _ _)
   | (with_reducible exact LeO.refl _)
   | (with_reducible exact LeO.none _)
   | (with_reducible refine LeO.ite ?_ ?_)
   | (with_reducible refine LeO.bind ?_ (fun _ => ?_))
   | exact ih0 _ _ _
   | exact ih1 _ _ _ _
   | exact ih2 _ _ _ _ _
   | exact spec_NormalPath.mono _ _
   | exact spec_SortedQuery.mono _ _
   | exact spec_TokenOk.mono _ _
   | exact LeO.none _
   | refine LeO.ite ?_ ?_
   | refine LeO.bind ?_ (fun _ => ?_)
set_option maxHeartbeats 8000000 in
set_option maxRecDepth 100000 in
theorem spec_Key.calls (k : Nat) (a0 : ByteArray) (a1 : ByteArray) (r1 : ByteArray) (r2 : Bool) (w : World) (h : spec_Key.f k a0 a1 = some (r1, r2)) :
  Calls Tryz.prog 5 #[.string a0, .string a1] w fun e w' => e = .returned (.tuple #[.string r1, .bool r2]) ∧ Below w.heap.size w w' := by
 have HB := Aside0.mk (Below.refl w.heap.size w)
 have H : (spec_Key.l0 k a0 a1 a1 (⟨#[]⟩ : ByteArray) 0) = some (r1, r2) := h
 clear h
 have HC3 := Aside0.mk H
 clear H
 go_enter Tryz.func5, Tryz.ntmps5
 go_upto_block 0 with (fail)
 go_cut [6, 7] (fun v6 v7 wc => ∃ (kq : Nat) (x6_2 : ByteArray) (x7_2 : ByteArray), v6 = .string x6_2 ∧ v7 = .string x7_2 ∧ Aside0 (spec_Key.j1 kq a0 x6_2 x7_2 = some (r1, r2)) ∧ Aside0 (kq ≤ k) ∧ Aside0 (Below w.heap.size w wc))
 case first =>
  have H := HC3.out
  clear HC3
  have H' := Aside0.mk H
  clear H
  go_wp2
  go_loopg [6, 7, 8] k (fun kq v6 v7 v8 w' => ∃ (x6_1 : ByteArray) (x7_1 : ByteArray) (x8_1 : Int), v6 = .string x6_1 ∧ v7 = .string x7_1 ∧ v8 = .int .i64 x8_1 ∧ Aside0 (spec_Key.l0 kq a0 a1 x6_1 x7_1 x8_1 = some (r1, r2)) ∧ Aside0 (kq ≤ k) ∧ Aside0 (Below w.heap.size w w'))
  case atStart => exact ⟨(a1), ((⟨#[]⟩ : ByteArray)), (0), (by first | rfl | (simp; done) | (simp [*]; done)), (by first | rfl | (simp; done) | (simp [*]; done)), (by first | rfl | (simp; done) | (simp [*]; done)), H', ⟨Nat.le_refl _⟩, ⟨bh⟩⟩
  case round =>
   clear H'
   try clear p2
   obtain ⟨x6_1, x7_1, x8_1, rfl, rfl, rfl, HA, HK1, HB⟩ := hrel
   cases gk with
   | zero => exact absurd HA.out (by simp [spec_Key.l0])
   | succ k1 =>
    have H := HA.out
    clear HA
    simp only [spec_Key.l0] at H
    by_cases c4 : x8_1 < (a1.size : Int)
    ·
     rw [if_pos c4] at H
     have c4b0 : decide (x8_1 < (a1.size : Int)) = true := decide_eq_true c4
     clear c4
     (first | rw [c4b0] | (simp only [i64_w, i32_w]; rw [c4b0]) | skip)
     by_cases c5 : 0 ≤ x8_1
     ·
      rw [if_pos c5] at H
      have c5b0 : decide (0 ≤ x8_1) = true := decide_eq_true c5
      clear c5
      by_cases c7 : (bt a1 x8_1) = 63
      ·
       rw [if_pos c7] at H
       have c7b0 : ((bt a1 x8_1) == 63) = true := beq_iff_eq.mpr c7
       have c7b1 : ((bt a1 x8_1) != 63) = false := bne_eq_false_iff_eq.mpr c7
       clear c7
       have c8b0 := eq_true (of_decide_eq_true (by first | (with_reducible assumption) | assumption) : 0 ≤ x8_1)
       by_cases c9 : x8_1 ≤ (a1.size : Int)
       ·
        rw [if_pos c9] at H
        have c9b0 := eq_true c9
        have c9b1 : decide (x8_1 ≤ (a1.size : Int)) = true := decide_eq_true c9
        clear c9
        obtain ⟨ji10, hji10⟩ : ∃ j_ : Int, (wrap64 (x8_1 + 1)) = j_ := ⟨_, rfl⟩
        replace H : (if 0 ≤ (ji10) then (if (ji10) ≤ (a1.size : Int) then (spec_Key.j1 k1 a0 (a1.extract 0 (x8_1 : Int).toNat) (a1.extract ((ji10) : Int).toNat a1.size)) else (none)) else (none)) = some (r1, r2) := by first | (rw [hji10] at H; exact H) | (simp only [hji10] at H ⊢; exact H)
        have hji10w : (IntKind.i64.wrap (x8_1 + 1)) = ji10 := (i64_w _).trans hji10
        by_cases c11 : 0 ≤ (ji10)
        ·
         rw [if_pos c11] at H
         have c11b0 := eq_true c11
         have c11b1 : decide (0 ≤ (ji10)) = true := decide_eq_true c11
         clear c11
         by_cases c12 : (ji10) ≤ (a1.size : Int)
         ·
          rw [if_pos c12] at H
          have c12b0 := eq_true c12
          have c12b1 : decide ((ji10) ≤ (a1.size : Int)) = true := decide_eq_true c12
          clear c12
          have H' := Aside0.mk H
          clear H
          have p6 : 0 ≤ (x8_1 : Int) := of_decide_eq_true (by first | (with_reducible assumption) | assumption)
          have q6 : x8_1 < (a1.size : Int) := of_decide_eq_true (by first | (with_reducible assumption) | assumption)
          have hx6 := bt_at a1 x8_1
          replace p6 := eq_true p6
          replace q6 := eq_true q6
          go_wp2
          go_meet
          case rel => exact ⟨_, (a1.extract 0 (x8_1 : Int).toNat), (a1.extract ((ji10) : Int).toNat a1.size), (by first | rfl | (simp; done) | (simp [*]; done)), (by first | rfl | (simp; done) | (simp only [← hji10] <;> (first | rfl | simp)) | (simp [*]; done)), H', ⟨by have := HK1.out; first | omega | exact Nat.le_refl _⟩, ⟨bh⟩⟩
         ·
          rw [if_neg c12] at H
          exact absurd H (by simp)
        ·
         rw [if_neg c11] at H
         exact absurd H (by simp)
       ·
        rw [if_neg c9] at H
        exact absurd H (by simp)
      ·
       rw [if_neg c7] at H
       have c7b0 : ((bt a1 x8_1) == 63) = false := beq_eq_false_iff_ne.mpr c7
       have c7b1 : ((bt a1 x8_1) != 63) = true := bne_iff_ne.mpr c7
       have H' := Aside0.mk H
       clear H
       have p6 : 0 ≤ (x8_1 : Int) := of_decide_eq_true (by first | (with_reducible assumption) | assumption)
       have q6 : x8_1 < (a1.size : Int) := of_decide_eq_true (by first | (with_reducible assumption) | assumption)
       have hx6 := bt_at a1 x8_1
       replace p6 := eq_true p6
       replace q6 := eq_true q6
       go_wp2
       go_roundg k1
       case measure => have := HK1.out; omega
       case rel => exact ⟨(x6_1), (x7_1), (wrap64 (x8_1 + 1)), (by first | rfl | (simp; done) | (simp [*]; done)), (by first | rfl | (simp; done) | (simp [*]; done)), (by first | rfl | (simp; done) | (simp [*]; done)), H', ⟨by have := HK1.out; omega⟩, ⟨bh⟩⟩
     ·
      rw [if_neg c5] at H
      exact absurd H (by simp)
    ·
     rw [if_neg c4] at H
     have c4b0 : decide (x8_1 < (a1.size : Int)) = false := decide_eq_false c4
     clear c4
     (first | rw [c4b0] | (simp only [i64_w, i32_w]; rw [c4b0]) | skip)
     have H' := Aside0.mk H
     clear H
     go_wp2
     go_meet
     case rel => exact ⟨_, (x6_1), (x7_1), (by first | rfl | (simp; done) | (simp [*]; done)), (by first | rfl | (simp; done) | (simp [*]; done)), H', ⟨by have := HK1.out; first | omega | exact Nat.le_refl _⟩, ⟨bh⟩⟩
 case rest =>
  clear HC3
  try clear c1
  try clear p2
  try clear c4
  try clear c4b0
  try clear c5
  try clear c5b0
  try clear p6
  try clear q6
  try clear hx6
  try clear c7
  try clear c7b0
  try clear c7b1
  try clear c8
  try clear c8b0
  try clear c9
  try clear c9b0
  try clear c9b1
  try clear c11
  try clear c11b0
  try clear c11b1
  try clear c12
  try clear c12b0
  try clear c12b1
  try clear p2
  try clear p6
  try clear q6
  obtain ⟨kq, x6_2, x7_2, rfl, rfl, HA, HJ2, HB⟩ := hcut
  cases kq with
  | zero => exact absurd HA.out (by simp [spec_Key.j1])
  | succ kj2 =>
   have H := HA.out
   clear HA
   simp only [spec_Key.j1] at H
   obtain ⟨⟨t101, t102⟩, A130, H⟩ := Option.bind_eq_some_iff.mp H
   try dsimp only at H
   have A13 := Aside0.mk A130
   clear A130
   have HC14 := Aside0.mk H
   clear H
   go_upto_region 10 with (first | ((with_reducible refine gate_callee (f := 13) rfl ?_); refine goesL_ (some 32) rfl rfl Tryz.func13 (by kernel_rfl) rfl #[.string x6_2] rfl (by (try simp only [List.map_toArray, List.map_cons, List.map_nil]); first | done | rfl | (simp only [ne_nil_isEmpty]; rfl) | (simp only [List.length_drop, List.length_take]; rfl)) ?_; (with_reducible refine (spec_NormalPath.calls kj2 x6_2 t101 t102 _ A13.out).mono ?_); rintro e w15 ⟨rfl, hb⟩; refine ⟨_, rfl, ?_⟩; replace HB := Aside0.mk (below_step bh hb); (try clear hb); (try clear hb2); (try clear hk); (try clear hi)))
   (try simp only [Act.put, List.setIfInBounds_toArray, List.set_cons_zero, List.set_cons_succ])
   go_cut [41] (fun v41 wc => ∃ (kq : Nat) (x41_13 : Bool), v41 = .bool x41_13 ∧ Aside0 (spec_Key.j2 kq a0 x7_2 t101 x41_13 = some (r1, r2)) ∧ Aside0 (kq ≤ kj2) ∧ Aside0 (Below w.heap.size w wc))
   case first =>
    have H := HC14.out
    clear HC14
    by_cases c16 : t102 = true
    ·
     subst c16
     rw [if_pos rfl] at H
     replace H := Option.bind_eq_some_iff.mp H
     obtain ⟨t103, A170, H⟩ := H
     replace H : (spec_Key.j2 kj2 a0 x7_2 t101 (!t103)) = some (r1, r2) := H
     have A17 := Aside0.mk A170
     clear A170
     have H' := Aside0.mk H
     clear H
     go_wp2_with (first | (go_at_call 14; (with_reducible refine (spec_TokenOk.calls kj2 a0 t103 _ A17.out).mono ?_); rintro e w18 ⟨rfl, hb⟩; replace HB := Aside0.mk (below_step bh hb); (try clear hb); (try clear hb2); (try clear hk); (try clear hi)))
     go_meet
     case rel => exact ⟨_, (!t103), (by first | rfl | (simp; done) | (simp [*]; done)), H', ⟨by have := HJ2.out; first | omega | exact Nat.le_refl _⟩, ⟨bh⟩⟩
    ·
     replace c16 := Bool.eq_false_iff.mpr c16
     subst c16
     have H1 : (spec_Key.j2 kj2 a0 x7_2 t101 true) = some (r1, r2) := by rw [if_neg (show ¬ (false = true) by decide)] at H; exact H
     clear H
     have H := H1
     clear H1
     have H' := Aside0.mk H
     clear H
     go_wp2
     go_meet
     case rel => exact ⟨_, (true), (by first | rfl | (simp; done) | (simp [*]; done)), H', ⟨by have := HJ2.out; first | omega | exact Nat.le_refl _⟩, ⟨bh⟩⟩
   case rest =>
    clear HC14
    try clear c1
    try clear p2
    try clear c4
    try clear c4b0
    try clear c5
    try clear c5b0
    try clear p6
    try clear q6
    try clear hx6
    try clear c7
    try clear c7b0
    try clear c7b1
    try clear c8
    try clear c8b0
    try clear c9
    try clear c9b0
    try clear c9b1
    try clear c11
    try clear c11b0
    try clear c11b1
    try clear c12
    try clear c12b0
    try clear c12b1
    try clear c13
    try clear c16
    try clear p2
    try clear p6
    try clear q6
    obtain ⟨kq, x41_13, rfl, HA, HJ13, HB⟩ := hcut
    cases kq with
    | zero => exact absurd HA.out (by simp [spec_Key.j2])
    | succ kj13 =>
     have H := HA.out
     clear HA
     simp only [spec_Key.j2] at H
     by_cases c19 : x41_13 = true
     ·
      subst c19
      have H1 : (some ((⟨#[]⟩ : ByteArray), false)) = some (r1, r2) := by rw [if_pos rfl] at H; exact H
      clear H
      have H := H1
      clear H1
      simp only [Option.some.injEq, Prod.mk.injEq] at H
      obtain ⟨rfl, rfl⟩ := H
      go_wp2
      go_ret2
      exact ⟨er, bh⟩
     ·
      replace c19 := Bool.eq_false_iff.mpr c19
      subst c19
      rw [if_neg (show ¬ (false = true) by decide)] at H
      obtain ⟨t104, A200, H⟩ := Option.bind_eq_some_iff.mp H
      try dsimp only at H
      have A20 := Aside0.mk A200
      clear A200
      by_cases c21 : t104.toList = ([] : List UInt8)
      ·
       rw [if_pos c21] at H
       have c21b0 : (t104.toList == ([] : List UInt8)) = true := beq_iff_eq.mpr c21
       have c21b1 : (t104.toList != ([] : List UInt8)) = false := bne_eq_false_iff_eq.mpr c21
       clear c21
       obtain ⟨t105, A220, H⟩ := Option.bind_eq_some_iff.mp H
       try dsimp only at H
       have A22 := Aside0.mk A220
       clear A220
       by_cases c23 : t105.size + t101.size ≤ 9223372036854775807
       ·
        rw [if_pos c23] at H
        have c23b0 := eq_true c23
        have c23b1 : decide (t105.size + t101.size ≤ 9223372036854775807) = true := decide_eq_true c23
        try have c23b2 : (9223372036854775807 < t105.size + t101.size) = False := eq_false (Nat.not_lt.2 c23)
        simp only [Option.some.injEq, Prod.mk.injEq] at H
        obtain ⟨rfl, rfl⟩ := H
        go_wp2_with (first | ((with_reducible refine gate_callee (f := 11) rfl ?_); refine goesL_ (some 43) rfl rfl Tryz.func11 (by kernel_rfl) rfl #[.string x7_2] rfl (by (try simp only [List.map_toArray, List.map_cons, List.map_nil]); first | done | rfl | (simp only [ne_nil_isEmpty]; rfl) | (simp only [List.length_drop, List.length_take]; rfl)) ?_; (with_reducible refine (spec_SortedQuery.calls kj13 x7_2 t104 _ A20.out).mono ?_); rintro e w24 ⟨rfl, hb⟩; refine ⟨_, rfl, ?_⟩; replace HB := Aside0.mk (below_step bh hb); (try clear hb); (try clear hb2); (try clear hk); (try clear hi)) | ((with_reducible refine gate_callee (f := 15) rfl ?_); refine goesL_ (some 51) rfl rfl Tryz.func15 (by kernel_rfl) rfl #[.string a0] rfl (by (try simp only [List.map_toArray, List.map_cons, List.map_nil]); first | done | rfl | (simp only [ne_nil_isEmpty]; rfl) | (simp only [List.length_drop, List.length_take]; rfl)) ?_; (with_reducible refine (spec_Lower.calls a0 t105 _ A22.out).mono ?_); rintro e w25 ⟨rfl, hb⟩; refine ⟨_, rfl, ?_⟩; replace HB := Aside0.mk (below_step bh hb); (try clear hb); (try clear hb2); (try clear hk); (try clear hi)))
        go_ret2
        exact ⟨er, bh⟩
       ·
        rw [if_neg c23] at H
        exact absurd H (by simp)
      ·
       rw [if_neg c21] at H
       have c21b0 : (t104.toList == ([] : List UInt8)) = false := beq_eq_false_iff_ne.mpr c21
       have c21b1 : (t104.toList != ([] : List UInt8)) = true := bne_iff_ne.mpr c21
       by_cases c26 : t101.size + 1 ≤ 9223372036854775807
       ·
        rw [if_pos c26] at H
        have c26b0 := eq_true c26
        have c26b1 : decide (t101.size + 1 ≤ 9223372036854775807) = true := decide_eq_true c26
        try have c26b2 : (9223372036854775807 < t101.size + 1) = False := eq_false (Nat.not_lt.2 c26)
        by_cases c27 : (t101 ++ (⟨#[63]⟩ : ByteArray)).size + t104.size ≤ 9223372036854775807
        ·
         rw [if_pos c27] at H
         have c27b0 := eq_true c27
         have c27b1 : decide ((t101 ++ (⟨#[63]⟩ : ByteArray)).size + t104.size ≤ 9223372036854775807) = true := decide_eq_true c27
         try have c27b2 : (9223372036854775807 < (t101 ++ (⟨#[63]⟩ : ByteArray)).size + t104.size) = False := eq_false (Nat.not_lt.2 c27)
         try have c27n3 := by have z_ := c27b2; simp only [ByteArray.size_append', ByteArray.size_mk', List.size_toArray, List.length_cons, List.length_nil, Nat.zero_add, Nat.reduceAdd] at z_; exact z_
         obtain ⟨t106, A280, H⟩ := Option.bind_eq_some_iff.mp H
         try dsimp only at H
         have A28 := Aside0.mk A280
         clear A280
         by_cases c29 : t106.size + ((t101 ++ (⟨#[63]⟩ : ByteArray)) ++ t104).size ≤ 9223372036854775807
         ·
          rw [if_pos c29] at H
          have c29b0 := eq_true c29
          have c29b1 : decide (t106.size + ((t101 ++ (⟨#[63]⟩ : ByteArray)) ++ t104).size ≤ 9223372036854775807) = true := decide_eq_true c29
          try have c29b2 : (9223372036854775807 < t106.size + ((t101 ++ (⟨#[63]⟩ : ByteArray)) ++ t104).size) = False := eq_false (Nat.not_lt.2 c29)
          try have c29n3 := by have z_ := c29b2; simp only [ByteArray.size_append', ByteArray.size_mk', List.size_toArray, List.length_cons, List.length_nil, Nat.zero_add, Nat.reduceAdd] at z_; exact z_
          simp only [Option.some.injEq, Prod.mk.injEq] at H
          obtain ⟨rfl, rfl⟩ := H
          go_wp2_with (first | ((with_reducible refine gate_callee (f := 11) rfl ?_); refine goesL_ (some 43) rfl rfl Tryz.func11 (by kernel_rfl) rfl #[.string x7_2] rfl (by (try simp only [List.map_toArray, List.map_cons, List.map_nil]); first | done | rfl | (simp only [ne_nil_isEmpty]; rfl) | (simp only [List.length_drop, List.length_take]; rfl)) ?_; (with_reducible refine (spec_SortedQuery.calls kj13 x7_2 t104 _ A20.out).mono ?_); rintro e w30 ⟨rfl, hb⟩; refine ⟨_, rfl, ?_⟩; replace HB := Aside0.mk (below_step bh hb); (try clear hb); (try clear hb2); (try clear hk); (try clear hi)) | ((with_reducible refine gate_callee (f := 15) rfl ?_); refine goesL_ (some 51) rfl rfl Tryz.func15 (by kernel_rfl) rfl #[.string a0] rfl (by (try simp only [List.map_toArray, List.map_cons, List.map_nil]); first | done | rfl | (simp only [ne_nil_isEmpty]; rfl) | (simp only [List.length_drop, List.length_take]; rfl)) ?_; (with_reducible refine (spec_Lower.calls a0 t106 _ A28.out).mono ?_); rintro e w31 ⟨rfl, hb⟩; refine ⟨_, rfl, ?_⟩; replace HB := Aside0.mk (below_step bh hb); (try clear hb); (try clear hb2); (try clear hk); (try clear hi)))
          go_ret2
          exact ⟨er, bh⟩
         ·
          rw [if_neg c29] at H
          exact absurd H (by simp)
        ·
         rw [if_neg c27] at H
         exact absurd H (by simp)
       ·
        rw [if_neg c26] at H
        exact absurd H (by simp)
/-! ### laws_FnExactKey: function 3 -/
def laws_FnExactKey.f (k : Nat) (a0 : ByteArray) (a1 : ByteArray) : Option (Bool) := if (a0.size : Int) > 1048576 then (some true) else (if (a1.size : Int) > 1048576 then (some true) else ((spec_Key.f k a0 a1).bind fun bt101 => ((impl_Key.f k a0 a1).bind fun bt103 => (if bt103.1.toList = bt101.1.toList then (if (bt103.2 != bt101.2) = true then (some false) else (some true)) else (some false)))))
theorem laws_FnExactKey.mono : ∀ a0 a1 k, LeO (laws_FnExactKey.f k a0 a1) (laws_FnExactKey.f (k + 1) a0 a1) := by
 intro a0 a1 k
 unfold laws_FnExactKey.f
 repeat' first
   | (with_reducible exact impl_Key.mono _ _ _)
   | (with_reducible exact spec_Key.mono _ _ _)
   | (with_reducible exact LeO.refl _)
   | (with_reducible exact LeO.none _)
   | (with_reducible refine LeO.ite ?_ ?_)
   | (with_reducible refine LeO.bind ?_ (fun _ => ?_))
   | exact impl_Key.mono _ _ _
   | exact spec_Key.mono _ _ _
   | exact LeO.none _
   | refine LeO.ite ?_ ?_
   | refine LeO.bind ?_ (fun _ => ?_)
set_option maxHeartbeats 8000000 in
set_option maxRecDepth 100000 in
theorem laws_FnExactKey.calls (k : Nat) (a0 : ByteArray) (a1 : ByteArray) (r : Bool) (w : World) (hX : XW 1 w) (h : laws_FnExactKey.f k a0 a1 = some r) :
  Calls Tryz.prog 3 #[.string a0, .string a1] w fun e w' => e = .returned (.bool r) ∧ Below w.heap.size w w' := by
 have HB := Aside0.mk (Below.refl w.heap.size w)
 have H : (if (a0.size : Int) > 1048576 then (some true) else (if (a1.size : Int) > 1048576 then (some true) else ((spec_Key.f k a0 a1).bind fun bt101 => ((impl_Key.f k a0 a1).bind fun bt103 => (if bt103.1.toList = bt101.1.toList then (if (bt103.2 != bt101.2) = true then (some false) else (some true)) else (some false)))))) = some r := h
 clear h
 by_cases c3 : (a0.size : Int) > 1048576
 ·
  rw [if_pos c3] at H
  have c3b0 : decide (1048576 < (a0.size : Int)) = true := decide_eq_true c3
  have c3b1 : decide (1048576 < a0.size) = true := decide_eq_true (by omega)
  clear c3
  obtain rfl := Option.some.inj H
  go_enter Tryz.func3, Tryz.ntmps3
  go_wp2
  go_ret
  exact ⟨er, bh⟩
 ·
  rw [if_neg c3] at H
  have c3b0 : decide (1048576 < (a0.size : Int)) = false := decide_eq_false c3
  have c3b1 : decide (1048576 < a0.size) = false := decide_eq_false (by omega)
  clear c3
  by_cases c4 : (a1.size : Int) > 1048576
  ·
   rw [if_pos c4] at H
   have c4b0 : decide (1048576 < (a1.size : Int)) = true := decide_eq_true c4
   have c4b1 : decide (1048576 < a1.size) = true := decide_eq_true (by omega)
   clear c4
   obtain rfl := Option.some.inj H
   go_enter Tryz.func3, Tryz.ntmps3
   go_wp2
   go_ret
   exact ⟨er, bh⟩
  ·
   rw [if_neg c4] at H
   have c4b0 : decide (1048576 < (a1.size : Int)) = false := decide_eq_false c4
   have c4b1 : decide (1048576 < a1.size) = false := decide_eq_false (by omega)
   clear c4
   obtain ⟨⟨t101, t102⟩, A50, H⟩ := Option.bind_eq_some_iff.mp H
   try dsimp only at H
   have A5 := Aside0.mk A50
   clear A50
   obtain ⟨⟨t103, t104⟩, A60, H⟩ := Option.bind_eq_some_iff.mp H
   try dsimp only at H
   have A6 := Aside0.mk A60
   clear A60
   by_cases c7 : t103.toList = t101.toList
   ·
    rw [if_pos c7] at H
    have c7b0 : (t103.toList == t101.toList) = true := beq_iff_eq.mpr c7
    have c7b1 : (t103.toList != t101.toList) = false := bne_eq_false_iff_eq.mpr c7
    clear c7
    by_cases c8 : (t104 != t102) = true
    ·
     rw [if_pos c8] at H
     have c8b0 : (t104 != t102) = true := c8
     (try (have c8b1 : decide (t104 = t102) = false := by simpa using c8))
     (try (have c8b2 : (t104 == t102) = false := by simpa using c8))
     (try (have c8b3 : ¬ (t104 = t102) := by simpa using c8))
     clear c8
     obtain rfl := Option.some.inj H
     go_enter Tryz.func3, Tryz.ntmps3
     go_wp2_with (first | ((with_reducible refine gate_callee (f := 5) rfl ?_); refine goesL_ (some 18) rfl rfl Tryz.func5 (by kernel_rfl) rfl #[.string a0, .string a1] rfl mc ?_; (with_reducible refine (spec_Key.calls k a0 a1 t101 t102 _ A5.out).mono ?_); rintro e w9 ⟨rfl, hb⟩; refine ⟨_, rfl, ?_⟩; replace HB := Aside0.mk (below_step bh hb); (try clear hb); (try clear hb2); (try clear hk); (try clear hi)) | ((with_reducible refine gate_callee (f := 6) rfl ?_); refine goesL_ (some 24) rfl rfl Tryz.func6 (by kernel_rfl) rfl #[.string a0, .string a1] rfl mc ?_; (with_reducible refine (impl_Key.calls k a0 a1 t103 t104 _ ?side1 A6.out).mono ?_); (case side1 => exact XW.to (XW.stays hX bh) (by decide)); rintro e w10 ⟨rfl, hb⟩; refine ⟨_, rfl, ?_⟩; replace HB := Aside0.mk (below_step bh hb); (try clear hb); (try clear hb2); (try clear hk); (try clear hi)))
     go_ret
     exact ⟨er, bh⟩
    ·
     rw [if_neg c8] at H
     have c8b0 : (t104 != t102) = false := by simpa using c8
     (try (have c8b1 : decide (t104 = t102) = true := by simpa using c8))
     (try (have c8b2 : (t104 == t102) = true := by simpa using c8))
     clear c8
     obtain rfl := Option.some.inj H
     go_enter Tryz.func3, Tryz.ntmps3
     go_wp2_with (first | ((with_reducible refine gate_callee (f := 5) rfl ?_); refine goesL_ (some 18) rfl rfl Tryz.func5 (by kernel_rfl) rfl #[.string a0, .string a1] rfl mc ?_; (with_reducible refine (spec_Key.calls k a0 a1 t101 t102 _ A5.out).mono ?_); rintro e w11 ⟨rfl, hb⟩; refine ⟨_, rfl, ?_⟩; replace HB := Aside0.mk (below_step bh hb); (try clear hb); (try clear hb2); (try clear hk); (try clear hi)) | ((with_reducible refine gate_callee (f := 6) rfl ?_); refine goesL_ (some 24) rfl rfl Tryz.func6 (by kernel_rfl) rfl #[.string a0, .string a1] rfl mc ?_; (with_reducible refine (impl_Key.calls k a0 a1 t103 t104 _ ?side1 A6.out).mono ?_); (case side1 => exact XW.to (XW.stays hX bh) (by decide)); rintro e w12 ⟨rfl, hb⟩; refine ⟨_, rfl, ?_⟩; replace HB := Aside0.mk (below_step bh hb); (try clear hb); (try clear hb2); (try clear hk); (try clear hi)))
     go_ret
     exact ⟨er, bh⟩
   ·
    rw [if_neg c7] at H
    have c7b0 : (t103.toList == t101.toList) = false := beq_eq_false_iff_ne.mpr c7
    have c7b1 : (t103.toList != t101.toList) = true := bne_iff_ne.mpr c7
    obtain rfl := Option.some.inj H
    go_enter Tryz.func3, Tryz.ntmps3
    go_wp2_with (first | ((with_reducible refine gate_callee (f := 5) rfl ?_); refine goesL_ (some 18) rfl rfl Tryz.func5 (by kernel_rfl) rfl #[.string a0, .string a1] rfl mc ?_; (with_reducible refine (spec_Key.calls k a0 a1 t101 t102 _ A5.out).mono ?_); rintro e w13 ⟨rfl, hb⟩; refine ⟨_, rfl, ?_⟩; replace HB := Aside0.mk (below_step bh hb); (try clear hb); (try clear hb2); (try clear hk); (try clear hi)) | ((with_reducible refine gate_callee (f := 6) rfl ?_); refine goesL_ (some 24) rfl rfl Tryz.func6 (by kernel_rfl) rfl #[.string a0, .string a1] rfl mc ?_; (with_reducible refine (impl_Key.calls k a0 a1 t103 t104 _ ?side1 A6.out).mono ?_); (case side1 => exact XW.to (XW.stays hX bh) (by decide)); rintro e w14 ⟨rfl, hb⟩; refine ⟨_, rfl, ?_⟩; replace HB := Aside0.mk (below_step bh hb); (try clear hb); (try clear hb2); (try clear hk); (try clear hi)))
    go_ret
    exact ⟨er, bh⟩

/-- THE ONE PURE STATEMENT of laws_FnExactKey: yours. -/
def laws_FnExactKey.Pure : Prop := ∀ (a0 : ByteArray) (a1 : ByteArray), a0.size ≤ 140737488351232 → a1.size ≤ 140737488351232 → ∃ k, laws_FnExactKey.f k a0 a1 = some true
theorem laws_FnExactKey.walk (P : laws_FnExactKey.Pure) (a0 : ByteArray) (a1 : ByteArray) (w : World) (hX : XW 1 w) (w0 : a0.size ≤ 140737488351232) (w1 : a1.size ≤ 140737488351232) :
  Calls Tryz.prog 3 #[.string a0, .string a1] w fun e w' => e = .returned (.bool true) ∧ Below w.heap.size w w' := by
 obtain ⟨k, h⟩ := P a0 a1 w0 w1
 refine (laws_FnExactKey.calls k a0 a1 true w hX h).mono ?_
 rintro e w' ⟨rfl, hd⟩
 exact ⟨rfl, hd⟩
end Go.Proofs.YtonimccihcodnaaGreatDoor.P
namespace Go.Proofs.YtonimccihcodnaaGreatDoor.Q
open Go.RowKit Go.Proofs.YtonimccihcodnaaGreatDoorW.PrintWords Go.Proofs.YtonimccihcodnaaGreatDoorW.PrintLast Go.Proofs.YtonimccihcodnaaGreatDoorW.PrintMore

theorem wrap_in {i : Int} (h0 : -9223372036854775808 ≤ i) (h1 : i ≤ 9223372036854775807) : wrap64 i = i := by unfold wrap64; omega
theorem wrap_next {i : Nat} {n : Nat} (h : i < n) (hn : n ≤ 4611686018427387904) : wrap64 ((i : Int) + 1) = ((i + 1 : Nat) : Int) := by unfold wrap64; omega

theorem toList_data (s : ByteArray) : s.toList = s.data.toList := ByteArray.toList_eq s
theorem eq_of_toList {a b : ByteArray} (h : a.toList = b.toList) : a = b := by
  rw [toList_data, toList_data] at h
  exact ByteArray.ext (Array.toList_inj.1 h)
theorem bt_get (s : ByteArray) (i : Nat) (h : i < s.size) : (bytesOf s)[i]? = some (bt s i) := by
  rw [← rd_bytesOf]
  have h1 : i < (bytesOf s).length := by rw [bytesOf_length]; exact h
  simp [rd, List.getD_eq_getElem?_getD, List.getElem?_eq_getElem h1]
theorem drop_bt (s : ByteArray) (i : Nat) (h : i < s.size) : (bytesOf s).drop i = bt s i :: (bytesOf s).drop (i + 1) := by
  have h1 : i < (bytesOf s).length := by rw [bytesOf_length]; exact h
  rw [List.drop_eq_getElem_cons h1]
  have := bt_get s i h
  rw [List.getElem?_eq_getElem h1] at this
  rw [Option.some.inj this]
theorem mem_bytes {s : ByteArray} {c : Int} (h : c ∈ bytesOf s) : 0 ≤ c ∧ c ≤ 255 := by
  unfold bytesOf at h
  obtain ⟨b, _, rfl⟩ := List.mem_map.1 h
  have := b.toNat_lt
  omega
theorem bytes_nums (l : List Int) (h : ∀ c ∈ l, 0 ≤ c ∧ c ≤ 255) : bytesOf (strOfNums l) = l := by
  unfold bytesOf
  rw [strOfNums_data, List.map_map]
  refine (List.map_congr_left fun c hc => ?_).trans (List.map_id l)
  have := h c hc
  simp only [Function.comp, UInt8.toNat_ofNat', id]
  omega
theorem nums_bytes (s : ByteArray) : strOfNums (bytesOf s) = s := by
  apply ByteArray.ext
  apply Array.toList_inj.1
  rw [strOfNums_data]
  unfold bytesOf
  rw [List.map_map]
  refine (List.map_congr_left fun c hc => ?_).trans (List.map_id _)
  simp
theorem bytes_inj {a b : ByteArray} (h : bytesOf a = bytesOf b) : a = b := by rw [← nums_bytes a, ← nums_bytes b, h]
theorem bytes_append (a b : ByteArray) : bytesOf (a ++ b) = bytesOf a ++ bytesOf b := by
  unfold bytesOf
  rw [← List.map_append]
  simp [ByteArray.data_append]

/-- A loop over bytes: what a round does with its state and a byte; an end ahead of time. -/
def runL {σ β : Type} (f : σ → Int → σ ⊕ β) (fin : σ → β) : List Int → σ → β
  | [], st => fin st
  | c :: cs, st => match f st c with
    | .inl st' => runL f fin cs st'
    | .inr b => b
/-- The printed loop comes to what 'runL' comes to, from some number of rounds on. -/
theorem ev_run {σ β : Type} (s : ByteArray) (I : σ → Nat → Prop) (f : σ → Int → σ ⊕ β) (fin : σ → β) (g : Nat → σ → Int → Option β) (K : Nat)
    (hstep : ∀ k st (i : Nat), K ≤ k → i < s.size → I st i → (∀ st', f st (bt s i) = .inl st' → g (k + 1) st i = g k st' ((i + 1 : Nat) : Int) ∧ I st' (i + 1)) ∧ (∀ b, f st (bt s i) = .inr b → g (k + 1) st i = some b))
    (hend : ∀ k st, K ≤ k → I st s.size → g (k + 1) st (s.size : Int) = some (fin st)) (st : σ) (h0 : I st 0) :
    Ev (fun k => g k st 0) (runL f fin (bytesOf s) st) := by
  have key : ∀ (d i : Nat) (st : σ), i + d = s.size → I st i → ∀ k, K + d < k → g k st (i : Int) = some (runL f fin ((bytesOf s).drop i) st) := by
    intro d
    induction d with
    | zero =>
      intro i st hd hI k hk
      obtain ⟨k, rfl⟩ : ∃ m, k = m + 1 := ⟨k - 1, by omega⟩
      have e : i = s.size := by omega
      subst e
      rw [hend k st (by omega) hI, List.drop_of_length_le (by rw [bytesOf_length]; exact Nat.le_refl _)]
      rfl
    | succ d ih =>
      intro i st hd hI k hk
      obtain ⟨k, rfl⟩ : ∃ m, k = m + 1 := ⟨k - 1, by omega⟩
      obtain ⟨h1, h2⟩ := hstep k st i (by omega) (by omega) hI
      rw [drop_bt s i (by omega)]
      show g (k + 1) st i = some (match f st (bt s i) with | .inl st' => runL f fin ((bytesOf s).drop (i + 1)) st' | .inr b => b)
      cases hf : f st (bt s i) with
      | inl st' =>
        obtain ⟨e, hI'⟩ := h1 st' hf
        rw [e]
        exact ih (i + 1) st' (by omega) hI' k (by omega)
      | inr b => exact h2 b hf
  refine ⟨K + s.size + 1, fun k hk => ?_⟩
  have := key s.size 0 st (by omega) h0 k (by omega)
  rw [List.drop_zero] at this
  exact this

/-- A loop that asks each byte. -/
theorem ev_all (s : ByteArray) (p : Int → Bool) (g : Nat → Int → Option Bool) (K : Nat)
    (h1 : ∀ k (i : Nat), K ≤ k → i < s.size → p (bt s i) = true → g (k + 1) i = g k ((i + 1 : Nat) : Int))
    (h0 : ∀ k (i : Nat), K ≤ k → i < s.size → p (bt s i) = false → g (k + 1) i = some false)
    (he : ∀ k, K ≤ k → g (k + 1) (s.size : Int) = some true) : Ev (fun k => g k 0) ((bytesOf s).all p) := by
  have h := ev_run (σ := Unit) (β := Bool) s (fun _ _ => True) (fun _ c => if p c = true then .inl () else .inr false) (fun _ => true) (fun k _ i => g k i) K
    (fun k st i hk hi _ => ⟨fun st' e => ⟨h1 k i hk hi (by
        by_cases hp : p (bt s i) = true
        · exact hp
        · rw [if_neg hp] at e; cases e), trivial⟩, fun b e => by
        by_cases hp : p (bt s i) = true
        · rw [if_pos hp] at e; cases e
        · rw [if_neg hp] at e
          obtain rfl : false = b := by injection e
          exact h0 k i hk hi (by simpa using hp)⟩)
    (fun k st hk _ => he k hk) () trivial
  have e : ∀ l : List Int, runL (σ := Unit) (β := Bool) (fun _ c => if p c = true then .inl () else .inr false) (fun _ => true) l () = l.all p := by
    intro l
    induction l with
    | nil => rfl
    | cons c cs ih =>
      rw [List.all_cons]
      unfold runL
      by_cases hp : p c = true
      · simp only [hp, if_true, Bool.true_and]; exact ih
      · simp only [(by simpa using hp : p c = false), Bool.false_and, Bool.false_eq_true, if_false]
  rw [e] at h
  exact h
theorem runL_all {β : Type} (p : Int → Bool) (r b : β) (l : List Int) : runL (σ := Unit) (fun _ c => if p c = true then .inl () else .inr b) (fun _ => r) l () = if l.all p = true then r else b := by
  induction l with
  | nil => rfl
  | cons c cs ih =>
    rw [List.all_cons]
    unfold runL
    by_cases hp : p c = true
    · simp only [hp, if_true, Bool.true_and]; exact ih
    · simp only [(by simpa using hp : p c = false), Bool.false_and, Bool.false_eq_true, if_false]
/-- A loop that asks each byte, and goes on behind it. -/
theorem ev_allr {β : Type} (s : ByteArray) (p : Int → Bool) (r b : β) (g : Nat → Int → Option β) (K : Nat)
    (h1 : ∀ k (i : Nat), K ≤ k → i < s.size → p (bt s i) = true → g (k + 1) i = g k ((i + 1 : Nat) : Int))
    (h0 : ∀ k (i : Nat), K ≤ k → i < s.size → p (bt s i) = false → g (k + 1) i = some b)
    (he : ∀ k, K ≤ k → g (k + 1) (s.size : Int) = some r) : Ev (fun k => g k 0) (if (bytesOf s).all p = true then r else b) := by
  rw [← runL_all p r b (bytesOf s)]
  refine ev_run (σ := Unit) s (fun _ _ => True) (fun _ c => if p c = true then .inl () else .inr b) (fun _ => r) (fun k _ i => g k i) K
    (fun k st i hk hi _ => ⟨fun st' e => ⟨h1 k i hk hi (by
        by_cases hp : p (bt s i) = true
        · exact hp
        · rw [if_neg hp] at e; cases e), trivial⟩, fun b' e => by
        by_cases hp : p (bt s i) = true
        · rw [if_pos hp] at e; cases e
        · rw [if_neg hp] at e
          obtain rfl : b = b' := by injection e
          exact h0 k i hk hi (by simpa using hp)⟩)
    (fun k st hk _ => he k hk) () trivial
/-- A loop that puts something behind a list for each byte. -/
theorem runL_flat {β : Type} (f : Int → List Int) (fin : List Int → β) (l st : List Int) : runL (fun st c => .inl (st ++ f c)) fin l st = fin (st ++ l.flatMap f) := by
  induction l generalizing st with
  | nil => simp [runL]
  | cons c cs ih =>
    unfold runL
    simp only [ih, List.flatMap_cons, List.append_assoc]
theorem ev_const {α : Type} {x : Option α} {r : α} (h : x = some r) : Ev (fun _ => x) r := ⟨0, fun _ _ => h⟩
theorem ev_eq {α : Type} {g : Nat → Option α} {r r' : α} (h : Ev g r) (e : r = r') : Ev g r' := e ▸ h
/-- From a number of rounds on: a law that holds at each such number. -/
theorem ev_now {α : Type} {g : Nat → Option α} {r : α} (K : Nat) (h : ∀ k, K ≤ k → g k = some r) : Ev g r := ⟨K, h⟩
theorem all_congr' {l : List Int} {p q : Int → Bool} (h : ∀ c ∈ l, p c = q c) : l.all p = l.all q := by
  induction l with
  | nil => rfl
  | cons a l ih =>
    rw [List.all_cons, List.all_cons, h a List.mem_cons_self, ih fun c hc => h c (List.mem_cons_of_mem _ hc)]
end Go.Proofs.YtonimccihcodnaaGreatDoor.Q
namespace Go.Proofs.YtonimccihcodnaaGreatDoor.Q
set_option linter.unusedVariables false
set_option linter.unusedSimpArgs false
open Go.RowKit Go.Proofs.YtonimccihcodnaaGreatDoor.P Go.Proofs.YtonimccihcodnaaGreatDoorW.PrintWords Go.Proofs.YtonimccihcodnaaGreatDoorW.PrintLast Go.Proofs.YtonimccihcodnaaGreatDoorW.PrintMore

theorem bytes_extract (s : ByteArray) (a b : Nat) : bytesOf (s.extract a b) = ((bytesOf s).drop a).take (b - a) := by
  unfold bytesOf
  rw [Lib.extract_data, List.map_take, List.map_drop]
theorem bytes_last (s : ByteArray) (h : 0 < s.size) : bytesOf s = bytesOf (s.extract 0 (s.size - 1)) ++ [bt s ((s.size - 1 : Nat) : Int)] := by
  rw [bytes_extract, List.drop_zero, Nat.sub_zero]
  have h1 := drop_bt s (s.size - 1) (by omega)
  have h2 : (bytesOf s).drop (s.size - 1 + 1) = [] := List.drop_of_length_le (by rw [bytesOf_length]; omega)
  rw [h2] at h1
  rw [← h1, List.take_append_drop]
theorem bytes_first (s : ByteArray) (h : 0 < s.size) : bytesOf s = bt s 0 :: bytesOf (s.extract 1 s.size) := by
  rw [bytes_extract]
  have h1 := drop_bt s 0 h
  rw [List.drop_zero] at h1
  rw [List.take_of_length_le (by rw [List.length_drop, bytesOf_length]; exact Nat.le_refl _)]
  exact h1
theorem size_extract (s : ByteArray) (a b : Nat) (hb : b ≤ s.size) : (s.extract a b).size = b - a := by
  rw [← bytesOf_length, bytes_extract, List.length_take, List.length_drop, bytesOf_length]
  omega
theorem toList_nil (s : ByteArray) : s.toList = [] ↔ s.size = 0 := by
  rw [toList_data, ← data_length]
  exact List.length_eq_zero_iff.symm
theorem bytes_nil (s : ByteArray) (h : s.size = 0) : bytesOf s = [] := List.eq_nil_of_length_eq_zero (by rw [bytesOf_length]; exact h)
theorem bytes_ofList (l : List UInt8) : bytesOf ⟨l.toArray⟩ = l.map fun b => (b.toNat : Int) := by
  unfold bytesOf
  rfl
theorem bytes_two (s : ByteArray) (i : Nat) (h : i + 2 ≤ s.size) : bytesOf (s.extract i (i + 2)) = [bt s (i : Int), bt s ((i + 1 : Nat) : Int)] := by
  rw [bytes_extract, drop_bt s i (by omega), drop_bt s (i + 1) (by omega), show i + 2 - i = 2 from by omega]
  rfl
theorem cut_nil (sub : List UInt8) (h : sub ≠ []) : Lib.cut [] sub = ([], [], false) := by
  unfold Lib.cut Lib.index
  cases sub with
  | nil => exact absurd rfl h
  | cons a t => rfl
theorem cut_cons (b : UInt8) (l sub : List UInt8) : Lib.cut (b :: l) sub = if sub.isPrefixOf (b :: l) = true then ([], (b :: l).drop sub.length, true) else if (Lib.cut l sub).2.2 = true then (b :: (Lib.cut l sub).1, (Lib.cut l sub).2.1, true) else (b :: l, [], false) := by
  have hge := Lib.index_ge l sub
  unfold Lib.cut
  by_cases h : sub.isPrefixOf (b :: l) = true
  · have e : Lib.index (b :: l) sub = 0 := by unfold Lib.index; rw [if_pos h]
    rw [e, if_pos h]
    simp
  · rw [if_neg h]
    by_cases h2 : 0 ≤ Lib.index l sub
    · have e : Lib.index (b :: l) sub = Lib.index l sub + 1 := by
        rw [Lib.index, if_neg h, if_neg]
        rw [beq_iff_eq]
        omega
      obtain ⟨n, hn⟩ : ∃ n : Nat, Lib.index l sub = (n : Int) := ⟨(Lib.index l sub).toNat, by omega⟩
      have e2 : ((n : Int) + 1).toNat = n + 1 := by omega
      simp only [e, hn, if_pos (show (0 : Int) ≤ (n : Int) by omega), if_pos (show (0 : Int) ≤ (n : Int) + 1 by omega), e2, Int.toNat_natCast, if_true]
      rw [show n + 1 + sub.length = (n + sub.length) + 1 by omega]
      rfl
    · have e : Lib.index (b :: l) sub = -1 := by
        rw [Lib.index, if_neg h, if_pos]
        rw [beq_iff_eq]
        omega
      rw [e, if_neg (by omega), if_neg h2]
      simp
theorem pre_one (c b : UInt8) (l : List UInt8) : ([c] : List UInt8).isPrefixOf (b :: l) = (c == b) := by simp [List.isPrefixOf]
/-- A cut at one byte: where it was found, the text is what stood ahead of it, it, and what stands behind. -/
theorem cut_one_found (c : UInt8) (l : List UInt8) : (Lib.cut l [c]).2.2 = true → l = (Lib.cut l [c]).1 ++ c :: (Lib.cut l [c]).2.1 := by
  induction l with
  | nil => rw [cut_nil [c] (by simp)]; intro h; cases h
  | cons b l ih =>
    rw [cut_cons, pre_one]
    by_cases h : (c == b) = true
    · rw [if_pos h]
      intro _
      rw [beq_iff_eq.1 h]
      rfl
    · rw [if_neg h]
      by_cases h2 : (Lib.cut l [c]).2.2 = true
      · rw [if_pos h2]
        intro _
        show b :: l = b :: ((Lib.cut l [c]).1 ++ c :: (Lib.cut l [c]).2.1)
        rw [← ih h2]
      · rw [if_neg h2]
        intro h3
        cases h3
theorem cut_one_not (c : UInt8) (l : List UInt8) : (Lib.cut l [c]).2.2 = false → c ∉ l := by
  induction l with
  | nil => intro _ h; cases h
  | cons b l ih =>
    rw [cut_cons, pre_one]
    by_cases h : (c == b) = true
    · rw [if_pos h]
      intro h3
      cases h3
    · rw [if_neg h]
      by_cases h2 : (Lib.cut l [c]).2.2 = true
      · rw [if_pos h2]
        intro h3
        cases h3
      · intro _ hm
        rcases List.mem_cons.1 hm with hm | hm
        · exact h (beq_iff_eq.2 hm)
        · exact ih (by simpa using h2) hm
/-- A line up to 13, 10, without another 13 or 10, and what stands behind. -/
def lineOf : List UInt8 → Option (List UInt8 × List UInt8)
  | [] => none
  | c :: r => if c = 10 then none else if c = 13 then (match r with | d :: q => if d = 10 then some ([], q) else none | [] => none) else (lineOf r).map fun x => (c :: x.1, x.2)
theorem line_cut (s : List UInt8) : (∀ l q, lineOf s = some (l, q) → Lib.cut s [13, 10] = (l, q, true) ∧ s = l ++ 13 :: 10 :: q) ∧ (lineOf s = none → (Lib.cut s [13, 10]).2.2 = true → (13 : UInt8) ∈ (Lib.cut s [13, 10]).1 ∨ (10 : UInt8) ∈ (Lib.cut s [13, 10]).1) := by
  induction s with
  | nil => exact ⟨fun l q h => by simp [lineOf] at h, fun _ h => by rw [cut_nil _ (by simp)] at h; cases h⟩
  | cons c r ih =>
    rw [cut_cons]
    by_cases h10 : c = 10
    · have hp : ¬ (([13, 10] : List UInt8).isPrefixOf (c :: r) = true) := by rw [h10]; simp [List.isPrefixOf]
      rw [if_neg hp]
      refine ⟨fun l q h => by simp [lineOf, h10] at h, fun _ h => ?_⟩
      by_cases h2 : (Lib.cut r [13, 10]).2.2 = true
      · rw [if_pos h2]
        exact .inr (by rw [h10]; exact List.mem_cons_self)
      · rw [if_neg h2] at h
        cases h
    · by_cases h13 : c = 13
      · cases r with
        | nil =>
          have hp : ¬ (([13, 10] : List UInt8).isPrefixOf [c] = true) := by simp [List.isPrefixOf]
          rw [if_neg hp, cut_nil _ (by simp)]
          exact ⟨fun l q h => by simp [lineOf, h10, h13] at h, fun _ h => by cases h⟩
        | cons d q =>
          by_cases hd : d = 10
          · have hp : ([13, 10] : List UInt8).isPrefixOf (c :: d :: q) = true := by rw [h13, hd]; simp [List.isPrefixOf]
            rw [if_pos hp]
            refine ⟨fun l q' h => ?_, fun h => by simp [lineOf, h13, hd] at h⟩
            simp [lineOf, h13, hd] at h
            obtain ⟨rfl, rfl⟩ := h
            exact ⟨rfl, by rw [h13, hd]; rfl⟩
          · have hp : ¬ (([13, 10] : List UInt8).isPrefixOf (c :: d :: q) = true) := by
              rw [h13]
              simp [List.isPrefixOf]
              exact fun e => hd e.symm
            rw [if_neg hp]
            refine ⟨fun l q' h => by simp [lineOf, h13, hd] at h, fun _ h => ?_⟩
            by_cases h2 : (Lib.cut (d :: q) [13, 10]).2.2 = true
            · rw [if_pos h2]
              exact .inl (by rw [h13]; exact List.mem_cons_self)
            · rw [if_neg h2] at h
              cases h
      · have hp : ¬ (([13, 10] : List UInt8).isPrefixOf (c :: r) = true) := by
          simp [List.isPrefixOf]
          exact fun e => absurd e.symm h13
        rw [if_neg hp]
        have e : lineOf (c :: r) = (lineOf r).map fun x => (c :: x.1, x.2) := by
          rw [lineOf.eq_def]
          simp only [if_neg h10, if_neg h13]
        rw [e]
        constructor
        · intro l q h
          cases hr : lineOf r with
          | none => rw [hr] at h; cases h
          | some x =>
            rw [hr] at h
            obtain ⟨a, b⟩ := x
            obtain ⟨h1, h2⟩ := ih.1 a b hr
            rw [h1]
            simp only [Option.map_some, Option.some.injEq, Prod.mk.injEq] at h
            obtain ⟨rfl, rfl⟩ := h
            exact ⟨by simp, by rw [h2]; rfl⟩
        · intro h hf
          have hr : lineOf r = none := by
            cases hr : lineOf r with
            | none => rfl
            | some x => rw [hr] at h; cases h
          by_cases h2 : (Lib.cut r [13, 10]).2.2 = true
          · rw [if_pos h2]
            rcases ih.2 hr h2 with h3 | h3
            · exact .inl (List.mem_cons_of_mem _ h3)
            · exact .inr (List.mem_cons_of_mem _ h3)
          · rw [if_neg h2] at hf
            cases hf
theorem drop_u8 (s : ByteArray) (i : Nat) (h : i < s.size) : ∃ c : UInt8, s.data.toList.drop i = c :: s.data.toList.drop (i + 1) ∧ bt s (i : Int) = (c.toNat : Int) := by
  have h1 : i < s.data.toList.length := by rw [Array.length_toList]; exact h
  refine ⟨s.data.toList[i]'h1, List.drop_eq_getElem_cons h1, ?_⟩
  have := bt_get s i h
  unfold bytesOf at this
  rw [List.getElem?_map, List.getElem?_eq_getElem h1] at this
  exact (Option.some.inj this).symm
theorem u8_eq (c : UInt8) (n : Nat) (hn : n < 256) : ((c.toNat : Int) = (n : Int)) ↔ c = UInt8.ofNat n := by
  constructor
  · intro h
    apply UInt8.toNat_inj.1
    rw [UInt8.toNat_ofNat']
    omega
  · rintro rfl
    rw [UInt8.toNat_ofNat']
    omega
def ofL (l : List UInt8) : ByteArray := ⟨l.toArray⟩
theorem ofL_append (a b : List UInt8) : ofL a ++ ofL b = ofL (a ++ b) := by
  apply ByteArray.ext
  apply Array.toList_inj.1
  simp [ofL, ByteArray.data_append]
theorem ofL_size (l : List UInt8) : (ofL l).size = l.length := by
  show l.toArray.size = l.length
  simp
theorem ofL_toList (l : List UInt8) : (ofL l).toList = l := by
  rw [toList_data]
  rfl
theorem ofL_data (s : ByteArray) : ofL s.data.toList = s := by
  apply ByteArray.ext
  apply Array.toList_inj.1
  rfl
theorem strOf_one (c : Int) : strOfNums [c] = ofL [UInt8.ofNat c.toNat] := by
  apply ByteArray.ext
  apply Array.toList_inj.1
  rw [strOfNums_data]
  rfl
/-- A number's decimal numeral. -/
def decT (n : Int) : ByteArray := ofL (Lib.itoa n)
theorem decT_size (n : Int) (h0 : 0 ≤ n) (h1 : n ≤ 9000000000000000000) : (decT n).size ≤ 19 := by
  unfold decT
  rw [ofL_size]
  unfold Lib.itoa
  rw [if_neg (by omega), Lib.decDigits_length]
  have key : ∀ (d u : Nat), u < 10 ^ (d + 1) → Lib.nDigits u ≤ d + 1 := by
    intro d
    induction d with
    | zero => intro u hu; rw [Lib.nDigits_small (by simpa using hu)]; omega
    | succ d ih =>
      intro u hu
      by_cases h : u < 10
      · rw [Lib.nDigits_small h]; omega
      · rw [Lib.nDigits_big h]
        have := ih (u / 10) (by rw [Nat.pow_succ] at hu; omega)
        omega
  exact key 18 n.toNat (by omega)
/-- A piece ahead of the first piece. -/
def glue (p : List UInt8) : List (List UInt8) → List (List UInt8)
  | [] => [p]
  | q :: qs => (p ++ q) :: qs
/-- The pieces between the bytes c. -/
def spl (c : UInt8) : List UInt8 → List (List UInt8)
  | [] => [[]]
  | b :: l => if b = c then [] :: spl c l else glue [b] (spl c l)
theorem glue_ne (p : List UInt8) (l : List (List UInt8)) : glue p l ≠ [] := by cases l <;> simp [glue]
theorem spl_ne (c : UInt8) (l : List UInt8) : spl c l ≠ [] := by
  cases l with
  | nil => simp [spl]
  | cons b l => unfold spl; split; simp; exact glue_ne _ _
theorem glue_nil (l : List (List UInt8)) (h : l ≠ []) : glue [] l = l := by cases l; exact absurd rfl h; rfl
theorem glue_glue (p q : List UInt8) (l : List (List UInt8)) (h : l ≠ []) : glue p (glue q l) = glue (p ++ q) l := by
  cases l with
  | nil => exact absurd rfl h
  | cons a l => simp [glue]
theorem splitK_spl (c : UInt8) (l : List UInt8) : Lib.splitK [c] 0 (Lib.count l [c]) l = spl c l := by
  induction l with
  | nil => rw [Lib.count_miss (by simp [Lib.index])]; rfl
  | cons b l ih =>
    unfold spl
    by_cases h : b = c
    · subst h
      have hix : Lib.index (b :: l) [b] = 0 := by rw [Lib.index]; simp [List.isPrefixOf]
      rw [if_pos rfl, Lib.count_cons_eq, Nat.add_comm, Lib.splitK, if_neg (by rw [hix]; decide), hix, ← ih]
      rfl
    · rw [if_neg h, Lib.count_cons_ne b c l h, ← ih]
      have hp : ([c] : List UInt8).isPrefixOf (b :: l) = false := by simp [List.isPrefixOf, Ne.symm h]
      have hix : Lib.index (b :: l) [c] = if Lib.index l [c] == -1 then -1 else Lib.index l [c] + 1 := by rw [Lib.index, hp]; simp
      cases hk : Lib.count l [c] with
      | zero => rfl
      | succ k =>
        have hm : Lib.index l [c] ≠ -1 := fun e => by rw [Lib.count_miss e] at hk; cases hk
        have hge := Lib.index_ge l [c]
        obtain ⟨j, hj⟩ : ∃ j : Nat, Lib.index l [c] = j := ⟨(Lib.index l [c]).toNat, by omega⟩
        have hb : (Lib.index l [c] == -1) = false := by simpa using hm
        rw [hb] at hix
        simp only [Bool.false_eq_true, if_false] at hix
        rw [Lib.splitK, Lib.splitK, if_neg (show ¬ (Lib.index (b :: l) [c] == -1) = true by rw [hix, hj]; simp; omega), if_neg (show ¬ (Lib.index l [c] == -1) = true by rw [hb]; decide), hix, hj]
        rw [show ((j : Int) + 1).toNat = j + 1 by omega, Int.toNat_natCast]
        rfl
theorem split_is (s : ByteArray) (c : UInt8) (h : s.size < 4294967281) : strings_Split.f s ⟨#[c]⟩ = some ((spl c s.data.toList).map ofL) := by
  unfold strings_Split.f
  rw [if_pos ⟨h, Nat.le_refl _⟩]
  congr 1
  have e := Lib.splitB_data (⟨#[c]⟩ : ByteArray) 0 (Lib.countB s ⟨#[c]⟩) s
  have e2 : Lib.splitK (⟨#[c]⟩ : ByteArray).data.toList 0 (Lib.countB s ⟨#[c]⟩) s.data.toList = spl c s.data.toList := splitK_spl c s.data.toList
  rw [← e2, ← e, List.map_map]
  refine (List.map_id _).symm.trans (List.map_congr_left fun x _ => ?_)
  exact (ofL_data x).symm
theorem extract_ofL (s : ByteArray) (f i : Nat) : s.extract f i = ofL ((s.data.toList.drop f).take (i - f)) := by
  apply ByteArray.ext
  apply Array.toList_inj.1
  rw [Lib.extract_data]
  rfl
theorem bt_data (s : ByteArray) (i : Nat) (h : i < s.data.toList.length) : bt s (i : Int) = ((s.data.toList[i].toNat : Nat) : Int) := by
  have h1 : i < s.size := by show i < s.data.size; rw [← Array.length_toList]; exact h
  have e := bt_get s i h1
  unfold bytesOf at e
  rw [List.getElem?_map, List.getElem?_eq_getElem h] at e
  exact (Option.some.inj e).symm
theorem l3Split_loop (s : ByteArray) (c : UInt8) (hs : s.size ≤ 1000000) (d : Nat) : ∀ (i f : Nat) (out : List ByteArray), i + d = s.size → f ≤ i → out.length ≤ i →
    ∀ k, d + 2 ≤ k → spec_l3Split.l0 k s (c.toNat : Int) out (f : Int) (i : Int) = some (out ++ (glue ((s.data.toList.drop f).take (i - f)) (spl c (s.data.toList.drop i))).map ofL) := by
  have hl : s.data.toList.length = s.size := Array.length_toList
  induction d with
  | zero =>
    intro i f out hd hf ho k hk
    obtain ⟨k, rfl⟩ : ∃ z, k = z + 2 := ⟨k - 2, by omega⟩
    have e : i = s.size := by omega
    subst e
    simp only [spec_l3Split.l0]
    rw [if_pos (by omega), if_pos trivial, if_pos (by omega), if_pos (by omega), if_pos (by omega), wrap_in (i := (s.size : Int) + 1) (by omega) (by omega), if_neg (by omega)]
    rw [List.drop_of_length_le (Nat.le_of_eq hl), Int.toNat_natCast, Int.toNat_natCast, extract_ofL]
    simp [spl, glue]
  | succ d ih =>
    intro i f out hd hf ho k hk
    obtain ⟨k, rfl⟩ : ∃ z, k = z + 1 := ⟨k - 1, by omega⟩
    have hi : i < s.data.toList.length := by omega
    have hb := bt_data s i hi
    simp only [spec_l3Split.l0]
    rw [if_pos (by omega), if_neg (by omega), if_pos (by omega), if_pos (by omega), hb, List.drop_eq_getElem_cons hi]
    generalize hbb : s.data.toList[i] = b
    have hc : ((b.toNat : Nat) : Int) = ((c.toNat : Nat) : Int) ↔ b = c := ⟨fun h => UInt8.toNat_inj.1 (by omega), fun h => by rw [h]⟩
    unfold spl
    by_cases h : b = c
    · rw [if_pos (hc.2 h), if_pos h, if_pos (by omega), if_pos (by omega), if_pos (by omega), wrap_in (i := (i : Int) + 1) (by omega) (by omega), show ((i : Int) + 1) = ((i + 1 : Nat) : Int) by omega]
      rw [ih (i + 1) (i + 1) _ (by omega) (Nat.le_refl _) (by rw [List.length_append, List.length_singleton]; omega) k (by omega)]
      rw [Nat.sub_self, List.take_zero, glue_nil _ (spl_ne _ _), Int.toNat_natCast, Int.toNat_natCast, extract_ofL, List.append_assoc]
      simp [glue]
    · rw [if_neg (fun e => h (hc.1 e)), if_neg h, wrap_in (i := (i : Int) + 1) (by omega) (by omega), show ((i : Int) + 1) = ((i + 1 : Nat) : Int) by omega]
      rw [ih (i + 1) f _ (by omega) (by omega) (by omega) k (by omega), glue_glue _ _ _ (spl_ne _ _)]
      have e : (s.data.toList.drop f).take (i + 1 - f) = (s.data.toList.drop f).take (i - f) ++ [b] := by
        rw [show i + 1 - f = (i - f) + 1 by omega, List.take_add_one, List.getElem?_drop, show f + (i - f) = i by omega, List.getElem?_eq_getElem hi, hbb]
        rfl
      rw [e]
theorem l3Split_ev (s : ByteArray) (c : UInt8) (hs : s.size ≤ 1000000) : Ev (fun k => spec_l3Split.f k s (c.toNat : Int)) ((spl c s.data.toList).map ofL) := by
  refine ⟨s.size + 2, fun k hk => ?_⟩
  unfold spec_l3Split.f
  have := l3Split_loop s c hs s.size 0 0 [] (by omega) (Nat.le_refl _) (Nat.zero_le _) k hk
  rw [Nat.sub_self, List.take_zero, glue_nil _ (spl_ne _ _), List.drop_zero] at this
  exact this
/-- What a part does to the parts that are kept. -/
def dotStep (kept : List ByteArray) (p : ByteArray) : List ByteArray := if p.toList = [46] then kept else if p.toList = [46, 46] then kept.take (kept.length - 1) else kept ++ [p]
/-- What is kept behind all parts; last: the part ahead of them. -/
def dotAll : List ByteArray → ByteArray → List ByteArray → List ByteArray
  | kept, last, [] => if last.toList = [46] ∨ last.toList = [46, 46] then kept ++ [⟨#[]⟩] else kept
  | kept, _, p :: ps => dotAll (dotStep kept p) p ps
def wt (l : List ByteArray) : Nat := (l.map fun p => p.size + 1).sum
theorem wt_append (a b : List ByteArray) : wt (a ++ b) = wt a + wt b := by simp [wt]
theorem wt_cons (p : ByteArray) (l : List ByteArray) : wt (p :: l) = p.size + 1 + wt l := by simp [wt]
theorem wt_take (l : List ByteArray) (n : Nat) : wt (l.take n) ≤ wt l := by
  have : wt l = wt (l.take n) + wt (l.drop n) := by rw [← wt_append, List.take_append_drop]
  omega
theorem wt_len (l : List ByteArray) : l.length ≤ wt l := by
  unfold wt
  induction l with
  | nil => exact Nat.le_refl _
  | cons a l ih => simp only [List.length_cons, List.map_cons, List.sum_cons]; omega
theorem wt_step (kept : List ByteArray) (p : ByteArray) : wt (dotStep kept p) ≤ wt kept + (p.size + 1) := by
  unfold dotStep
  split
  · omega
  · split
    · have := wt_take kept (kept.length - 1); omega
    · rw [wt_append]; simp [wt]
theorem wt_all (ps : List ByteArray) : ∀ (kept : List ByteArray) (last : ByteArray), wt (dotAll kept last ps) ≤ wt kept + wt ps + 1 := by
  induction ps with
  | nil =>
    intro kept last
    unfold dotAll
    split
    · have hz : wt ([⟨#[]⟩] : List ByteArray) = 1 := rfl
      rw [wt_append]; omega
    · omega
  | cons p ps ih =>
    intro kept last
    unfold dotAll
    have h1 := ih (dotStep kept p) p
    have h2 := wt_step kept p
    have h3 : wt (p :: ps) = p.size + 1 + wt ps := by simp [wt]
    omega
/-- The kept parts, each behind a slash. -/
def slashed (l : List ByteArray) : List UInt8 := l.flatMap fun p => 47 :: p.data.toList
theorem slashed_length (l : List ByteArray) : (slashed l).length = wt l := by
  unfold slashed wt
  induction l with
  | nil => rfl
  | cons a l ih =>
    rw [List.flatMap_cons, List.length_append, ih, List.map_cons, List.sum_cons, List.length_cons, Array.length_toList]
    rfl
theorem slashed_join (l : List ByteArray) (h : l ≠ []) : slashed l = 47 :: joinB l ⟨#[47]⟩ := by
  cases l with
  | nil => exact absurd rfl h
  | cons a l =>
    unfold slashed joinB
    rw [List.map_cons, Lib.join_cons, List.flatMap_cons]
    unfold Lib.joinTail
    rw [List.map_map]
    show 47 :: a.data.toList ++ _ = 47 :: (a.data.toList ++ _)
    rw [List.cons_append]
    congr 2
def dotOut (l : List ByteArray) : ByteArray := if l = [] then ofL [47] else ofL (slashed l)
theorem joinB_len (l : List ByteArray) : (joinB l ⟨#[47]⟩).length ≤ wt l := by
  by_cases h : l = []
  · subst h; exact Nat.zero_le _
  · have := slashed_length l
    rw [slashed_join l h] at this
    simp only [List.length_cons] at this
    omega
theorem join_out (l : List ByteArray) (h : wt l ≤ 1000000) : (strings_Join.f l ⟨#[47]⟩).bind (fun t => if 1 + t.size ≤ 9223372036854775807 then some ((⟨#[47]⟩ : ByteArray) ++ t) else none) = some (dotOut l) := by
  have h1 := wt_len l
  have h2 := joinB_len l
  unfold strings_Join.f
  rw [if_pos ⟨by omega, by omega⟩]
  simp only [Option.bind_some]
  have h3 : (⟨(joinB l ⟨#[47]⟩).toArray⟩ : ByteArray).size = (joinB l ⟨#[47]⟩).length := ofL_size _
  rw [if_pos (by omega)]
  congr 1
  have e : ((⟨#[47]⟩ : ByteArray) ++ ⟨(joinB l ⟨#[47]⟩).toArray⟩) = ofL (47 :: joinB l ⟨#[47]⟩) := ofL_append [47] (joinB l ⟨#[47]⟩)
  rw [e]
  unfold dotOut
  by_cases hl : l = []
  · rw [if_pos hl, hl]; rfl
  · rw [if_neg hl, slashed_join l hl]
theorem rd_at (l : List ByteArray) (i : Nat) (h : i < l.length) : rdOf ByteArray.empty l (i : Int) = l[i] := by
  simp [rdOf, List.getD_eq_getElem?_getD, h]
theorem impl_Dotless_loop (ps : List ByteArray) (d : Nat) : ∀ (i : Nat) (kept : List ByteArray) (last : ByteArray), i + d = ps.length → wt kept + wt (ps.drop i) ≤ 900000 → ps.length ≤ 900000 →
    ∀ k, d + 1 ≤ k → impl_Dotless.l0 k kept last ps (ps.length : Int) (i : Int) = some (dotOut (dotAll kept last (ps.drop i))) := by
  induction d with
  | zero =>
    intro i kept last hd hw hp k hk
    obtain ⟨k, rfl⟩ : ∃ z, k = z + 1 := ⟨k - 1, by omega⟩
    have e : i = ps.length := by omega
    have hl := wt_len kept
    have hj := wt_all [] kept last
    simp only [impl_Dotless.l0]
    rw [if_neg (by omega), List.drop_of_length_le (by omega)]
    have hz : wt ([] : List ByteArray) = 0 := rfl
    unfold dotAll at hj ⊢
    by_cases h1 : last.toList = [46]
    · rw [if_pos (.inl h1)] at hj
      rw [if_pos h1, if_pos (by omega), if_pos (.inl h1), join_out _ (by omega)]
    · rw [if_neg h1]
      by_cases h2 : last.toList = [46, 46]
      · rw [if_pos (.inr h2)] at hj
        rw [if_pos h2, if_pos (by omega), if_pos (.inr h2), join_out _ (by omega)]
      · rw [if_neg (by simp [h1, h2])] at hj
        rw [if_neg h2, if_neg (by simp [h1, h2]), join_out _ (by omega)]
  | succ d ih =>
    intro i kept last hd hw hp k hk
    obtain ⟨k, rfl⟩ : ∃ z, k = z + 1 := ⟨k - 1, by omega⟩
    have hi : i < ps.length := by omega
    have hl := wt_len kept
    rw [List.drop_eq_getElem_cons hi] at hw ⊢
    have h3 := wt_cons ps[i] (ps.drop (i + 1))
    have hs := wt_step kept ps[i]
    have step := ih (i + 1) (dotStep kept ps[i]) ps[i] (by omega) (by omega) hp k (by omega)
    simp only [impl_Dotless.l0]
    rw [if_pos (by omega), if_pos (by omega), if_pos (by omega), rd_at ps i hi, wrap_in (i := (i : Int) + 1) (by omega) (by omega), show ((i : Int) + 1) = ((i + 1 : Nat) : Int) by omega]
    unfold dotAll
    unfold dotStep at step ⊢
    by_cases h1 : ps[i].toList = [46]
    · rw [if_pos h1] at step ⊢
      rw [if_pos h1]
      exact step
    · rw [if_neg h1] at step ⊢
      rw [if_neg h1]
      by_cases h2 : ps[i].toList = [46, 46]
      · rw [if_pos h2] at step ⊢
        rw [if_pos h2]
        by_cases h0 : (kept.length : Int) > 0
        · rw [if_pos h0, wrap_in (i := (kept.length : Int) - 1) (by omega) (by omega), if_pos (by omega), if_pos (by omega), show ((kept.length : Int) - 1).toNat = kept.length - 1 by omega]
          exact step
        · rw [if_neg h0]
          have e : kept = [] := List.eq_nil_of_length_eq_zero (by omega)
          subst e
          exact step
      · rw [if_neg h2] at step ⊢
        rw [if_neg h2, if_pos (by omega)]
        exact step
theorem spec_Dotless_end (kept : List ByteArray) (d : Nat) : ∀ (i : Nat) (out : List Int), i + d = kept.length → wt kept ≤ 1000000 → out = (slashed (kept.take i)).map (fun b => ((b.toNat : Nat) : Int)) →
    ∀ k, d + 1 ≤ k → spec_Dotless.l1 k kept out (i : Int) = some (dotOut kept) := by
  induction d with
  | zero =>
    intro i out hd hw ho k hk
    obtain ⟨k, rfl⟩ : ∃ z, k = z + 1 := ⟨k - 1, by omega⟩
    have e : i = kept.length := by omega
    subst e
    simp only [spec_Dotless.l1]
    rw [if_neg (by omega)]
    rw [List.take_length] at ho
    have hlen : out.length = wt kept := by rw [ho, List.length_map, slashed_length]
    have hl := wt_len kept
    unfold dotOut
    by_cases h : kept = []
    · subst h
      rw [if_pos (by rw [hlen]; rfl), if_pos rfl]
      rfl
    · rw [if_neg (by
        have : 0 < kept.length := List.length_pos_iff.2 h
        omega), if_neg h]
      congr 1
      apply eq_of_toList
      rw [toList_data, strOfNums_data, ho, List.map_map, ofL_toList]
      refine (List.map_congr_left fun b _ => ?_).trans (List.map_id _)
      simp
  | succ d ih =>
    intro i out hd hw ho k hk
    obtain ⟨k, rfl⟩ : ∃ z, k = z + 1 := ⟨k - 1, by omega⟩
    have hi : i < kept.length := by omega
    have h1 : wt (kept.take (i + 1)) = wt (kept.take i) + (kept[i].size + 1) := by
      rw [List.take_add_one, List.getElem?_eq_getElem hi, wt_append]
      simp [wt]
    have h2 := wt_take kept (i + 1)
    have hlen : out.length = wt (kept.take i) := by rw [ho, List.length_map, slashed_length]
    have hl := wt_len kept
    simp only [spec_Dotless.l1]
    rw [if_pos (by omega), if_pos (by omega), rd_at kept i hi, if_pos (by omega), if_pos (by rw [ByteArray.size_append, show (⟨#[47]⟩ : ByteArray).size = 1 from rfl]; omega), wrap_in (i := (i : Int) + 1) (by omega) (by omega), show ((i : Int) + 1) = ((i + 1 : Nat) : Int) by omega]
    refine ih (i + 1) _ (by omega) hw ?_ k (by omega)
    rw [ho, List.take_add_one, List.getElem?_eq_getElem hi]
    unfold slashed
    rw [List.flatMap_append, List.map_append]
    congr 1
    unfold bytesOf
    simp [ByteArray.data_append]
theorem spec_Dotless_loop (ps : List ByteArray) (d : Nat) : ∀ (i : Nat) (kept : List ByteArray) (last : ByteArray), i + (d + 1) = ps.length → wt kept + wt (ps.drop i) ≤ 900000 → ps.length ≤ 900000 →
    ∀ k, d + 1 + 900000 + 3 ≤ k → spec_Dotless.l0 k ps kept (i : Int) = some (dotOut (dotAll kept last (ps.drop i))) := by
  have fin : ∀ (kept : List ByteArray), wt kept ≤ 900001 → ∀ k, 900000 + 3 ≤ k → spec_Dotless.l0 k ps kept (ps.length : Int) = some (dotOut kept) := by
    intro kept hw k hk
    obtain ⟨k, rfl⟩ : ∃ z, k = z + 1 := ⟨k - 1, by omega⟩
    have := wt_len kept
    simp only [spec_Dotless.l0]
    rw [if_neg (by omega)]
    exact spec_Dotless_end kept kept.length 0 [] (by omega) (by omega) rfl k (by omega)
  induction d with
  | zero =>
    intro i kept last hd hw hp k hk
    obtain ⟨k, rfl⟩ : ∃ z, k = z + 1 := ⟨k - 1, by omega⟩
    have hi : i < ps.length := by omega
    have hl := wt_len kept
    rw [List.drop_eq_getElem_cons hi] at hw ⊢
    rw [List.drop_of_length_le (show ps.length ≤ i + 1 by omega)] at hw ⊢
    have h3 : wt [ps[i]] = ps[i].size + 1 := by simp [wt]
    have hs := wt_step kept ps[i]
    have hz : wt ([⟨#[]⟩] : List ByteArray) = 1 := rfl
    have step := fun kk (h : wt kk ≤ 900001) => fin kk h k (by omega)
    simp only [spec_Dotless.l0]
    rw [if_pos (by omega), if_pos (by omega), rd_at ps i hi, wrap_in (i := (i : Int) + 1) (by omega) (by omega), show ((i : Int) + 1) = (ps.length : Int) by omega, wrap_in (i := (ps.length : Int) - 1) (by omega) (by omega)]
    simp only [dotAll]
    unfold dotStep at hs ⊢
    by_cases h1 : ps[i].toList = [46]
    · have h2 : ¬ ps[i].toList = [46, 46] := by rw [h1]; decide
      rw [if_pos h1] at hs
      rw [if_neg h2, if_pos h1, if_pos (by omega), if_pos (by omega), if_pos (.inl h1), if_pos h1]
      exact step _ (by rw [wt_append]; omega)
    · rw [if_neg h1] at hs
      by_cases h2 : ps[i].toList = [46, 46]
      · rw [if_pos h2] at hs
        rw [if_pos h2, if_pos (show ps[i].toList = [46] ∨ ps[i].toList = [46, 46] from .inr h2), if_neg h1]
        by_cases h0 : (kept.length : Int) > 0
        · rw [if_pos h0, wrap_in (i := (kept.length : Int) - 1) (by omega) (by omega), if_pos (by omega), if_pos (by omega), show ((kept.length : Int) - 1).toNat = kept.length - 1 by omega]
          simp only [Option.bind_some]
          rw [if_pos (by omega), if_pos (by rw [List.length_take]; omega), if_pos h2]
          exact step (kept.take (kept.length - 1) ++ [⟨#[]⟩]) (by rw [wt_append]; omega)
        · rw [if_neg h0, if_pos (by omega), if_pos (by omega), if_pos h2]
          have e : kept = [] := List.eq_nil_of_length_eq_zero (by omega)
          subst e
          exact step ([] ++ [⟨#[]⟩]) (by decide)
      · rw [if_neg h2] at hs
        rw [if_neg h2, if_neg h1, if_pos (by omega), if_neg (by simp [h1, h2]), if_neg h1, if_neg h2]
        exact step _ (by omega)
  | succ d ih =>
    intro i kept last hd hw hp k hk
    obtain ⟨k, rfl⟩ : ∃ z, k = z + 1 := ⟨k - 1, by omega⟩
    have hi : i < ps.length := by omega
    have hl := wt_len kept
    rw [List.drop_eq_getElem_cons hi] at hw ⊢
    have h3 := wt_cons ps[i] (ps.drop (i + 1))
    have hs := wt_step kept ps[i]
    have step := ih (i + 1) (dotStep kept ps[i]) ps[i] (by omega) (by omega) hp k (by omega)
    simp only [spec_Dotless.l0]
    rw [if_pos (by omega), if_pos (by omega), rd_at ps i hi, wrap_in (i := (i : Int) + 1) (by omega) (by omega), show ((i : Int) + 1) = ((i + 1 : Nat) : Int) by omega, wrap_in (i := (ps.length : Int) - 1) (by omega) (by omega)]
    rw [show dotAll kept last (ps[i] :: ps.drop (i + 1)) = dotAll (dotStep kept ps[i]) ps[i] (ps.drop (i + 1)) from rfl]
    unfold dotStep at step ⊢
    by_cases h1 : ps[i].toList = [46]
    · have h2 : ¬ ps[i].toList = [46, 46] := by rw [h1]; decide
      rw [if_pos h1] at step ⊢
      rw [if_neg h2, if_pos h1, if_neg (by omega)]
      exact step
    · rw [if_neg h1] at step ⊢
      by_cases h2 : ps[i].toList = [46, 46]
      · rw [if_pos h2] at step ⊢
        rw [if_neg h1]
        by_cases h0 : (kept.length : Int) > 0
        · rw [if_pos h0, wrap_in (i := (kept.length : Int) - 1) (by omega) (by omega), if_pos (by omega), if_pos (by omega), show ((kept.length : Int) - 1).toNat = kept.length - 1 by omega]
          simp only [Option.bind_some]
          rw [if_neg (by omega), if_pos h2]
          exact step
        · rw [if_neg h0, if_neg (by omega), if_pos h2]
          have e : kept = [] := List.eq_nil_of_length_eq_zero (by omega)
          subst e
          exact step
      · rw [if_neg h2] at step ⊢
        rw [if_neg h2, if_neg h1, if_pos (by omega)]
        exact step
/-- Is it a path? -/
def pathB (s : ByteArray) : Bool := decide (1 ≤ s.size ∧ bt s 0 = 47 ∧ s.size ≤ 200)
def dotless (s : ByteArray) : ByteArray := if pathB s = true then dotOut (dotAll [] ⟨#[]⟩ ((spl 47 ((s.extract 1 s.size).data.toList)).map ofL)) else ⟨#[]⟩
theorem wt_glue (p : List UInt8) (l : List (List UInt8)) (h : l ≠ []) : wt ((glue p l).map ofL) = p.length + wt (l.map ofL) := by
  cases l with
  | nil => exact absurd rfl h
  | cons a l => simp [glue, wt, ofL_size]; omega
theorem wt_spl (c : UInt8) (l : List UInt8) : wt ((spl c l).map ofL) = l.length + 1 := by
  induction l with
  | nil => rfl
  | cons b l ih =>
    unfold spl
    split
    · have : wt (([] :: spl c l).map ofL) = 1 + wt ((spl c l).map ofL) := by simp [wt, ofL_size]
      rw [this, ih, List.length_cons]; omega
    · rw [wt_glue _ _ (spl_ne _ _), ih]; simp only [List.length_cons, List.length_nil]; omega
theorem bytes_first2 (s : ByteArray) (h : 0 < s.size) : bytesOf s = bt s 0 :: (bytesOf s).drop 1 := by
  have := drop_bt s 0 h
  rw [List.drop_zero] at this
  exact this
theorem spec_l3Path_is (s : ByteArray) : spec_l3Path.f s = some (pathB s) := by
  unfold spec_l3Path.f pathB
  by_cases h : s.size = 0
  · have e : s.toList = [] := (toList_nil s).2 h
    simp only [e]
    simp [h]
  · have e : s.toList ≠ [] := fun x => h ((toList_nil s).1 x)
    have h1 : (0 : Int) < (s.size : Int) := by omega
    have he : ¬ s = ByteArray.empty := by rintro rfl; exact h rfl
    have h2 : 1 ≤ s.size := by omega
    rw [if_neg e, if_pos h1]
    by_cases hb : bt s 0 = 47
    · rw [if_pos hb]
      by_cases hz : s.size ≤ 200
      · rw [decide_eq_true (by omega), decide_eq_true ⟨h2, hb, hz⟩]
      · rw [decide_eq_false (by omega), decide_eq_false (fun x => hz x.2.2)]
    · rw [if_neg hb, decide_eq_false (fun x => hb x.2.1)]
theorem slash_prefix (s : ByteArray) (h : 1 ≤ s.size) : ((s.extract 0 1).toList == [47]) = decide (bt s 0 = 47) := by
  have e : bytesOf (s.extract 0 1) = [bt s 0] := by
    have := bytes_first s h
    rw [bytes_extract, List.drop_zero, this]
    rfl
  have e2 : (s.extract 0 1).toList = [47] ↔ bt s 0 = 47 := by
    constructor
    · intro h2
      have : bytesOf (s.extract 0 1) = [47] := by unfold bytesOf; rw [← toList_data, h2]; rfl
      rw [e] at this
      exact (List.cons.inj this).1
    · intro h2
      have h3 : s.extract 0 1 = ofL [47] := bytes_inj (by rw [e, h2]; rfl)
      rw [h3, ofL_toList]
  by_cases h2 : bt s 0 = 47
  · rw [e2.2 h2, decide_eq_true h2]; rfl
  · rw [decide_eq_false h2, beq_eq_false_iff_ne]
    exact fun h3 => h2 (e2.1 h3)
theorem impl_isPath_is (s : ByteArray) : impl_isPath.f s = some (pathB s) := by
  unfold impl_isPath.f strings_HasPrefix.f stringslite_HasPrefix.f pathB
  have e1 : (⟨#[47]⟩ : ByteArray).size = 1 := rfl
  have e2 : (⟨#[47]⟩ : ByteArray).toList = [47] := ofL_toList [47]
  rw [e1, e2]
  by_cases hz : s.size ≤ 200
  · rw [if_pos (by omega)]
    by_cases h : 1 ≤ s.size
    · rw [if_pos (by omega), if_pos (by omega), if_pos (by omega), show (((1 : Nat) : Int)).toNat = 1 from rfl, slash_prefix s h]
      simp [h, hz]
    · rw [if_neg (by omega)]
      simp [h]
  · rw [if_neg (by omega)]
    simp [hz]
theorem spec_Dotless_ev (s : ByteArray) : Ev (fun k => spec_Dotless.f k s) (dotless s) := by
  unfold spec_Dotless.f dotless
  rw [spec_l3Path_is]
  simp only [Option.bind_some]
  by_cases h : pathB s = true
  · have hp := h
    unfold pathB at hp
    rw [decide_eq_true_eq] at hp
    simp only [if_pos h]
    have h1 : (1 : Int) ≤ (s.size : Int) := by omega
    simp only [if_pos h1]
    have hsz : (s.extract 1 s.size).size = s.size - 1 := size_extract s 1 s.size (Nat.le_refl _)
    refine Ev.bind (l3Split_ev (s.extract 1 s.size) 47 (by omega)) ?_
    have hw := wt_spl 47 (s.extract 1 s.size).data.toList
    rw [Array.length_toList] at hw
    have hw2 : wt ((spl 47 (s.extract 1 s.size).data.toList).map ofL) = (s.extract 1 s.size).size + 1 := hw
    have hl := wt_len ((spl 47 (s.extract 1 s.size).data.toList).map ofL)
    have hne : 0 < ((spl 47 (s.extract 1 s.size).data.toList).map ofL).length := by rw [List.length_map]; exact List.length_pos_iff.2 (spl_ne _ _)
    obtain ⟨d, hd⟩ : ∃ d, 0 + (d + 1) = ((spl 47 (s.extract 1 s.size).data.toList).map ofL).length := ⟨((spl 47 (s.extract 1 s.size).data.toList).map ofL).length - 1, by omega⟩
    have hz : wt ([] : List ByteArray) = 0 := rfl
    exact ⟨d + 1 + 900000 + 3, fun k hk => spec_Dotless_loop _ d 0 [] ⟨#[]⟩ hd (by rw [List.drop_zero]; omega) (by omega) k hk⟩
  · simp only [if_neg h]
    exact Ev.now _
theorem impl_Dotless_ev (s : ByteArray) : Ev (fun k => impl_Dotless.f k s) (dotless s) := by
  unfold impl_Dotless.f dotless
  rw [impl_isPath_is]
  simp only [Option.bind_some]
  by_cases h : pathB s = true
  · have hp := h
    unfold pathB at hp
    rw [decide_eq_true_eq] at hp
    simp only [if_pos h]
    have h1 : (1 : Int) ≤ (s.size : Int) := by omega
    simp only [if_pos h1]
    have hsz : (s.extract 1 s.size).size = s.size - 1 := size_extract s 1 s.size (Nat.le_refl _)
    rw [split_is (s.extract 1 s.size) 47 (by omega)]
    simp only [Option.bind_some]
    have hw := wt_spl 47 (s.extract 1 s.size).data.toList
    rw [Array.length_toList] at hw
    have hw2 : wt ((spl 47 (s.extract 1 s.size).data.toList).map ofL) = (s.extract 1 s.size).size + 1 := hw
    have hl := wt_len ((spl 47 (s.extract 1 s.size).data.toList).map ofL)
    have hz : wt ([] : List ByteArray) = 0 := rfl
    exact ⟨((spl 47 (s.extract 1 s.size).data.toList).map ofL).length + 1, fun k hk => impl_Dotless_loop _ _ 0 [] ⟨#[]⟩ (by omega) (by rw [List.drop_zero]; omega) (by omega) k hk⟩
  · simp only [if_neg h]
    exact Ev.now _
def visB (c : Int) : Bool := decide (32 ≤ c) && decide (c ≤ 126) || decide (c = 9)
def digB (c : Int) : Bool := decide (48 ≤ c) && decide (c ≤ 57)
def letB (c : Int) : Bool := decide (97 ≤ c) && decide (c ≤ 122) || decide (65 ≤ c) && decide (c ≤ 90)
def hexB (c : Int) : Bool := digB c || decide (97 ≤ c) && decide (c ≤ 102) || decide (65 ≤ c) && decide (c ≤ 70)
def tagB (c : Int) : Bool := decide (33 ≤ c) && decide (c ≤ 126) && decide (c ≠ 34)
def tokB (c : Int) : Bool := letB c || digB c || decide (c ∈ [33, 35, 36, 37, 38, 39, 42, 43, 45, 46, 94, 95, 124, 126, 96])
def plaB (c : Int) : Bool := letB c || digB c || decide (c ∈ [45, 46, 95, 126, 47, 58, 64, 33, 36, 38, 39, 40, 41, 42, 43, 44, 59, 61])

theorem impl_isDigit_is (c : Int) : impl_isDigit.f c = some (digB c) := by
  unfold impl_isDigit.f digB
  by_cases h1 : c ≥ 48 <;> simp [h1] <;> omega
theorem impl_isLetter_is (c : Int) : impl_isLetter.f c = some (letB c) := by
  unfold impl_isLetter.f letB
  by_cases h1 : c ≥ 97 <;> by_cases h2 : c ≤ 122 <;> by_cases h3 : c ≥ 65 <;> by_cases h4 : c ≤ 90 <;> simp [h1, h2, h3, h4] <;> omega
theorem impl_isHex_is (c : Int) : impl_isHex.f c = some (hexB c) := by
  unfold impl_isHex.f hexB
  rw [impl_isDigit_is]
  cases h0 : digB c <;> by_cases h1 : c ≥ 97 <;> by_cases h2 : c ≤ 102 <;> by_cases h3 : c ≥ 65 <;> by_cases h4 : c ≤ 70 <;> simp [h1, h2, h3, h4] <;> omega

/-- A law on bytes, tried at each. -/
theorem byte_cases {p : Int → Prop} (h : ∀ n : Fin 256, p (n.val : Int)) (c : Int) (h0 : 0 ≤ c) (h1 : c ≤ 255) : p c := by
  have := h ⟨c.toNat, by omega⟩
  rwa [show ((⟨c.toNat, by omega⟩ : Fin 256).val : Int) = c from by show (c.toNat : Int) = c; omega] at this
theorem impl_TokenOk_1_is (c : Int) (h0 : 0 ≤ c) (h1 : c ≤ 255) : impl_TokenOk_1.f c = some (tokB c) :=
  byte_cases (p := fun c => impl_TokenOk_1.f c = some (tokB c)) (by decide +kernel) c h0 h1
theorem impl_isPlain_is (c : Int) (h0 : 0 ≤ c) (h1 : c ≤ 255) : impl_isPlain.f c = some (plaB c) :=
  byte_cases (p := fun c => impl_isPlain.f c = some (plaB c)) (by decide +kernel) c h0 h1
theorem spec_l1Token_is (c : Int) (h0 : 0 ≤ c) (h1 : c ≤ 255) : spec_l1Token.f c = some (tokB c) :=
  byte_cases (p := fun c => spec_l1Token.f c = some (tokB c)) (by decide +kernel) c h0 h1
theorem spec_l3Plain_is (c : Int) (h0 : 0 ≤ c) (h1 : c ≤ 255) : spec_l3Plain.f c = some (plaB c) :=
  byte_cases (p := fun c => spec_l3Plain.f c = some (plaB c)) (by decide +kernel) c h0 h1
/-- A hexadecimal digit's value, or -1. -/
def hexV (c : Int) : Int := if digB c = true then c - 48 else if 97 ≤ c ∧ c ≤ 102 then c - 87 else if 65 ≤ c ∧ c ≤ 70 then c - 55 else -1
theorem hexV_neg (c : Int) : decide (hexV c < 0) = !hexB c := by
  unfold hexV hexB
  cases h0 : digB c
  · by_cases h1 : 97 ≤ c ∧ c ≤ 102
    · simp [h1]; omega
    · by_cases h2 : 65 ≤ c ∧ c ≤ 70
      · have h1' : (decide (97 ≤ c) && decide (c ≤ 102)) = false := by simp; omega
        simp [h1, h1', h2]; omega
      · have h1' : (decide (97 ≤ c) && decide (c ≤ 102)) = false := by simp; omega
        have h2' : (decide (65 ≤ c) && decide (c ≤ 70)) = false := by simp; omega
        simp [h1, h1', h2, h2']
  · unfold digB at h0
    simp at h0
    simp
    omega
theorem spec_l1Hex_is (c : Int) (h0 : 0 ≤ c) (h1 : c ≤ 255) (k : Nat) (hk : 2 ≤ k) : spec_l1Hex.f k c = some (hexV c) :=
  at_rounds (fun k => spec_l1Hex.mono c k) hk (byte_cases (p := fun c => spec_l1Hex.f 2 c = some (hexV c)) (by decide +kernel) c h0 h1)
/-- 'all' over a predicate. -/
theorem all_hex (s : ByteArray) (hs : s.size ≤ 9223372036854775807) : impl_all.f s 83 = some ((bytesOf s).all hexB) := by
  unfold impl_all.f
  rw [if_pos hs]
  simp only [Nat.reduceEqDiff, if_true, if_false, reduceIte]
  rw [all_congr' fun c hc => (by rw [impl_isHex_is]; cases hexB c <;> rfl : (impl_isHex.f c == some true) = hexB c)]
theorem all_dig (s : ByteArray) (hs : s.size ≤ 9223372036854775807) : impl_all.f s 45 = some ((bytesOf s).all digB) := by
  unfold impl_all.f
  rw [if_pos hs]
  simp only [Nat.reduceEqDiff, if_true, if_false, reduceIte]
  rw [all_congr' fun c hc => (by rw [impl_isDigit_is]; cases digB c <;> rfl : (impl_isDigit.f c == some true) = digB c)]
theorem all_tok (s : ByteArray) (hs : s.size ≤ 9223372036854775807) : impl_all.f s 43 = some ((bytesOf s).all tokB) := by
  unfold impl_all.f
  rw [if_pos hs]
  simp only [Nat.reduceEqDiff, if_true, if_false, reduceIte]
  rw [all_congr' fun c hc => (by rw [impl_TokenOk_1_is c (mem_bytes hc).1 (mem_bytes hc).2]; cases tokB c <;> rfl : (impl_TokenOk_1.f c == some true) = tokB c)]
/-- A digit of sixteen. -/
def capV (c : Int) : Int := bt (⟨#[48, 49, 50, 51, 52, 53, 54, 55, 56, 57, 65, 66, 67, 68, 69, 70]⟩ : ByteArray) c
/-- What a byte is coded as. -/
def codeB (c : Int) : List Int := if plaB c = true then [c] else [37, capV (Int.tdiv c 16 % 256), capV (Int.tmod c 16)]
theorem codeB_length (c : Int) : (codeB c).length ≤ 3 := by unfold codeB; split <;> simp
theorem code_div (c : Int) (h0 : 0 ≤ c) (h1 : c ≤ 255) : 0 ≤ Int.tdiv c 16 % 256 ∧ Int.tdiv c 16 % 256 < 16 ∧ 0 ≤ Int.tmod c 16 ∧ Int.tmod c 16 < 16 := by
  rw [Int.tdiv_eq_ediv_of_nonneg h0, Int.tmod_eq_emod_of_nonneg h0]
  omega
def coded (s : ByteArray) : ByteArray := if s.size ≤ 200 then strOfNums ((bytesOf s).flatMap codeB) else ⟨#[]⟩
theorem spec_l3Coded_ev (s : ByteArray) (hs : s.size ≤ 1048576) : Ev (fun k => spec_l3Coded.f k s) (strOfNums ((bytesOf s).flatMap codeB)) := by
  unfold spec_l3Coded.f
  have h := ev_run (σ := List Int) (β := ByteArray) s (fun st i => st.length ≤ 3 * i) (fun st c => .inl (st ++ codeB c)) strOfNums (fun k st i => spec_l3Coded.l0 k s st i) 0
    (fun k st i _ hi hI => ⟨fun st' e => by
      obtain rfl := Sum.inl.inj e
      have hr := bt_range s i
      have hd := code_div (bt s i) hr.1 hr.2
      have hl := codeB_length (bt s i)
      refine ⟨?_, by rw [List.length_append]; omega⟩
      simp only [spec_l3Coded.l0]
      rw [if_pos (by omega), if_pos (by omega), spec_l3Plain_is _ hr.1 hr.2]
      simp only [Option.bind_some]
      unfold codeB
      by_cases hp : plaB (bt s i) = true
      · rw [if_pos hp, if_pos hp, if_pos (by omega), wrap_next hi (by omega)]
      · rw [if_neg hp, if_neg hp, if_pos hd.1, if_pos hd.2.1, if_pos hd.2.2.1, if_pos hd.2.2.2, if_pos (by simp only [List.length_cons, List.length_nil]; omega), wrap_next hi (by omega)]
        rfl, fun b e => by cases e⟩)
    (fun k st _ hI => by simp only [spec_l3Coded.l0]; rw [if_neg (by omega)]) [] (Nat.le_refl _)
  rw [runL_flat, List.nil_append] at h
  exact h
theorem impl_Coded_ev (s : ByteArray) (hs : s.size ≤ 1048576) : Ev (fun k => impl_Coded.f k s) (coded s) := by
  unfold impl_Coded.f coded
  by_cases h : (s.size : Int) > 200
  · simp only [if_pos h]
    rw [if_neg (by omega)]
    exact Ev.now _
  · simp only [if_neg h]
    rw [if_pos (by omega)]
    have h := ev_run (σ := List Int) (β := ByteArray) s (fun st i => st.length ≤ 3 * i) (fun st c => .inl (st ++ codeB c)) strOfNums (fun k st i => impl_Coded.l0 k s st (s.size : Int) i) 0
      (fun k st i _ hi hI => ⟨fun st' e => by
        obtain rfl := Sum.inl.inj e
        have hr := bt_range s i
        have hd := code_div (bt s i) hr.1 hr.2
        have hl := codeB_length (bt s i)
        refine ⟨?_, by rw [List.length_append]; omega⟩
        simp only [impl_Coded.l0]
        rw [if_pos (by omega), if_pos (by omega), if_pos (by omega), impl_isPlain_is _ hr.1 hr.2]
        simp only [Option.bind_some]
        unfold codeB
        by_cases hp : plaB (bt s i) = true
        · rw [if_pos hp, if_pos hp, if_pos (by omega), wrap_next hi (by omega)]
        · rw [if_neg hp, if_neg hp, if_pos hd.1, if_pos hd.2.1, if_pos hd.2.2.1, if_pos hd.2.2.2, if_pos (by simp only [List.length_cons, List.length_nil]; omega), wrap_next hi (by omega)]
          rfl, fun b e => by cases e⟩)
      (fun k st _ hI => by simp only [impl_Coded.l0]; rw [if_neg (by omega)]) [] (Nat.le_refl _)
    rw [runL_flat, List.nil_append] at h
    exact h
theorem dgt_hex (c : Int) : dgt c = hexV c := by
  unfold dgt hexV digB
  by_cases h : 48 ≤ c ∧ c ≤ 57
  · rw [if_pos h, if_pos (by simp [h])]
  · have hb : (decide (48 ≤ c) && decide (c ≤ 57)) = false := by simp; omega
    rw [if_neg h, hb]
    simp
theorem hexV_lt (c : Int) : hexV c < 16 := by
  rw [← dgt_hex]
  unfold dgt
  split
  · omega
  · split
    · omega
    · split <;> omega
theorem hexB_is (c : Int) : hexB c = (decide (0 ≤ dgt c) && decide (dgt c < 16)) := by
  have h1 := hexV_neg c
  have h2 := hexV_lt c
  rw [dgt_hex, decide_eq_true h2, Bool.and_true]
  by_cases h : 0 ≤ hexV c
  · rw [decide_eq_false (by omega : ¬ hexV c < 0)] at h1
    rw [decide_eq_true h]
    cases hb : hexB c
    · rw [hb] at h1; cases h1
    · rfl
  · rw [decide_eq_true (by omega : hexV c < 0)] at h1
    rw [decide_eq_false h]
    cases hb : hexB c
    · rfl
    · rw [hb] at h1; cases h1
theorem digB_is (c : Int) : digB c = (decide (0 ≤ dgt c) && decide (dgt c < 10)) := by
  unfold digB dgt
  by_cases h : 48 ≤ c ∧ c ≤ 57
  · rw [if_pos h]
    have a : 0 ≤ c - 48 := by omega
    have b : c - 48 < 10 := by omega
    simp [h, a, b]
  · rw [if_neg h]
    have : (decide (48 ≤ c) && decide (c ≤ 57)) = false := by simp; omega
    rw [this]
    split
    · have : ¬ c - 87 < 10 := by omega
      simp [this]
    · split
      · have : ¬ c - 55 < 10 := by omega
        simp [this]
      · simp
theorem dgt_dig {c : Int} (h : digB c = true) : dgt c = c - 48 ∧ 48 ≤ c ∧ c ≤ 57 := by
  unfold digB at h
  simp at h
  unfold dgt
  rw [if_pos h]
  exact ⟨rfl, h⟩
theorem all_okB16 (l : List Int) : l.all hexB = okB 16 l := all_congr' fun c _ => hexB_is c
theorem all_okB10 (l : List Int) : l.all digB = okB 10 l := all_congr' fun c _ => digB_is c
/-- A text's number at a base, if it has one to so many digits. -/
def numOk (b : Int) (m : Nat) (p : Int → Bool) (s : ByteArray) : Int × Bool := if 1 ≤ s.size ∧ s.size ≤ m ∧ (bytesOf s).all p = true then (numB b (bytesOf s), true) else (0, false)
theorem runL_num (b : Int) (p : Int → Bool) (l : List Int) (st : Int) :
    runL (fun (st : Int) c => if p c = true then .inl (st * b + dgt c) else .inr ((0 : Int), false)) (fun st => (st, true)) l st = if l.all p = true then (l.foldl (fun n c => n * b + dgt c) st, true) else (0, false) := by
  induction l generalizing st with
  | nil => rfl
  | cons c cs ih =>
    rw [List.all_cons]
    unfold runL
    by_cases hp : p c = true
    · simp only [hp, if_true, Bool.true_and, ih, List.foldl_cons]
    · simp only [(by simpa using hp : p c = false), Bool.false_and, Bool.false_eq_true, if_false]
theorem num_next {b st d : Int} {i : Nat} (hb : 0 ≤ b) (h0 : 0 ≤ st) (h1 : st < b ^ i) (d0 : 0 ≤ d) (d1 : d < b) : 0 ≤ st * b ∧ 0 ≤ st * b + d ∧ st * b + d < b ^ (i + 1) := by
  have a := Int.mul_nonneg h0 hb
  rw [Int.pow_succ]
  have : (st + 1) * b ≤ b ^ i * b := Int.mul_le_mul_of_nonneg_right (by omega) hb
  rw [Int.add_mul, Int.one_mul] at this
  omega
theorem num_loop (b : Int) (hb : b = 10 ∨ b = 16) (m : Nat) (hm : (b = 10 ∧ m ≤ 15) ∨ (b = 16 ∧ m ≤ 13)) (p : Int → Bool) (hp : ∀ c, p c = true → 0 ≤ dgt c ∧ dgt c < b) (s : ByteArray) (hs : s.size ≤ m) (g : Nat → Int → Int → Option (Int × Bool)) (K : Nat)
    (h1 : ∀ k (st : Int) (i : Nat), K ≤ k → i < s.size → p (bt s i) = true → wrap64 (st * b) = st * b → wrap64 (st * b + dgt (bt s i)) = st * b + dgt (bt s i) → g (k + 1) st i = g k (st * b + dgt (bt s i)) ((i + 1 : Nat) : Int))
    (h0 : ∀ k (st : Int) (i : Nat), K ≤ k → i < s.size → p (bt s i) = false → g (k + 1) st i = some (0, false))
    (he : ∀ k (st : Int), K ≤ k → g (k + 1) st (s.size : Int) = some (st, true)) : Ev (fun k => g k 0 0) (if (bytesOf s).all p = true then (numB b (bytesOf s), true) else (0, false)) := by
  have hr := ev_run s (fun (st : Int) i => 0 ≤ st ∧ st < b ^ i) (fun (st : Int) c => if p c = true then .inl (st * b + dgt c) else .inr ((0 : Int), false)) (fun st => (st, true)) g K
    (fun k st i hk hi hI => ⟨fun st' e => (by
        by_cases hq : p (bt s i) = true
        · rw [if_pos hq] at e
          obtain rfl : st * b + dgt (bt s i) = st' := by injection e
          obtain ⟨d0, d1⟩ := hp _ hq
          obtain ⟨a0, a1, a2⟩ := num_next (b := b) (by omega) hI.1 hI.2 d0 d1
          have hw := pow_small hb hm (k := i + 1) (by omega)
          exact ⟨h1 k st i hk hi hq (wrap_in (by omega) (by omega)) (wrap_in (by omega) (by omega)), a1, a2⟩
        · rw [if_neg hq] at e; cases e),
      fun r e => (by
        by_cases hq : p (bt s i) = true
        · rw [if_pos hq] at e; cases e
        · rw [if_neg hq] at e
          obtain rfl : ((0 : Int), false) = r := by injection e
          exact h0 k st i hk hi (by simpa using hq))⟩)
    (fun k st hk _ => he k st hk) 0 ⟨by omega, by simp⟩
  rw [runL_num] at hr
  exact hr
theorem impl_HexDigits_is (s : ByteArray) : impl_HexDigits.f s = some (numOk 16 13 hexB s) := by
  unfold impl_HexDigits.f numOk
  by_cases h1 : (s.size : Int) < 1
  · rw [if_pos h1, if_neg (by omega)]
  · rw [if_neg h1]
    by_cases h2 : (s.size : Int) > 13
    · rw [if_pos h2, if_neg (by omega)]
    · rw [if_neg h2, all_hex s (by omega)]
      simp only [Option.bind_some]
      have a : 1 ≤ s.size := by omega
      have b : s.size ≤ 13 := by omega
      by_cases h3 : (bytesOf s).all hexB = true
      · rw [if_pos h3, if_pos ⟨a, b, h3⟩]
        unfold strconv_ParseInt.f
        rw [if_pos ⟨rfl, by omega, by rw [← all_okB16]; exact h3, .inl ⟨rfl, b⟩⟩]
        rfl
      · rw [if_neg h3, if_neg (by intro h; exact h3 h.2.2)]
theorem mn_is (a b : Int) : mn a b = if a ≤ b then a else b := by
  unfold mn
  split <;> split <;> omega
theorem hexPair (c d : Int) : numOk 16 13 hexB (strOfNums [c, d]) = numOk 16 13 hexB (strOfNums [c, d]) := rfl
theorem numOk_two {t : ByteArray} {c d : Int} (h : bytesOf t = [c, d]) : numOk 16 13 hexB t = if hexB c = true ∧ hexB d = true then (16 * hexV c + hexV d, true) else (0, false) := by
  have hz : t.size = 2 := by rw [← bytesOf_length, h]; rfl
  unfold numOk
  rw [h]
  by_cases a : hexB c = true ∧ hexB d = true
  · rw [if_pos a, if_pos ⟨by omega, by omega, by simp [a]⟩]
    refine Prod.ext ?_ rfl
    show (0 * 16 + dgt c) * 16 + dgt d = _
    rw [dgt_hex, dgt_hex]
    omega
  · rw [if_neg a, if_neg]
    intro ⟨_, _, e⟩
    simp at e
    exact a e
theorem uncoded_both (s : ByteArray) (hs : s.size ≤ 200) : ∀ (n i : Nat) (acc : List Int), i + n = s.size → acc.length ≤ i →
    ∃ r : ByteArray × Bool, Ev (fun k => spec_Uncoded.l0 k s acc (i : Int)) r ∧ Ev (fun k => impl_Uncoded.l0 k s acc (i : Int)) r ∧ r.1.size ≤ s.size := by
  intro n
  induction n using Nat.strongRecOn with
  | _ n ih =>
    intro i acc hd ha
    by_cases hn : n = 0
    · subst hn
      refine ⟨(strOfNums acc, true), Ev.step (f := fun _ => some (strOfNums acc, true)) (fun k => ?_) (Ev.now _), Ev.step (f := fun _ => some (strOfNums acc, true)) (fun k => ?_) (Ev.now _), ?_⟩
      · simp only [spec_Uncoded.l0]
        rw [if_neg (by omega)]
      · simp only [impl_Uncoded.l0]
        rw [if_neg (by omega)]
      · show (strOfNums acc).size ≤ s.size
        have : (strOfNums acc).size = acc.length := by
          unfold strOfNums
          simp [ByteArray.size]
        omega
    · have h1 : (i : Int) < (s.size : Int) := by omega
      have w1 : wrap64 ((i : Int) + 1) = ((i + 1 : Nat) : Int) := by rw [wrap_in (by omega) (by omega)]; omega
      have w2 : wrap64 ((i : Int) + 2) = ((i + 2 : Nat) : Int) := by rw [wrap_in (by omega) (by omega)]; omega
      have w3 : wrap64 ((i : Int) + 3) = ((i + 3 : Nat) : Int) := by rw [wrap_in (by omega) (by omega)]; omega
      have w21 : wrap64 (((i + 2 : Nat) : Int) + 1) = ((i + 3 : Nat) : Int) := by rw [wrap_in (by omega) (by omega)]; omega
      have hl : acc.length < 140737488355328 := by omega
      by_cases hp : bt s (i : Int) = 37
      · by_cases h3 : i + 3 ≤ s.size
        · have hb1 := bt_range s ((i + 1 : Nat) : Int)
          have hb2 := bt_range s ((i + 2 : Nat) : Int)
          have e2 := numOk_two (bytes_two s (i + 1) (by omega))
          have n1 := hexV_neg (bt s ((i + 1 : Nat) : Int))
          have n2 := hexV_neg (bt s ((i + 2 : Nat) : Int))
          have l1 := hexV_lt (bt s ((i + 1 : Nat) : Int))
          have l2 := hexV_lt (bt s ((i + 2 : Nat) : Int))
          have impl0 : ∀ k, impl_Uncoded.l0 (k + 1) s acc (i : Int) = if hexB (bt s ((i + 1 : Nat) : Int)) = true ∧ hexB (bt s ((i + 2 : Nat) : Int)) = true then impl_Uncoded.l0 k s (acc ++ [(16 * hexV (bt s ((i + 1 : Nat) : Int)) + hexV (bt s ((i + 2 : Nat) : Int))) % 256]) ((i + 3 : Nat) : Int) else some ((⟨#[]⟩ : ByteArray), false) := by
            intro k
            simp only [impl_Uncoded.l0]
            rw [if_pos h1, if_pos (by omega), if_pos hp, w1, w2, w3, w21, mn_is, if_pos (by omega), if_pos (by omega), if_pos (by omega), if_pos (by omega), Int.toNat_natCast, Int.toNat_natCast, show i + 3 = i + 1 + 2 from rfl, impl_HexDigits_is, e2]
            simp only [Option.bind_some]
            by_cases a : hexB (bt s ((i + 1 : Nat) : Int)) = true ∧ hexB (bt s ((i + 1 + 1 : Nat) : Int)) = true
            · rw [if_pos a]
              simp only [if_true]
              rw [if_neg (by omega), if_pos hl, if_pos a]
            · rw [if_neg a]
              simp only [Bool.false_eq_true, if_false]
              rw [if_neg a]
          by_cases a1 : hexB (bt s ((i + 1 : Nat) : Int)) = true
          · by_cases a2 : hexB (bt s ((i + 2 : Nat) : Int)) = true
            · rw [a1] at n1
              rw [a2] at n2
              have p1 : 0 ≤ hexV (bt s ((i + 1 : Nat) : Int)) := by have : ¬ hexV (bt s ((i + 1 : Nat) : Int)) < 0 := by simpa using n1
                                                                    omega
              have p2 : 0 ≤ hexV (bt s ((i + 2 : Nat) : Int)) := by have : ¬ hexV (bt s ((i + 2 : Nat) : Int)) < 0 := by simpa using n2
                                                                    omega
              obtain ⟨r, hr1, hr2, hr3⟩ := ih (n - 3) (by omega) (i + 3) (acc ++ [(16 * hexV (bt s ((i + 1 : Nat) : Int)) + hexV (bt s ((i + 2 : Nat) : Int))) % 256]) (by omega) (by rw [List.length_append]; simp; omega)
              obtain ⟨K1, e1⟩ := hr1
              refine ⟨r, ⟨K1 + 10, fun k hk => ?_⟩, Ev.step (f := fun k => impl_Uncoded.l0 k s (acc ++ [(16 * hexV (bt s ((i + 1 : Nat) : Int)) + hexV (bt s ((i + 2 : Nat) : Int))) % 256]) ((i + 3 : Nat) : Int)) (fun k => by rw [impl0, if_pos ⟨a1, a2⟩]) hr2, hr3⟩
              obtain ⟨k, rfl⟩ : ∃ z, k = z + 2 := ⟨k - 2, by omega⟩
              have e1' := e1 k (by omega)
              simp only [spec_Uncoded.l0, spec_Uncoded.j1]
              rw [if_pos h1, if_pos (by omega), if_pos hp, w1, w2, w21, if_neg (by omega), if_pos (by omega), if_pos (by omega), spec_l1Hex_is _ hb1.1 hb1.2 (k + 1) (by omega), spec_l1Hex_is _ hb2.1 hb2.2 (k + 1) (by omega), spec_l1Hex_is _ hb1.1 hb1.2 k (by omega), spec_l1Hex_is _ hb2.1 hb2.2 k (by omega)]
              simp only [Option.bind_some]
              rw [if_neg (by omega), if_pos (by omega), if_pos (by omega), if_neg (by rw [decide_eq_true_eq]; omega), if_pos (by omega), if_pos (by omega), if_pos (by omega), if_pos (by omega), if_pos hl, wrap_in (i := 16 * hexV (bt s ((i + 1 : Nat) : Int))) (by omega) (by omega), wrap_in (by omega) (by omega)]
              exact e1'
            · refine ⟨((⟨#[]⟩ : ByteArray), false), ⟨10, fun k hk => ?_⟩, Ev.step (f := fun _ => some ((⟨#[]⟩ : ByteArray), false)) (fun k => by rw [impl0, if_neg (fun h => a2 h.2)]) (Ev.now _), Nat.zero_le _⟩
              obtain ⟨k, rfl⟩ : ∃ z, k = z + 2 := ⟨k - 2, by omega⟩
              rw [a1] at n1
              rw [Bool.not_eq_true] at a2
              rw [a2] at n2
              have p1 : ¬ hexV (bt s ((i + 1 : Nat) : Int)) < 0 := by simpa using n1
              have p2 : hexV (bt s ((i + 2 : Nat) : Int)) < 0 := by simpa using n2
              simp only [spec_Uncoded.l0, spec_Uncoded.j1]
              rw [if_pos h1, if_pos (by omega), if_pos hp, w1, w2, if_neg (by omega), if_pos (by omega), if_pos (by omega), spec_l1Hex_is _ hb1.1 hb1.2 (k + 1) (by omega), spec_l1Hex_is _ hb2.1 hb2.2 (k + 1) (by omega)]
              simp only [Option.bind_some]
              rw [if_neg p1, if_pos (by omega), if_pos (by omega), if_pos (decide_eq_true p2)]
          · refine ⟨((⟨#[]⟩ : ByteArray), false), ⟨10, fun k hk => ?_⟩, Ev.step (f := fun _ => some ((⟨#[]⟩ : ByteArray), false)) (fun k => by rw [impl0, if_neg (fun h => a1 h.1)]) (Ev.now _), Nat.zero_le _⟩
            obtain ⟨k, rfl⟩ : ∃ z, k = z + 2 := ⟨k - 2, by omega⟩
            rw [Bool.not_eq_true] at a1
            rw [a1] at n1
            have p1 : hexV (bt s ((i + 1 : Nat) : Int)) < 0 := by simpa using n1
            simp only [spec_Uncoded.l0, spec_Uncoded.j1]
            rw [if_pos h1, if_pos (by omega), if_pos hp, w1, w2, if_neg (by omega), if_pos (by omega), if_pos (by omega), spec_l1Hex_is _ hb1.1 hb1.2 (k + 1) (by omega)]
            simp only [Option.bind_some]
            rw [if_pos p1]
            simp
        · refine ⟨((⟨#[]⟩ : ByteArray), false), ⟨10, fun k hk => ?_⟩, Ev.step (f := fun _ => some ((⟨#[]⟩ : ByteArray), false)) (fun k => ?_) (Ev.now _), Nat.zero_le _⟩
          · obtain ⟨k, rfl⟩ : ∃ z, k = z + 2 := ⟨k - 2, by omega⟩
            simp only [spec_Uncoded.l0, spec_Uncoded.j1]
            rw [if_pos h1, if_pos (by omega), if_pos hp, w2, if_pos (by omega)]
            simp
          · simp only [impl_Uncoded.l0]
            rw [if_pos h1, if_pos (by omega), if_pos hp, w1, w3, mn_is, if_neg (show ¬ ((i + 3 : Nat) : Int) ≤ (s.size : Int) by omega), if_pos (by omega), if_pos (by omega), if_pos (by omega), impl_HexDigits_is]
            simp only [Option.bind_some]
            by_cases a : (numOk 16 13 hexB (s.extract ((i + 1 : Nat) : Int).toNat (s.size : Int).toNat)).2 = true
            · rw [if_pos a, if_pos (by omega)]
            · rw [if_neg a]
      · obtain ⟨r, hr1, hr2, hr3⟩ := ih (n - 1) (by omega) (i + 1) (acc ++ [bt s (i : Int)]) (by omega) (by rw [List.length_append]; simp; omega)
        refine ⟨r, Ev.step (fun k => ?_) hr1, Ev.step (fun k => ?_) hr2, hr3⟩
        · simp only [spec_Uncoded.l0]
          rw [if_pos h1, if_pos (by omega), if_neg hp, if_pos hl, w1]
        · simp only [impl_Uncoded.l0]
          rw [if_pos h1, if_pos (by omega), if_neg hp, if_pos hl, w1]
theorem Uncoded_both (s : ByteArray) : ∃ r : ByteArray × Bool, Ev (fun k => spec_Uncoded.f k s) r ∧ Ev (fun k => impl_Uncoded.f k s) r ∧ r.1.size ≤ s.size := by
  unfold spec_Uncoded.f impl_Uncoded.f
  by_cases h : (s.size : Int) > 200
  · simp only [if_pos h]
    exact ⟨((⟨#[]⟩ : ByteArray), false), Ev.now _, Ev.now _, Nat.zero_le _⟩
  · simp only [if_neg h]
    exact uncoded_both s (by omega) s.size 0 [] (by omega) (Nat.le_refl _)
def cd (s : ByteArray) : ByteArray := strOfNums ((bytesOf s).flatMap codeB)
theorem coded_cd {s : ByteArray} (h : s.size ≤ 200) : coded s = cd s := by unfold coded cd; rw [if_pos h]
theorem ev_j {α : Type} {g : Nat → Option α} {r : α} (h : Ev g r) {f : Nat → Option α} (e : ∀ k, f (k + 1) = g k) : Ev f r := by
  obtain ⟨K, h⟩ := h
  refine ⟨K + 1, fun k hk => ?_⟩
  obtain ⟨k, rfl⟩ : ∃ z, k = z + 1 := ⟨k - 1, by omega⟩
  rw [e]
  exact h k (by omega)
def normalR (s : ByteArray) (u : ByteArray × Bool) : ByteArray × Bool := if u.2 = true ∧ pathB s = true ∧ pathB (cd u.1) = true then (dotless (cd u.1), true) else (⟨#[]⟩, false)
theorem NormalPath_u (s : ByteArray) : ∃ u : ByteArray × Bool, Ev (fun k => impl_Uncoded.f k s) u ∧ u.1.size ≤ s.size ∧ Ev (fun k => spec_NormalPath.f k s) (normalR s u) ∧ Ev (fun k => impl_NormalPath.f k s) (normalR s u) := by
  obtain ⟨u, h1, h2, hu⟩ := Uncoded_both s
  refine ⟨u, h2, hu, ?_, ?_⟩
  · unfold spec_NormalPath.f
    refine Ev.bind h1 ?_
    unfold normalR
    by_cases c1 : u.2 = true
    · simp only [if_pos c1]
      rw [spec_l3Path_is]
      simp only [Option.bind_some]
      by_cases c2 : pathB s = true
      · have hs : s.size ≤ 200 := by unfold pathB at c2; rw [decide_eq_true_eq] at c2; exact c2.2.2
        rw [c2]
        simp only [Bool.not_true]
        refine ev_j (g := fun k => (spec_l3Coded.f k u.1).bind fun t104 => (spec_l3Path.f t104).bind fun t105 => if t105 = true then (spec_Dotless.f k t104).bind fun t106 => some (t106, true) else some (⟨#[]⟩, false)) ?_ (fun k => by simp only [spec_NormalPath.j0]; rw [if_neg (by simp)])
        refine Ev.bind (spec_l3Coded_ev u.1 (by omega)) ?_
        simp only [spec_l3Path_is, Option.bind_some]
        by_cases c3 : pathB (cd u.1) = true
        · have c4 := c3
          unfold cd at c4
          simp only [if_pos c4]
          rw [if_pos ⟨c1, trivial, c3⟩]
          exact Ev.bind (spec_Dotless_ev _) (Ev.now _)
        · have c4 := c3
          unfold cd at c4
          simp only [if_neg c4]
          rw [if_neg (fun x => c3 x.2.2)]
          exact Ev.now _
      · rw [if_neg (fun x => c2 x.2.1), Bool.not_eq_true] at *
        rw [c2]
        simp only [Bool.not_false]
        exact ev_j (g := fun k => some (⟨#[]⟩, false)) (Ev.now _) (fun k => by simp only [spec_NormalPath.j0]; rw [if_pos trivial])
    · simp only [if_neg c1]
      rw [if_neg (fun x => c1 x.1)]
      exact ev_j (g := fun k => some (⟨#[]⟩, false)) (Ev.now _) (fun k => by simp only [spec_NormalPath.j0]; rw [if_pos trivial])
  · unfold impl_NormalPath.f
    refine Ev.bind h2 ?_
    unfold normalR
    by_cases c1 : u.2 = true
    · simp only [if_pos c1]
      rw [impl_isPath_is]
      simp only [Option.bind_some]
      by_cases c2 : pathB s = true
      · have hs : s.size ≤ 200 := by unfold pathB at c2; rw [decide_eq_true_eq] at c2; exact c2.2.2
        have hc : coded u.1 = cd u.1 := coded_cd (by omega)
        have hev := impl_Coded_ev u.1 (by omega)
        rw [hc] at hev
        simp only [if_pos c2]
        refine Ev.bind hev ?_
        simp only [impl_isPath_is, Option.bind_some]
        by_cases c3 : pathB (cd u.1) = true
        · rw [c3, if_pos ⟨c1, c2, rfl⟩]
          simp only [Bool.not_true]
          refine ev_j (g := fun k => (impl_Coded.f k u.1).bind fun t106 => (impl_Dotless.f k t106).bind fun t107 => some (t107, true)) ?_ (fun k => by simp only [impl_NormalPath.j0]; rw [if_neg (by simp)])
          exact Ev.bind hev (Ev.bind (impl_Dotless_ev _) (Ev.now _))
        · rw [if_neg (fun x => c3 x.2.2)]
          rw [Bool.not_eq_true] at c3
          rw [c3]
          simp only [Bool.not_false]
          exact ev_j (g := fun k => some (⟨#[]⟩, false)) (Ev.now _) (fun k => by simp only [impl_NormalPath.j0]; rw [if_pos trivial])
      · simp only [if_neg c2]
        rw [if_neg (fun x => c2 x.2.1)]
        exact ev_j (g := fun k => some (⟨#[]⟩, false)) (Ev.now _) (fun k => by simp only [impl_NormalPath.j0]; rw [if_pos trivial])
    · simp only [if_neg c1]
      rw [if_neg (fun x => c1 x.1)]
      exact ev_j (g := fun k => some (⟨#[]⟩, false)) (Ev.now _) (fun k => by simp only [impl_NormalPath.j0]; rw [if_pos trivial])
theorem NormalPath_both (s : ByteArray) : ∃ r : ByteArray × Bool, Ev (fun k => spec_NormalPath.f k s) r ∧ Ev (fun k => impl_NormalPath.f k s) r := by
  obtain ⟨u, _, _, h1, h2⟩ := NormalPath_u s
  exact ⟨_, h1, h2⟩
def leT (a b : ByteArray) : Prop := ¬ Op.bytesLess b.toList a.toList = true
theorem leT_iff (a b : ByteArray) : leT a b ↔ a.data.toList ≤ b.data.toList := by
  unfold leT
  rw [bytesLess_eq, toList_data, toList_data, decide_eq_true_eq]
  exact List.not_lt
/-- A text put among sorted ones, from behind: RA: those ahead, turned; B: those behind. -/
def insT (v : ByteArray) : List ByteArray → List ByteArray → List ByteArray
  | [], B => v :: B
  | a :: RA, B => if Op.bytesLess v.toList a.toList = true then insT v RA (a :: B) else RA.reverse ++ a :: v :: B
theorem insT_perm (v : ByteArray) : ∀ (RA B : List ByteArray), (insT v RA B).Perm (v :: (RA.reverse ++ B))
  | [], B => List.Perm.refl _
  | a :: RA, B => by
    unfold insT
    split
    · have := insT_perm v RA (a :: B)
      rwa [List.reverse_cons, List.append_assoc, List.singleton_append]
    · rw [List.reverse_cons, List.append_assoc, List.singleton_append]
      have h1 : (RA.reverse ++ a :: v :: B).Perm (v :: (RA.reverse ++ a :: B)) := by
        have h2 : (RA.reverse ++ a :: v :: B) = (RA.reverse ++ [a]) ++ v :: B := by simp
        have h3 : (RA.reverse ++ a :: B) = (RA.reverse ++ [a]) ++ B := by simp
        rw [h2, h3]
        exact List.perm_middle
      exact h1
theorem leT_of (a b : ByteArray) (h : Op.bytesLess a.toList b.toList = true) : leT a b := by
  rw [leT_iff]
  rw [bytesLess_eq, decide_eq_true_eq, toList_data, toList_data] at h
  exact List.le_of_lt h
theorem leT_trans {a b c : ByteArray} (h1 : leT a b) (h2 : leT b c) : leT a c := by
  rw [leT_iff] at *
  exact List.le_trans h1 h2
theorem insT_sorted (v : ByteArray) : ∀ (RA B : List ByteArray), (RA.reverse ++ B).Pairwise leT → (∀ b ∈ B, leT v b) → (insT v RA B).Pairwise leT
  | [], B, h, hb => List.pairwise_cons.2 ⟨hb, by simpa using h⟩
  | a :: RA, B, h, hb => by
    rw [List.reverse_cons, List.append_assoc, List.singleton_append] at h
    unfold insT
    split
    · rename_i hl
      refine insT_sorted v RA (a :: B) h fun b hm => ?_
      rcases List.mem_cons.1 hm with rfl | hm
      · exact leT_of _ _ hl
      · exact hb b hm
    · rename_i hl
      rw [List.pairwise_append] at h ⊢
      obtain ⟨h1, h2, h3⟩ := h
      rw [List.pairwise_cons] at h2
      refine ⟨h1, ?_, ?_⟩
      · refine List.pairwise_cons.2 ⟨fun b hm => ?_, List.pairwise_cons.2 ⟨hb, h2.2⟩⟩
        rcases List.mem_cons.1 hm with rfl | hm
        · exact hl
        · exact h2.1 b hm
      · intro x hx y hy
        rcases List.mem_cons.1 hy with rfl | hy
        · exact h3 x hx _ List.mem_cons_self
        · rcases List.mem_cons.1 hy with rfl | hy
          · exact leT_trans (h3 x hx a List.mem_cons_self) hl
          · exact h3 x hx y (List.mem_cons_of_mem _ hy)
def isortT (S l : List ByteArray) : List ByteArray := l.foldl (fun S v => insT v S.reverse []) S
theorem isortT_perm (l : List ByteArray) : ∀ S, (isortT S l).Perm (S ++ l) := by
  induction l with
  | nil => intro S; rw [List.append_nil]; exact List.Perm.refl _
  | cons v l ih =>
    intro S
    have h1 := ih (insT v S.reverse [])
    have h2 := insT_perm v S.reverse []
    rw [List.reverse_reverse, List.append_nil] at h2
    refine h1.trans ((h2.append_right l).trans ?_)
    exact List.perm_middle.symm
theorem isortT_sorted (l : List ByteArray) : ∀ S, S.Pairwise leT → (isortT S l).Pairwise leT := by
  induction l with
  | nil => intro S h; exact h
  | cons v l ih =>
    intro S h
    exact ih _ (insT_sorted v S.reverse [] (by simpa using h) (fun b hb => by cases hb))
theorem eq_of_sorted {l1 : List (List UInt8)} : ∀ {l2 : List (List UInt8)}, l1.Perm l2 → l1.Pairwise (· ≤ ·) → l2.Pairwise (· ≤ ·) → l1 = l2 := by
  induction l1 with
  | nil => intro l2 h _ _; exact (List.nil_perm.1 h).symm
  | cons a l1 ih =>
    intro l2 h h1 h2
    cases l2 with
    | nil => exact absurd h.symm (by intro x; exact absurd (List.nil_perm.1 x) (by simp))
    | cons b l2 =>
      have e : a = b := by
        have ha : a ∈ b :: l2 := h.subset List.mem_cons_self
        have hb : b ∈ a :: l1 := h.symm.subset List.mem_cons_self
        rcases List.mem_cons.1 ha with rfl | ha
        · rfl
        · rcases List.mem_cons.1 hb with rfl | hb
          · rfl
          · exact List.le_antisymm ((List.pairwise_cons.1 h1).1 b hb) ((List.pairwise_cons.1 h2).1 a ha)
      subst e
      rw [ih ((List.perm_cons a).1 h) (List.pairwise_cons.1 h1).2 (List.pairwise_cons.1 h2).2]
theorem isortT_is (l : List ByteArray) : (isortT [] l).map (·.data.toList) = (l.map (·.data.toList)).mergeSort fun x y => decide (x ≤ y) := by
  have hp : ((isortT [] l).map (·.data.toList)).Perm (l.map (·.data.toList)) := (isortT_perm l []).map _
  have hs : ((isortT [] l).map (·.data.toList)).Pairwise (· ≤ ·) := by
    rw [List.pairwise_map]
    exact (isortT_sorted l [] List.Pairwise.nil).imp fun h => (leT_iff _ _).1 h
  have hm : ((l.map (·.data.toList)).mergeSort fun x y => decide (x ≤ y)).Pairwise (· ≤ ·) := by
    have := List.pairwise_mergeSort (le := fun (x y : List UInt8) => decide (x ≤ y)) (fun a b c h1 h2 => by simp only [decide_eq_true_eq] at *; exact List.le_trans h1 h2) (fun a b => by simp only [Bool.or_eq_true, decide_eq_true_eq]; exact List.le_total a b) (l.map (·.data.toList))
    exact this.imp fun h => of_decide_eq_true h
  exact eq_of_sorted (hp.trans (List.mergeSort_perm _ _).symm) hs hm
theorem rd_mid (A B : List ByteArray) (a : ByteArray) : rdOf ByteArray.empty (A ++ a :: B) (A.length : Int) = a := by
  rw [rd_at _ _ (by simp)]
  simp
theorem set_mid (A B : List ByteArray) (h v : ByteArray) : (A ++ h :: B).set A.length v = A ++ v :: B := by simp
theorem l3Sorted_inner (x0 : List ByteArray) (i : Nat) (hi : i < x0.length) (hx : x0.length ≤ 1000000) (r : List ByteArray) : ∀ (RA B : List ByteArray) (h : ByteArray), RA.length + B.length ≤ 1000000 →
    Ev (fun k => spec_l3Sorted.l0 k x0 (insT x0[i] RA B) ((i + 1 : Nat) : Int)) r → Ev (fun k => spec_l3Sorted.l1 k x0 (RA.reverse ++ h :: B) (i : Int) (RA.length : Int)) r
  | [], B, h, hl, hr => by
    refine Ev.step (f := fun k => spec_l3Sorted.l0 k x0 (insT x0[i] [] B) ((i + 1 : Nat) : Int)) (fun k => ?_) hr
    simp only [spec_l3Sorted.l1]
    rw [if_neg (by simp), if_pos (by omega), if_pos (by omega), if_pos (by simp), if_pos (by simp only [List.reverse_nil, List.nil_append, List.length_nil, List.length_cons]; omega), rd_at x0 i hi, wrap_in (i := (i : Int) + 1) (by omega) (by omega), show ((i : Int) + 1) = ((i + 1 : Nat) : Int) by omega]
    rfl
  | a :: RA, B, h, hl, hr => by
    have hA : ((a :: RA).reverse ++ h :: B).length = RA.length + 1 + B.length + 1 := by simp only [List.length_append, List.length_reverse, List.length_cons]; omega
    have hlen : (a :: RA).length = RA.length + 1 := rfl
    rw [hlen] at hl
    have e1 : wrap64 (((a :: RA).length : Int) - 1) = (RA.length : Int) := by rw [hlen, wrap_in (by omega) (by omega)]; omega
    have e2 : rdOf ByteArray.empty ((a :: RA).reverse ++ h :: B) (RA.length : Int) = a := by
      have := rd_mid RA.reverse (h :: B) a
      rw [List.length_reverse] at this
      rw [List.reverse_cons, List.append_assoc]
      exact this
    have e3 : ∀ v, ((a :: RA).reverse ++ h :: B).set (((a :: RA).length : Int)).toNat v = (a :: RA).reverse ++ v :: B := fun v => by
      have := set_mid (a :: RA).reverse B h v
      rw [List.length_reverse] at this
      rw [Int.toNat_natCast]
      exact this
    by_cases hb : Op.bytesLess x0[i].toList a.toList = true
    · have hr2 : insT x0[i] (a :: RA) B = insT x0[i] RA (a :: B) := by rw [insT, if_pos hb]
      rw [hr2] at hr
      have ih := l3Sorted_inner x0 i hi hx r RA (a :: B) a (by simp only [List.length_cons]; omega) hr
      refine Ev.step (f := fun k => spec_l3Sorted.l1 k x0 (RA.reverse ++ a :: (a :: B)) (i : Int) (RA.length : Int)) (fun k => ?_) ih
      simp only [spec_l3Sorted.l1]
      rw [if_pos (by rw [hlen]; omega), e1, if_pos (by omega), if_pos (by rw [hA]; omega), if_pos (by omega), if_pos (by omega), rd_at x0 i hi, e2, if_pos hb, if_pos (by rw [hlen]; omega), if_pos (by rw [hA, hlen]; omega), e3]
      simp
    · have hr2 : insT x0[i] (a :: RA) B = RA.reverse ++ a :: x0[i] :: B := by rw [insT, if_neg hb]
      rw [hr2] at hr
      refine Ev.step (f := fun k => spec_l3Sorted.l0 k x0 (RA.reverse ++ a :: x0[i] :: B) ((i + 1 : Nat) : Int)) (fun k => ?_) hr
      simp only [spec_l3Sorted.l1]
      rw [if_pos (by rw [hlen]; omega), e1, if_pos (by omega), if_pos (by rw [hA]; omega), if_pos (by omega), if_pos (by omega), rd_at x0 i hi, e2, if_neg hb, if_pos (by rw [hlen]; omega), if_pos (by rw [hA, hlen]; omega), e3, wrap_in (i := (i : Int) + 1) (by omega) (by omega), show ((i : Int) + 1) = ((i + 1 : Nat) : Int) by omega]
      simp
theorem insT_length (v : ByteArray) (S : List ByteArray) : (insT v S.reverse []).length = S.length + 1 := by
  have := (insT_perm v S.reverse []).length_eq
  simpa using this
theorem l3Sorted_loop (x0 : List ByteArray) (hx : x0.length ≤ 900000) (d : Nat) : ∀ (i : Nat) (S : List ByteArray), i + d = x0.length → S.length = i → Ev (fun k => spec_l3Sorted.l0 k x0 S (i : Int)) (isortT S (x0.drop i)) := by
  induction d with
  | zero =>
    intro i S hd hs
    rw [List.drop_of_length_le (by omega)]
    refine Ev.step (f := fun _ => some S) (fun k => ?_) (Ev.now _)
    simp only [spec_l3Sorted.l0]
    rw [if_neg (by omega)]
  | succ d ih =>
    intro i S hd hs
    have hi : i < x0.length := by omega
    rw [List.drop_eq_getElem_cons hi]
    have h1 := ih (i + 1) (insT x0[i] S.reverse []) (by omega) (by rw [insT_length]; omega)
    have h2 := l3Sorted_inner x0 i hi (by omega) _ S.reverse [] x0[i] (by simp; omega) h1
    rw [List.reverse_reverse, List.length_reverse] at h2
    refine Ev.step (f := fun k => spec_l3Sorted.l1 k x0 (S ++ [x0[i]]) (i : Int) (S.length : Int)) (fun k => ?_) h2
    simp only [spec_l3Sorted.l0]
    rw [if_pos (by omega), if_pos (by omega), if_pos (by omega), rd_at x0 i hi]
theorem l3Sorted_ev (x0 : List ByteArray) (hx : x0.length ≤ 900000) : Ev (fun k => spec_l3Sorted.f k x0) (isortT [] x0) := by
  unfold spec_l3Sorted.f
  have := l3Sorted_loop x0 hx x0.length 0 [] (by omega) rfl
  rw [List.drop_zero] at this
  exact this
theorem query_keep (parts : List ByteArray) (hp : parts.length ≤ 900000) (r : ByteArray) (d : Nat) : ∀ (i : Nat) (out : List ByteArray), i + d = parts.length → out.length ≤ i →
    Ev (fun k => (spec_l3Sorted.f k (out ++ (parts.drop i).filter fun p => !(p.toList == []))).bind fun t112 => spec_SortedQuery.l1 k t112 ⟨#[]⟩ 0) r → Ev (fun k => spec_SortedQuery.l0 k out parts (i : Int)) r := by
  induction d with
  | zero =>
    intro i out hd ho hr
    rw [List.drop_of_length_le (by omega), List.filter_nil, List.append_nil] at hr
    refine Ev.step (fun k => ?_) hr
    simp only [spec_SortedQuery.l0]
    rw [if_neg (by omega)]
  | succ d ih =>
    intro i out hd ho hr
    have hi : i < parts.length := by omega
    rw [List.drop_eq_getElem_cons hi, List.filter_cons] at hr
    by_cases h : parts[i].toList = []
    · rw [if_neg (by simp [h])] at hr
      refine Ev.step (fun k => ?_) (ih (i + 1) out (by omega) (by omega) hr)
      simp only [spec_SortedQuery.l0]
      rw [if_pos (by omega), if_pos (by omega), rd_at parts i hi, if_pos h, wrap_in (i := (i : Int) + 1) (by omega) (by omega), show ((i : Int) + 1) = ((i + 1 : Nat) : Int) by omega]
    · have hb : (!(parts[i].toList == [])) = true := by rw [Bool.not_eq_true', beq_eq_false_iff_ne]; exact h
      rw [if_pos hb] at hr
      refine Ev.step (fun k => ?_) (ih (i + 1) (out ++ [parts[i]]) (by omega) (by rw [List.length_append, List.length_singleton]; omega) (by rw [List.append_assoc]; exact hr))
      simp only [spec_SortedQuery.l0]
      rw [if_pos (by omega), if_pos (by omega), rd_at parts i hi, if_neg h, if_pos (by omega), wrap_in (i := (i : Int) + 1) (by omega) (by omega), show ((i : Int) + 1) = ((i + 1 : Nat) : Int) by omega]
theorem query_join (l : List ByteArray) (hl : l.length ≤ 900000) (d : Nat) : ∀ (i : Nat) (s : ByteArray), 0 < i → i + d = l.length → s.size + wt (l.drop i) ≤ 1000000 →
    Ev (fun k => spec_SortedQuery.l1 k l s (i : Int)) (ofL (s.data.toList ++ Lib.joinTail [38] ((l.drop i).map (·.data.toList)))) := by
  induction d with
  | zero =>
    intro i s h0 hd hs
    rw [List.drop_of_length_le (by omega)]
    refine Ev.step (f := fun _ => some s) (fun k => ?_) ?_
    · simp only [spec_SortedQuery.l1]
      rw [if_neg (by omega)]
    · have e : Lib.joinTail [38] (([] : List ByteArray).map (·.data.toList)) = [] := rfl
      rw [e, List.append_nil, ofL_data]
      exact Ev.now _
  | succ d ih =>
    intro i s h0 hd hs
    have hi : i < l.length := by omega
    rw [List.drop_eq_getElem_cons hi] at hs ⊢
    have hw := wt_cons l[i] (l.drop (i + 1))
    have h38 : (⟨#[38]⟩ : ByteArray).size = 1 := rfl
    have e1 : ((s ++ (⟨#[38]⟩ : ByteArray)) ++ l[i]).size = s.size + 1 + l[i].size := by rw [ByteArray.size_append, ByteArray.size_append, h38]
    have h1 := ih (i + 1) ((s ++ (⟨#[38]⟩ : ByteArray)) ++ l[i]) (by omega) (by omega) (by rw [e1]; omega)
    refine Ev.step (f := fun k => spec_SortedQuery.l1 k l ((s ++ (⟨#[38]⟩ : ByteArray)) ++ l[i]) ((i + 1 : Nat) : Int)) (fun k => ?_) (ev_eq h1 ?_)
    · simp only [spec_SortedQuery.l1]
      rw [if_pos (by omega), if_pos (by omega), if_pos (by omega), if_pos (by omega), rd_at l i hi, if_pos (by rw [ByteArray.size_append, h38]; omega), wrap_in (i := (i : Int) + 1) (by omega) (by omega), show ((i : Int) + 1) = ((i + 1 : Nat) : Int) by omega]
    · unfold Lib.joinTail
      simp only [ByteArray.data_append, Array.toList_append, List.map_cons, List.flatten_cons, List.append_assoc]
theorem query_out (l : List ByteArray) (hw : wt l ≤ 900000) : Ev (fun k => spec_SortedQuery.l1 k l ⟨#[]⟩ 0) (ofL (Lib.join (l.map (·.data.toList)) [38])) := by
  have hl := wt_len l
  cases l with
  | nil =>
    refine Ev.step (f := fun _ => some ⟨#[]⟩) (fun k => ?_) (Ev.now _)
    simp only [spec_SortedQuery.l1]
    rw [if_neg (by simp)]
  | cons a l =>
    have hc := wt_cons a l
    have e0 : ((⟨#[]⟩ : ByteArray) ++ a) = a := by
      apply ByteArray.ext
      simp [ByteArray.data_append]
    have hz : (⟨#[]⟩ : ByteArray).size = 0 := rfl
    have h1 := query_join (a :: l) (by omega) l.length 1 a (by omega) (by simp; omega) (by simp only [List.drop_succ_cons, List.drop_zero]; omega)
    refine Ev.step (f := fun k => spec_SortedQuery.l1 k (a :: l) a ((1 : Nat) : Int)) (fun k => ?_) (ev_eq h1 ?_)
    · simp only [spec_SortedQuery.l1]
      have e1 : rdOf ByteArray.empty (a :: l) 0 = a := rfl
      rw [if_pos (by simp only [List.length_cons]; omega), if_neg (by omega), if_pos (by omega), e1, e0, if_pos (by omega), wrap_in (by omega) (by omega)]
      rfl
    · rw [List.map_cons, Lib.join_cons]
      rfl
def queryR (s : ByteArray) : ByteArray := if s.size > 200 then ⟨#[]⟩ else ofL (Lib.join (sortedL s) [38])
theorem impl_SortedQuery_is (s : ByteArray) : impl_SortedQuery.f s = some (queryR s) := by
  unfold impl_SortedQuery.f queryR
  split <;> rfl
theorem wt_filter (p : ByteArray → Bool) (l : List ByteArray) : wt (l.filter p) ≤ wt l := by
  induction l with
  | nil => exact Nat.le_refl _
  | cons a l ih =>
    rw [List.filter_cons, wt_cons]
    split
    · rw [wt_cons]; omega
    · omega
theorem wt_perm {a b : List ByteArray} (h : a.Perm b) : wt a = wt b := (h.map _).sum_nat
theorem spec_SortedQuery_ev (s : ByteArray) : Ev (fun k => spec_SortedQuery.f k s) (queryR s) := by
  unfold spec_SortedQuery.f queryR
  by_cases h : s.size > 200
  · have h2 : (s.size : Int) > 200 := by omega
    simp only [if_pos h, if_pos h2]
    exact Ev.now _
  · have h2 : ¬ (s.size : Int) > 200 := by omega
    simp only [if_neg h, if_neg h2]
    refine Ev.bind (l3Split_ev s 38 (by omega)) ?_
    have hw := wt_spl 38 s.data.toList
    rw [Array.length_toList] at hw
    have hw2 : wt ((spl 38 s.data.toList).map ofL) = s.size + 1 := hw
    have hl := wt_len ((spl 38 s.data.toList).map ofL)
    have hf := wt_filter (fun p => !(p.toList == [])) ((spl 38 s.data.toList).map ofL)
    have hl2 := wt_len (((spl 38 s.data.toList).map ofL).filter fun p => !(p.toList == []))
    have hp := wt_perm (isortT_perm (((spl 38 s.data.toList).map ofL).filter fun p => !(p.toList == [])) [])
    rw [List.nil_append] at hp
    refine query_keep _ (by omega) _ ((spl 38 s.data.toList).map ofL).length 0 [] (by omega) (Nat.le_refl _) ?_
    rw [List.drop_zero, List.nil_append]
    refine Ev.bind (l3Sorted_ev _ (by omega)) ?_
    refine ev_eq (query_out _ (by omega)) ?_
    congr 2
    rw [isortT_is]
    unfold sortedL
    congr 1
    unfold keptL
    rw [Lib.splitB_data]
    have e2 : Lib.splitK (⟨#[38]⟩ : ByteArray).data.toList 0 (Lib.countB s ⟨#[38]⟩) s.data.toList = spl 38 s.data.toList := splitK_spl 38 s.data.toList
    rw [e2]
    generalize spl 38 s.data.toList = ps
    induction ps with
    | nil => rfl
    | cons p ps ih =>
      rw [List.map_cons, List.filter_cons, List.filter_cons, ofL_toList]
      by_cases c : (!(p == [])) = true
      · rw [if_pos c, if_pos c, List.map_cons, ih]
        rfl
      · rw [if_neg c, if_neg c, ih]
def tokOk (s : ByteArray) : Bool := decide (1 ≤ s.size) && decide (s.size ≤ 64) && (bytesOf s).all tokB
theorem spec_TokenOk_ev (s : ByteArray) (hs : s.size ≤ 4611686018427387904) : Ev (fun k => spec_TokenOk.f k s) (tokOk s) := by
  unfold spec_TokenOk.f tokOk
  by_cases h : (s.size : Int) < 1
  · simp only [if_pos h]
    rw [decide_eq_false (by omega : ¬ 1 ≤ s.size)]
    exact Ev.step (f := fun _ => some false) (fun k => by simp only [spec_TokenOk.j0, if_true]) (Ev.now _)
  · simp only [if_neg h]
    rw [decide_eq_true (by omega : 1 ≤ s.size)]
    by_cases h' : (s.size : Int) > 64
    · rw [decide_eq_true h', decide_eq_false (by omega : ¬ s.size ≤ 64)]
      exact Ev.step (f := fun _ => some false) (fun k => by simp only [spec_TokenOk.j0, if_true]) (Ev.now _)
    · rw [decide_eq_false h', decide_eq_true (by omega : s.size ≤ 64), Bool.true_and, Bool.true_and]
      refine Ev.step (f := fun k => spec_TokenOk.l0 k s 0) (fun k => by simp only [spec_TokenOk.j0, Bool.false_eq_true, if_false]) ?_
      refine ev_all s tokB (fun k i => spec_TokenOk.l0 k s i) 0 (fun k i _ hi hp => ?_) (fun k i _ hi hp => ?_) (fun k _ => ?_)
      · simp only [spec_TokenOk.l0]
        rw [if_pos (by omega), if_pos (by omega), spec_l1Token_is _ (bt_range s i).1 (bt_range s i).2, hp, wrap_next hi hs]
        rfl
      · simp only [spec_TokenOk.l0]
        rw [if_pos (by omega), if_pos (by omega), spec_l1Token_is _ (bt_range s i).1 (bt_range s i).2, hp]
        rfl
      · simp only [spec_TokenOk.l0]
        rw [if_neg (by omega)]
theorem impl_TokenOk_is (s : ByteArray) (hs : s.size ≤ 4611686018427387904) : impl_TokenOk.f s = some (tokOk s) := by
  unfold impl_TokenOk.f tokOk
  by_cases h : (s.size : Int) ≥ 1
  · rw [if_pos h]
    by_cases h' : (s.size : Int) ≤ 64
    · rw [if_pos h', all_tok s (by omega), decide_eq_true (by omega : 1 ≤ s.size), decide_eq_true (by omega : s.size ≤ 64), Bool.true_and, Bool.true_and]; rfl
    · rw [if_neg h', decide_eq_false (by omega : ¬ s.size ≤ 64), Bool.and_false]; rfl
  · rw [if_neg h, decide_eq_false (by omega : ¬ 1 ≤ s.size)]; rfl
theorem dotless_size (s : ByteArray) : (dotless s).size ≤ 1000 := by
  unfold dotless
  by_cases h : pathB s = true
  · rw [if_pos h]
    unfold pathB at h
    rw [decide_eq_true_eq] at h
    have hsz : (s.extract 1 s.size).size = s.size - 1 := size_extract s 1 s.size (Nat.le_refl _)
    have hw := wt_spl 47 (s.extract 1 s.size).data.toList
    rw [Array.length_toList] at hw
    have hw2 : wt ((spl 47 (s.extract 1 s.size).data.toList).map ofL) = (s.extract 1 s.size).size + 1 := hw
    have ha := wt_all ((spl 47 (s.extract 1 s.size).data.toList).map ofL) [] ⟨#[]⟩
    have hz : wt ([] : List ByteArray) = 0 := rfl
    unfold dotOut
    split
    · decide
    · rw [ofL_size, slashed_length]; omega
  · rw [if_neg h]
    decide
theorem normalR_size (s : ByteArray) (u : ByteArray × Bool) : (normalR s u).1.size ≤ 1000 := by
  unfold normalR
  split
  · exact dotless_size _
  · show (⟨#[]⟩ : ByteArray).size ≤ 1000; decide
theorem NormalPath_all (s : ByteArray) : ∃ r : ByteArray × Bool, Ev (fun k => spec_NormalPath.f k s) r ∧ Ev (fun k => impl_NormalPath.f k s) r ∧ r.1.size ≤ 1000 := by
  obtain ⟨u, _, _, h1, h2⟩ := NormalPath_u s
  exact ⟨_, h1, h2, normalR_size s u⟩
theorem query_size (s : ByteArray) : (queryR s).size ≤ 401 := by
  unfold queryR
  split
  · decide
  · rw [ofL_size]
    exact sorted_len s (by omega)
/-- A host in small letters. -/
def lowT (s : ByteArray) : ByteArray := strOfNums ((bytesOf s).map low8)
theorem lowT_size (s : ByteArray) : (lowT s).size = s.size := by
  unfold lowT
  show (strOfNums _).data.size = _
  rw [← Array.length_toList, strOfNums_data, List.length_map, List.length_map, bytesOf_length]
def keyR (h : ByteArray) (n : ByteArray × Bool) (q : ByteArray) : ByteArray × Bool :=
  if n.2 = true ∧ tokOk h = true then (lowT h ++ n.1 ++ (if (queryR q).toList = [] then ⟨#[]⟩ else (⟨#[63]⟩ : ByteArray) ++ queryR q), true) else (⟨#[]⟩, false)
/-- The target's path and its query. -/
def pathQ (t : ByteArray) : ByteArray × ByteArray := (ofL (Lib.cut t.data.toList [63]).1, ofL (Lib.cut t.data.toList [63]).2.1)
theorem impl_Key_ev (h t : ByteArray) (hh : h.size ≤ 1048576) (ht : t.size ≤ 1048576) (n : ByteArray × Bool) (hn : Ev (fun k => impl_NormalPath.f k (pathQ t).1) n) (hs : n.1.size ≤ 1000) : Ev (fun k => impl_Key.f k h t) (keyR h n (pathQ t).2) := by
  unfold impl_Key.f strings_Cut.f
  rw [if_pos (by omega)]
  simp only [Option.bind_some]
  refine Ev.bind (a := n) hn ?_
  have q0 := query_size (pathQ t).2
  have l0 := lowT_size h
  have hl : impl_Lower.f h = some (lowT h) := by unfold impl_Lower.f; rw [if_pos (by omega)]; rfl
  have h63 : (⟨#[63]⟩ : ByteArray).size = 1 := rfl
  unfold keyR
  by_cases c1 : n.2 = true
  · simp only [if_pos c1]
    rw [impl_TokenOk_is h (by omega)]
    simp only [Option.bind_some]
    by_cases c2 : tokOk h = true
    · rw [if_pos ⟨c1, c2⟩, c2]
      simp only [Bool.not_true]
      refine ev_j (g := fun _ => some (lowT h ++ n.1 ++ (if (queryR (pathQ t).2).toList = [] then ⟨#[]⟩ else (⟨#[63]⟩ : ByteArray) ++ queryR (pathQ t).2), true)) (Ev.now _) (fun k => ?_)
      have eq2 : (⟨(Lib.cut t.data.toList (⟨#[63]⟩ : ByteArray).data.toList).2.1.toArray⟩ : ByteArray) = (pathQ t).2 := rfl
      simp only [impl_Key.j0]
      rw [if_neg (by simp), eq2, impl_SortedQuery_is]
      simp only [Option.bind_some]
      by_cases c3 : (queryR (pathQ t).2).toList = []
      · have e : queryR (pathQ t).2 = ⟨#[]⟩ := eq_of_toList (by rw [c3, toList_data])
        rw [if_pos c3, if_pos c3, hl]
        simp only [Option.bind_some]
        rw [if_pos (by omega), if_pos (by rw [ByteArray.size_append]; omega), e]
      · rw [if_neg c3, if_neg c3, if_pos (by omega), hl]
        simp only [Option.bind_some]
        rw [if_pos (by omega), if_pos (by rw [ByteArray.size_append, ByteArray.size_append, h63]; omega)]
    · rw [if_neg (fun x => c2 x.2)]
      rw [Bool.not_eq_true] at c2
      rw [c2]
      simp only [Bool.not_false]
      exact ev_j (g := fun _ => some (⟨#[]⟩, false)) (Ev.now _) (fun k => by simp only [impl_Key.j0]; rw [if_pos trivial])
  · simp only [if_neg c1]
    rw [if_neg (fun x => c1 x.1)]
    exact ev_j (g := fun _ => some (⟨#[]⟩, false)) (Ev.now _) (fun k => by simp only [impl_Key.j0]; rw [if_pos trivial])
theorem ba_assoc (a b c : ByteArray) : a ++ b ++ c = a ++ (b ++ c) := by
  apply ByteArray.ext
  simp [ByteArray.data_append]
theorem spec_Key_j1 (h p q : ByteArray) (hh : h.size ≤ 1048576) (n : ByteArray × Bool) (hn : Ev (fun k => spec_NormalPath.f k p) n) (hs : n.1.size ≤ 1000) : Ev (fun k => spec_Key.j1 k h p q) (keyR h n q) := by
  refine ev_j (g := fun k => (spec_NormalPath.f k p).bind fun bt101 => (if bt101.2 = true then ((spec_TokenOk.f k h).bind fun t103 => (spec_Key.j2 k h q bt101.1 (!t103))) else (spec_Key.j2 k h q bt101.1 true))) ?_ (fun k => by simp only [spec_Key.j1])
  refine Ev.bind hn ?_
  have q0 := query_size q
  have l0 := lowT_size h
  have hl : spec_Lower.f h = some (lowT h) := by unfold spec_Lower.f; rw [if_pos (by omega)]; rfl
  have h63 : (⟨#[63]⟩ : ByteArray).size = 1 := rfl
  unfold keyR
  by_cases c1 : n.2 = true
  · simp only [if_pos c1]
    refine Ev.bind (spec_TokenOk_ev h (by omega)) ?_
    by_cases c2 : tokOk h = true
    · rw [if_pos ⟨c1, c2⟩, c2]
      simp only [Bool.not_true]
      refine ev_j (g := fun k => (spec_SortedQuery.f k q).bind fun t104 => (if t104.toList = ([] : List UInt8) then ((spec_Lower.f h).bind fun t105 => (if t105.size + n.1.size ≤ 9223372036854775807 then (some (t105 ++ n.1, true)) else (none))) else (if n.1.size + 1 ≤ 9223372036854775807 then (if (n.1 ++ (⟨#[63]⟩ : ByteArray)).size + t104.size ≤ 9223372036854775807 then ((spec_Lower.f h).bind fun t106 => (if t106.size + ((n.1 ++ (⟨#[63]⟩ : ByteArray)) ++ t104).size ≤ 9223372036854775807 then (some (t106 ++ ((n.1 ++ (⟨#[63]⟩ : ByteArray)) ++ t104), true)) else (none))) else (none)) else (none)))) ?_ (fun k => by simp only [spec_Key.j2]; rw [if_neg (by simp)])
      refine Ev.bind (spec_SortedQuery_ev q) ?_
      by_cases c3 : (queryR q).toList = []
      · have e0 : lowT h ++ n.1 ++ (⟨#[]⟩ : ByteArray) = lowT h ++ n.1 := by apply ByteArray.ext; simp [ByteArray.data_append]
        simp only [if_pos c3]
        rw [hl, e0]
        simp only [Option.bind_some]
        have z : (lowT h).size + n.1.size ≤ 9223372036854775807 := by omega
        simp only [if_pos z]
        exact Ev.now _
      · simp only [if_neg c3]
        rw [hl]
        simp only [Option.bind_some]
        have z1 : n.1.size + 1 ≤ 9223372036854775807 := by omega
        have z2 : (n.1 ++ (⟨#[63]⟩ : ByteArray)).size + (queryR q).size ≤ 9223372036854775807 := by rw [ByteArray.size_append, h63]; omega
        have z3 : (lowT h).size + ((n.1 ++ (⟨#[63]⟩ : ByteArray)) ++ queryR q).size ≤ 9223372036854775807 := by rw [ByteArray.size_append, ByteArray.size_append, h63]; omega
        simp only [if_pos z1, if_pos z2, if_pos z3]
        have e : lowT h ++ ((n.1 ++ (⟨#[63]⟩ : ByteArray)) ++ queryR q) = lowT h ++ n.1 ++ ((⟨#[63]⟩ : ByteArray) ++ queryR q) := by rw [ba_assoc, ba_assoc]
        rw [e]
        exact Ev.now _
    · rw [if_neg (fun x => c2 x.2)]
      rw [Bool.not_eq_true] at c2
      rw [c2]
      simp only [Bool.not_false]
      exact ev_j (g := fun _ => some (⟨#[]⟩, false)) (Ev.now _) (fun k => by simp only [spec_Key.j2]; rw [if_pos trivial])
  · simp only [if_neg c1]
    rw [if_neg (fun x => c1 x.1)]
    exact ev_j (g := fun _ => some (⟨#[]⟩, false)) (Ev.now _) (fun k => by simp only [spec_Key.j2]; rw [if_pos trivial])
theorem cut_at (l : List UInt8) (i : Nat) (hi : i < l.length) (h0 : ∀ j (hj : j < i), l[j]'(by omega) ≠ 63) (h1 : l[i] = 63) : Lib.cut l [63] = (l.take i, l.drop (i + 1), true) := by
  induction l generalizing i with
  | nil => simp at hi
  | cons b l ih =>
    rw [cut_cons, pre_one]
    cases i with
    | zero =>
      have : b = 63 := h1
      subst this
      simp
    | succ i =>
      have hb : b ≠ 63 := h0 0 (by omega)
      rw [if_neg (by simpa using fun x => hb x.symm)]
      have := ih i (by simpa using hi) (fun j hj => by have := h0 (j + 1) (by omega); simpa using this) (by simpa using h1)
      rw [this]
      simp
theorem cut_none (l : List UInt8) (h0 : ∀ j (hj : j < l.length), l[j] ≠ 63) : Lib.cut l [63] = (l, [], false) := by
  induction l with
  | nil => exact cut_nil _ (by simp)
  | cons b l ih =>
    rw [cut_cons, pre_one]
    have hb : b ≠ 63 := h0 0 (by simp)
    rw [if_neg (by simpa using fun x => hb x.symm), ih (fun j hj => by have := h0 (j + 1) (by simp; omega); simpa using this)]
    simp
theorem spec_Key_loop (h t : ByteArray) (hh : h.size ≤ 1048576) (ht : t.size ≤ 1048576) (n : ByteArray × Bool) (hn : Ev (fun k => spec_NormalPath.f k (pathQ t).1) n) (hs : n.1.size ≤ 1000) (d : Nat) : ∀ (i : Nat), i + d = t.size → (∀ j (hj : j < i), bt t (j : Int) ≠ 63) →
    Ev (fun k => spec_Key.l0 k h t t ⟨#[]⟩ (i : Int)) (keyR h n (pathQ t).2) := by
  have hlen : t.data.toList.length = t.size := Array.length_toList
  have hbt : ∀ j (hj : j < t.data.toList.length), t.data.toList[j] = 63 ↔ bt t (j : Int) = 63 := fun j hj => by
    rw [bt_data t j hj]
    exact ⟨fun e => by rw [e]; rfl, fun e => UInt8.toNat_inj.1 (by have : (63 : UInt8).toNat = 63 := rfl; omega)⟩
  induction d with
  | zero =>
    intro i hd h0
    have hc := cut_none t.data.toList (fun j hj e => h0 j (by omega) ((hbt j hj).1 e))
    have e1 : (pathQ t).1 = t := by unfold pathQ; rw [hc]; exact ofL_data t
    have e2 : (pathQ t).2 = ⟨#[]⟩ := by unfold pathQ; rw [hc]; rfl
    rw [e1] at hn
    rw [e2]
    refine Ev.step (fun k => ?_) (spec_Key_j1 h t ⟨#[]⟩ hh n hn hs)
    simp only [spec_Key.l0]
    rw [if_neg (by omega)]
  | succ d ih =>
    intro i hd h0
    by_cases hb : bt t (i : Int) = 63
    · have hi : i < t.data.toList.length := by omega
      have hc := cut_at t.data.toList i hi (fun j hj e => h0 j hj ((hbt j (by omega)).1 e)) ((hbt i hi).2 hb)
      have e1 : (pathQ t).1 = t.extract 0 i := by unfold pathQ; rw [hc, extract_ofL]; simp
      have e2 : (pathQ t).2 = t.extract (i + 1) t.size := by
        unfold pathQ
        rw [hc]
        show ofL (t.data.toList.drop (i + 1)) = _
        rw [extract_ofL, List.take_of_length_le (by rw [List.length_drop]; omega)]
      rw [e1] at hn
      rw [e2]
      refine Ev.step (fun k => ?_) (spec_Key_j1 h (t.extract 0 i) (t.extract (i + 1) t.size) hh n hn hs)
      simp only [spec_Key.l0]
      rw [if_pos (by omega), if_pos (by omega), if_pos hb, if_pos (by omega), wrap_in (i := (i : Int) + 1) (by omega) (by omega), if_pos (by omega), if_pos (by omega), Int.toNat_natCast, show ((i : Int) + 1).toNat = i + 1 by omega]
    · refine Ev.step (fun k => ?_) (ih (i + 1) (by omega) (fun j hj => by
        by_cases c : j = i
        · subst c; exact hb
        · exact h0 j (by omega)))
      simp only [spec_Key.l0]
      rw [if_pos (by omega), if_pos (by omega), if_neg hb, wrap_in (i := (i : Int) + 1) (by omega) (by omega), show ((i : Int) + 1) = ((i + 1 : Nat) : Int) by omega]
theorem Key_both (h t : ByteArray) (hh : h.size ≤ 1048576) (ht : t.size ≤ 1048576) : ∃ r, Ev (fun k => spec_Key.f k h t) r ∧ Ev (fun k => impl_Key.f k h t) r := by
  obtain ⟨n, h1, h2, hs⟩ := NormalPath_all (pathQ t).1
  refine ⟨_, ?_, impl_Key_ev h t hh ht n h2 hs⟩
  unfold spec_Key.f
  exact spec_Key_loop h t hh ht n h1 hs t.size 0 (by omega) (fun j hj => by omega)
end Go.Proofs.YtonimccihcodnaaGreatDoor.Q
namespace Go.Proofs.YtonimccihcodnaaGreatDoor.Pure
set_option linter.unusedVariables false
set_option linter.unusedSimpArgs false
open Go.RowKit Go.Proofs.YtonimccihcodnaaGreatDoor.P Go.Proofs.YtonimccihcodnaaGreatDoor.Q Go.Proofs.YtonimccihcodnaaGreatDoorW.PrintWords
theorem FnExactKey : laws_FnExactKey.Pure := by
 intro a b ha hb
 by_cases c1 : (a.size : Int) > 1048576
 ·
  exact ⟨0, by unfold laws_FnExactKey.f; rw [if_pos c1]⟩
 by_cases c2 : (b.size : Int) > 1048576
 ·
  exact ⟨0, by unfold laws_FnExactKey.f; rw [if_neg c1, if_pos c2]⟩
 obtain ⟨r, ⟨K1, h1⟩, K2, h2⟩ := Key_both a b (by omega) (by omega)
 have w1 := h1 (K1 + K2) (by omega)
 have w2 := h2 (K1 + K2) (by omega)
 simp only at w1 w2
 refine ⟨K1 + K2, ?_⟩
 unfold laws_FnExactKey.f
 rw [if_neg c1, if_neg c2, w1, w2]
 simp
end Go.Proofs.YtonimccihcodnaaGreatDoor.Pure
namespace Go.Proofs.YtonimccihcodnaaGreatDoor.fnExactKey
open Go.ChangeShapes Go.WideShapes Go.ChangeAt Go.RowKit
open Go.ChangeMaps (open_string shut_string)
set_option linter.unusedVariables false
theorem own : ownKnob Tryz.prog.godebug = none := by kernel_rfl
set_option maxRecDepth 100000 in
theorem lifted (os : Os) (started : os.Started) (H : Type) (enc : TypeId × Value → H) :
    ReturnsInHanded {} Tryz.checked os 3 .any (fun w args => (Rows.fnExactKeySpec.pre enc Tryz.prog Tryz.f3 [] false w args ∧ laidMetH Tryz.prog Rows.fnExactKeyRow.laid w) ∧ sizedMet enc Tryz.prog Tryz.f3 (OpenSpec.ofChange Rows.fnExactKeySpec) false w args) (Rows.fnExactKeySpec.post enc Tryz.prog Tryz.f3 false true false false) := by
  refine RowAid.handed_both (C := Tryz.checked) (X := fun w _ => laidMetH Tryz.prog Rows.fnExactKeyRow.laid w) (fun _ _ _ hh h => h.of_heap hh) own started (by kernel_rfl) Tryz.func3
    (ChangeSpec.witness_shaped (enc := enc) (C := Tryz.checked) (os := os) (X := fun w _ => laidMetH Tryz.prog Rows.fnExactKeyRow.laid w) false (World.laidAll Tryz.prog os Rows.fnExactKeyRow.laid) #[.string ByteArray.empty, .string ByteArray.empty] 8 (World.laidAll_os _ _ _)
      (World.shaped_of_ZipB (by kernel_rfl) (by kernel_rfl)) (by kernel_rfl) (by kernel_rfl) (by kernel_rfl)
      (by rw [MakeChecks.laidMetH_plain _ _ _ (by kernel_rfl)]; exact laidMet_laidAll _ (by kernel_rfl) (by kernel_rfl))) ?_
  intro W base args ds gs before hval0 hW hcnd hsz0 hL hSh _
  have hsz : (DataW.weightsEach Tryz.prog (Tryz.f3.params.toList ++ Rows.fnExactKeySpec.plain.varTypes Tryz.prog) (ds ++ gs)).all (· ≤ reachBytes) = true := hsz0
  have hval : ∀ (j : Nat) t v, Tryz.f3.params[j]? = some t → args[j]? = some v → Value.okWide Tryz.prog W .any base t v := hval0
  have hW' := hW
  obtain ⟨p, q, hA0, hV, rfl, hfz, hnd⟩ := hW
  have hA : DataW.TrodAll enc Tryz.prog W 0 (fun _ => true) true Tryz.f3.params.toList args.toList ds p := hA0
  rw [Tryz.params3] at hA hval hsz
  obtain ⟨v0, vs0, d0, ds0, p0, q0, hargs, rfl, rfl, h0, r0⟩ := trodAll_cons hA
  obtain ⟨v1, vs1, d1, ds1, p1, q1, rfl, rfl, rfl, h1, r1⟩ := trodAll_cons r0
  obtain ⟨rfl, rfl, rfl⟩ := trodAll_nil r1
  obtain rfl : args = #[v0, v1] := by cases args; simp_all
  obtain ⟨rfl, rfl⟩ := trodVars_none hV
  obtain ⟨a0, rfl, rfl, rfl, y0⟩ := open_string Tryz.underlying9 (hval 0 9 v0 rfl rfl) h0
  have w0 : a0.size ≤ 140737488351232 := by
    have z := sized_string hsz (j := 0) (t := 9) rfl rfl
    rw [Array.length_toList] at z
    exact z
  obtain ⟨a1, rfl, rfl, rfl, y1⟩ := open_string Tryz.underlying9 (hval 1 9 v1 rfl rfl) h1
  have w1 : a1.size ≤ 140737488351232 := by
    have z := sized_string hsz (j := 1) (t := 9) rfl rfl
    rw [Array.length_toList] at z
    exact z
  clear hA0 hval0 hsz0 hsz
  have hXW := RowAid.xw_of (m := 1) hSh Rows.fnExactKeyRow.laid hL (by kernel_rfl) (fun h_ => absurd h_ (by decide)) (fun h_ => absurd h_ (by decide))
  refine (P.laws_FnExactKey.walk Pure.FnExactKey a0 a1 W hXW w0 w1).mono fun e W' ⟨he, bel⟩ => ?_
  subst he
  exact ⟨_, rfl, _, _, _, [], _, [], hW', trodAll_mk1 (shut_bool Tryz.underlying4 _), (trodAll_cons_mk (shut_string Tryz.underlying9 y0) (trodAll_cons_mk (shut_string Tryz.underlying9 y1) trodAll_mk0)), rfl, bel.frame _, fun h => by cases h⟩
theorem over : Rows.fnExactKeyRow.holds Tryz.pinned (OpenSpec.ofChange Rows.fnExactKeySpec) :=
  OpenClaim.holds_of_wide 3 Tryz.f3 rfl rfl rfl rfl rfl rfl rfl ⟨rfl, rfl, rfl, rfl, rfl⟩ rfl rfl rfl rfl rfl (by kernel_rfl) Tryz.func3 (by kernel_rfl)
    (of_decide_eq_true (by kernel_rfl)) (by unfold Func.isWrapper; first | (rw [if_pos (by decide +kernel)]; kernel_rfl) | (rw [if_neg (by decide +kernel)]; exact ⟨rfl, rfl⟩))
    (fun os started H enc _ => lifted os started H enc)
theorem proved : Rows.FnExactKeySaid := over
#print axioms proved
end Go.Proofs.YtonimccihcodnaaGreatDoor.fnExactKey
namespace Go.Proofs.YtonimccihcodnaaGreatDoor
/-- The tied card, under a short name, for the claim. -/
theorem fnExactKey_card : Rows.FnExactKeyCardSaid :=
  Claim7.holds_tied_plain_at .later [] [.data, .data, .data, .data, .sentinel, .sentinel, .pinned] true (true, "5d71cc010c7e5b103ca4b64b465079f0d9553a51a8e5b911972eab9e819bcd7f") true
    fnExactKey.proved (fun _ h => by cases h) (by kernel_rfl) (fun _ h => by cases h) fnExactKey_row_tie rfl ⟨rfl, rfl⟩ (by kernel_rfl) rfl
    (fun f fn hf hfn => by
      obtain rfl : f = 3 := Option.some.inj ((show Tryz.prog.funcNamed "loop.example/g00207/laws.FnExactKey" = some 3 by kernel_rfl).symm.trans hf) |>.symm
      obtain rfl : fn = Tryz.f3 := (Option.some.inj (Tryz.func3.symm.trans hfn)).symm
      exact ⟨by kernel_rfl, fun j t ht => by
        rw [Tryz.params3] at ht
        have hm : t ∈ [9, 9] := by simpa using Array.mem_of_getElem? ht
        have hall : ([9, 9].all fun u => !Tryz.prog.wantsStandIn u) = true := by kernel_rfl
        exact (show Tryz.prog.wantsStandIn t = false by simpa using List.all_eq_true.1 hall t hm)⟩)
    (by kernel_rfl)
#print axioms fnExactKey_card
end Go.Proofs.YtonimccihcodnaaGreatDoor
