/- Functions of the Go program as Lean functions, and proofs about them, merged out of this session's texts by its program bundle.py; conditions: those that each theorem states. -/
import Derived.Handed
import Derived.HandedShaped
import Derived.Laws.BytesArg
import Derived.Laws.Strings3
import Derived.Lib.AtoiErrMem
import Derived.Lib.ConvBytes
import Derived.Lib.Hide
import Derived.Lib.LaidTab
import Derived.Lib.SlBytesConst
import Derived.Lib.Strings
import Derived.Lib.Walk
import Derived.MakeChecks
import Derived.Shelf.SlicesE.DeleteFunc
import Derived.Shelf.SlicesE.IndexFunc
import Derived.Shelf.Sort.Plain
import Derived.Shelf.Vars
import Derived.Test.YtonimccihcodnaaGreatDoorGSplit
import Derived.Test.YtonimccihcodnaaGreatDoorP0
import Derived.Test.YtonimccihcodnaaGreatDoorPimplDotless
import Derived.Test.YtonimccihcodnaaGreatDoorPimplisDigit
import Derived.Test.YtonimccihcodnaaGreatDoorPimplisLetter
import Derived.Test.YtonimccihcodnaaGreatDoorPimplisPath
import Derived.Test.YtonimccihcodnaaGreatDoorProg
import Derived.Test.YtonimccihcodnaaGreatDoorPspecDotless
import Derived.Test.YtonimccihcodnaaGreatDoorPspecUncoded
import Derived.Test.YtonimccihcodnaaGreatDoorPspecl1Below
import Derived.Test.YtonimccihcodnaaGreatDoorPspecl1DrawText
import Derived.Test.YtonimccihcodnaaGreatDoorPspecl1New
import Derived.Test.YtonimccihcodnaaGreatDoorPspecl1Once
import Derived.Test.YtonimccihcodnaaGreatDoorPspecl3Coded
import Derived.Test.YtonimccihcodnaaGreatDoorPspecl3Path
import Derived.Test.YtonimccihcodnaaGreatDoorPspecl3Sorted
import Derived.Test.YtonimccihcodnaaGreatDoorPspecl3Split
import Derived.Test.YtonimccihcodnaaGreatDoorShelf
import Derived.Test.YtonimccihcodnaaGreatDoorXA
import Derived.Test.YtonimccihcodnaaGreatDoorXW
namespace Go.Proofs.YtonimccihcodnaaGreatDoor.RowAid
open Go
variable {H : Type} {enc : TypeId × Value → H}
theorem handed_both {a : Assume} {C : Checked} {os : Os} {f : FuncId} {fn : Func} {s : ChangeSpec} {conds : List PathCond} {apart fresh handsOn again : Bool} {X : World → Array Value → Prop}
    (hX : ∀ (w w' : World) (args : Array Value), w.heap = w'.heap → X w args → X w' args)
    (own : ownKnob C.prog.godebug = none) (started : os.Started) (noInit : C.prog.inits.idxOf? f = none) (hfn : C.prog.funcs[f]? = some fn)
    (witness : ∃ (w : World) (tape : Tape) (i : Input), w.os = os ∧ (w.forCall tape i).Shaped C.prog ∧ i.vars = [] ∧ Input.okWide C.prog (w.forCall tape i) .any w.heap.size f i ∧
      ((s.pre enc C.prog fn conds apart (w.forCall tape i).memory i.args ∧ X (w.forCall tape i).memory i.args) ∧ sizedMet enc C.prog fn (OpenSpec.ofChange s) apart (w.forCall tape i).memory i.args) ∧ a.holds C.prog (lone (Frame.enter C.prog f i.args .normal) [] (w.forCall tape i)))
    (contract : ∀ (W : World) (base : Nat) (args : Array Value) (ds gs : List (DataW H)) (before : List MemPlace),
      (∀ (j : Nat) t v, fn.params[j]? = some t → args[j]? = some v → Value.okWide C.prog W .any base t v) →
      DataW.Whole enc C.prog fn.params.toList s.vars apart W args.toList ds gs before →
      conds.all (PathCond.test C.prog ⟨fn.params.toList, ds, s.plain.varTypes C.prog, gs⟩) = true →
      (DataW.weightsEach C.prog (fn.params.toList ++ s.plain.varTypes C.prog) (ds ++ gs)).all (· ≤ reachBytes) = true → X W args → W.ShapedOpen C.prog →
      a.holds C.prog (lone (Frame.enter C.prog f args .normal) [] W) →
      Calls C.prog f args W fun e W' => ∃ v, e = .returned v ∧ s.post enc C.prog fn apart fresh handsOn again W args v W') :
    ReturnsInHanded a C os f .any (fun w args => (s.pre enc C.prog fn conds apart w args ∧ X w args) ∧ sizedMet enc C.prog fn (OpenSpec.ofChange s) apart w args) (s.post enc C.prog fn apart fresh handsOn again) := by
  refine returnsInHanded_of_calls own started noInit witness ?_
  intro w tape i _ hsh _ hok hpre hholds
  obtain ⟨_, _, _, fn', hfn', _, _, _, _, hval⟩ := hok
  have e : fn' = fn := Option.some.inj (hfn'.symm.trans hfn)
  subst e
  obtain ⟨⟨⟨ds, gs, before, hw, hc⟩, hx⟩, hz⟩ := hpre
  have hw' := DataW.Whole.of_heap (w' := w.forCall tape i) (by rfl) hw
  refine (contract (w.forCall tape i) w.heap.size i.args ds gs before hval hw' hc (hz.weights hw) (hX _ _ _ (by rfl) hx) hsh hholds).mono fun e W' ⟨v, he, hp⟩ => ?_
  subst he
  exact ChangeSpec.post_blind hp
end Go.Proofs.YtonimccihcodnaaGreatDoor.RowAid
namespace Go.Proofs.YtonimccihcodnaaGreatDoor.RowAid
open Go

/-- What a list lays a variable with. -/
def laysAs (laid : List (String × DataW Unit)) (name : String) : Option (DataW Unit) :=
  match laid with
  | [] => none
  | x :: r => if x.1 = name then some x.2 else laysAs r name
theorem tabIs_mem {P : Program} {W : World} {name : String} {k : IntKind} {zs : List Int} {g : Nat} {t e : TypeId} {n : Nat}
    (hg : P.globalNamed name = some g) (hty : (P.globals[g]?).map (·.type) = some t) (ht : P.underlying t = some (.array n e)) (he : P.underlying e = some (.int k)) (hce : P.cellsOf e = 1) (hct : P.cellsOf t = n) :
    ∀ (laid : List (String × DataW Unit)) (ps : List MemPlace), DataW.LaidVars P W laid ps → laysAs laid name = some (Lib.tabData k zs) → Lib.TabIs P W name k zs := by
  intro laid
  induction laid with
  | nil => intro ps _ h; cases h
  | cons x r ih =>
    intro ps hl hm
    obtain ⟨nm, d⟩ := x
    obtain ⟨g', t', cs, fuel, p, q, hg', ht', hvar, hd, hr, _⟩ := hl
    unfold laysAs at hm
    by_cases hn : nm = name
    · subst hn
      rw [if_pos rfl] at hm
      obtain rfl : d = Lib.tabData k zs := Option.some.inj hm
      obtain rfl := Option.some.inj (hg.symm.trans hg')
      obtain rfl := Option.some.inj (hty.symm.trans ht')
      unfold Lib.TabIs
      rw [hvar, ← Lib.cells_of_tab ht he hce hct hd]
    · rw [if_neg hn] at hm
      exact ih q hr hm
theorem xw_of {m : Nat} {W : World} (hS : W.ShapedOpen Tryz.prog) (laid : List (String × DataW Unit)) (hL : laidMetH Tryz.prog laid W) (hp : (laid.all fun x => x.2.handleName?.isNone) = true)
    (h10 : m / 2 % 2 = 1 → laysAs laid "internal/strconv.uint64pow10" = some (Lib.tabData .u64 Lib.pow10Tab)) (htz : m / 4 % 2 = 1 → laysAs laid "math/bits.deBruijn64tab" = some (Lib.tabData .u8 P.deBruijn64Tab)) : P.XW m W := by
  rw [MakeChecks.laidMetH_plain _ _ _ hp] at hL
  obtain ⟨ps, hv, _⟩ := hL
  unfold P.XW
  refine ⟨fun _ => cell_of_shapedOpen_int (zero := #[.int .i64 0]) (t := 3) hS (of_decide_eq_true (by kernel_rfl)) (by kernel_rfl) rfl (by kernel_rfl) (by kernel_rfl) Tryz.underlying3, ?_⟩
  refine ⟨fun h => tabIs_mem (g := 5) (n := 20) (by kernel_rfl) rfl (by kernel_rfl) Tryz.underlying86 (by kernel_rfl) (by kernel_rfl) laid ps hv (h10 h), ?_⟩
  refine ⟨fun h => tabIs_mem (g := 7) (n := 64) (by kernel_rfl) rfl (by kernel_rfl) Tryz.underlying5 (by kernel_rfl) (by kernel_rfl) laid ps hv (htz h), ?_⟩
  trivial
end Go.Proofs.YtonimccihcodnaaGreatDoor.RowAid
namespace Go.Proofs.YtonimccihcodnaaGreatDoor.P
set_option linter.unusedVariables false
set_option linter.unusedSimpArgs false
open Go.RowKit Go.Lib Go.Sort Go.Proofs.YtonimccihcodnaaGreatDoorW.PrintWords Go.Proofs.YtonimccihcodnaaGreatDoorW.PrintLast Go.Proofs.YtonimccihcodnaaGreatDoorW.PrintMore
attribute [local go_sem] max2_int min2_int max_two min_two max_three min_three max_four min_four

def keptL (s : ByteArray) : List (List UInt8) := ((Lib.splitB ⟨#[38]⟩ 0 (Lib.countB s ⟨#[38]⟩) s).map (·.data.toList)).filter fun x => !(x == [])
def sortedL (s : ByteArray) : List (List UInt8) := (keptL s).mergeSort fun x y => decide (x ≤ y)
def impl_SortedQuery.f (a0 : ByteArray) : Option ByteArray := if a0.size > 200 then some ⟨#[]⟩ else some ⟨(Lib.join (sortedL a0) [38]).toArray⟩
theorem query_empty (l : List UInt8) (w : World) : Calls Tryz.prog 24 #[.string ⟨l.toArray⟩] w fun e w' => e = .returned (.bool (l == [])) ∧ w' = w := by
  cases l with
  | nil =>
    have h : (⟨([] : List UInt8).toArray⟩ : ByteArray).toList.isEmpty = true := by rw [ByteArray.toList_eq]; rfl
    go_enter Tryz.func24, Tryz.ntmps24
    go_wp2
    go_ret
    exact ⟨rfl, rfl⟩
  | cons b l =>
    have h : (⟨(b :: l).toArray⟩ : ByteArray).toList.isEmpty = false := by rw [ByteArray.toList_eq]; rfl
    have h2 : ((⟨(b :: l).toArray⟩ : ByteArray).toList == ([] : List UInt8)) = false := by rw [ByteArray.toList_eq]; rfl
    go_enter Tryz.func24, Tryz.ntmps24
    go_wp2
    go_ret
    exact ⟨by simp_all, rfl⟩
theorem query_gives (l : List UInt8) (W : World) : FnGives Tryz.prog 24 #[] #[encStr l] (.bool (l == [])) W := by
  refine (query_empty l W).mono ?_
  rintro e w' ⟨rfl, rfl⟩
  exact ⟨rfl, 0, rfl⟩
theorem join_len_le (l : List (List UInt8)) (sep : List UInt8) : (Lib.join l sep).length ≤ (l.map fun x => x.length + sep.length).sum := by
  cases l with
  | nil => exact Nat.zero_le _
  | cons a l =>
    rw [Lib.join_cons, List.length_append, List.map_cons, List.sum_cons]
    have : (Lib.joinTail sep l).length = (l.map fun x => x.length + sep.length).sum := by
      unfold Lib.joinTail
      induction l with
      | nil => rfl
      | cons b l ih => rw [List.map_cons, List.flatten_cons, List.length_append, ih, List.map_cons, List.sum_cons, List.length_append]; omega
    omega
theorem sum_filter_le (p : List UInt8 → Bool) (g : List UInt8 → Nat) (l : List (List UInt8)) : ((l.filter p).map g).sum ≤ (l.map g).sum := by
  induction l with
  | nil => exact Nat.le_refl _
  | cons a l ih =>
    rw [List.filter_cons]
    split
    · simp only [List.map_cons, List.sum_cons]; omega
    · simp only [List.map_cons, List.sum_cons]; omega
theorem splitK_sum (sep : List UInt8) : ∀ (k : Nat) (s : List UInt8), ((Lib.splitK sep 0 k s).map List.length).sum ≤ s.length
  | 0, s => by simp [Lib.splitK]
  | k + 1, s => by
    unfold Lib.splitK
    split
    · simp
    · simp only [List.map_cons, List.sum_cons, List.length_take]
      have := splitK_sum sep k (s.drop ((Lib.index s sep).toNat + sep.length))
      rw [List.length_drop] at this
      omega
theorem sum_one (l : List (List UInt8)) : (l.map fun x => x.length + 1).sum = (l.map List.length).sum + l.length := by
  induction l with
  | nil => rfl
  | cons a l ih => simp only [List.map_cons, List.sum_cons, List.length_cons, ih]; omega
theorem sorted_len (s : ByteArray) (hs : s.size ≤ 200) : (Lib.join (sortedL s) [38]).length ≤ 401 := by
  have h1 := join_len_le (sortedL s) [38]
  have h2 : ((sortedL s).map fun x => x.length + ([38] : List UInt8).length).sum = ((keptL s).map fun x => x.length + 1).sum := ((List.mergeSort_perm _ _).map _).sum_nat
  have h3 := sum_filter_le (fun x => !(x == [])) (fun x => x.length + 1) ((Lib.splitB ⟨#[38]⟩ 0 (Lib.countB s ⟨#[38]⟩) s).map (·.data.toList))
  rw [sum_one ((Lib.splitB ⟨#[38]⟩ 0 (Lib.countB s ⟨#[38]⟩) s).map (·.data.toList)), List.length_map, Lib.splitB_data] at h3
  have h4 := splitK_sum (⟨#[38]⟩ : ByteArray).data.toList (Lib.countB s ⟨#[38]⟩) s.data.toList
  have h5 := Lib.splitB_length_le ⟨#[38]⟩ 0 (Lib.countB s ⟨#[38]⟩) s
  have h6 := Lib.countB_le ⟨#[38]⟩ (by decide) s.size s (Nat.le_refl _)
  have h7 : s.data.toList.length = s.size := Array.length_toList
  unfold keptL at h2
  rw [Lib.splitB_data] at h2
  omega
theorem below_put {w W : World} (h : Below w.heap.size w W) (enc : List UInt8 → Value) (n b off : Nat) (d : Array (List UInt8)) (hb : w.heap.size ≤ b) : Below w.heap.size w (putRow enc (Go.Sort.ahead W n) b off d) := by
  refine ⟨h.os, h.tape, h.output, by rw [size_putRow]; exact h.size, fun j hj => ?_⟩
  rw [← h.block j hj]
  show (W.heap.modify b _)[j]? = _
  rw [Array.getElem?_modify, if_neg (by omega)]
theorem below_growS {w W : World} (h : Below w.heap.size w W) (os : Array Obj) : Below w.heap.size w (grow W os) := by
  refine ⟨h.os, h.tape, h.output, by rw [size_grow]; exact Nat.le_trans h.size (Nat.le_add_right _ _), fun j hj => ?_⟩
  rw [← h.block j hj]
  exact heap_grow_old W os (Nat.lt_of_lt_of_le hj h.size)
theorem arr_get (l : List (List UInt8)) (j : Nat) (h : j < l.length) : l.toArray[j]! = l[j] := by
  rw [getElem!_pos l.toArray j (by simpa using h)]
  simp
theorem holds_prefix {W : World} {b : Nat} {a r : List (List UInt8)} (h : Holds encStr W b 0 (a ++ r).toArray) : Holds encStr W b 0 a.toArray := by
  intro j hj
  have hj1 : j < a.length := by simpa using hj
  have h2 := h j (by rw [List.size_toArray, List.length_append]; omega)
  rw [arr_get _ _ (by rw [List.length_append]; omega), List.getElem_append_left hj1] at h2
  rw [arr_get _ _ hj1]
  exact h2
theorem cells_of_holds {W : World} {b : Nat} {l : List (List UInt8)} (h : Holds encStr W b 0 l.toArray) (j : Nat) (x : ByteArray) (hx : (l.map fun l => (⟨l.toArray⟩ : ByteArray))[j]? = some x) : W.cell? ⟨b, 0 + j, none⟩ = some (.string x) := by
  rw [List.getElem?_map] at hx
  obtain ⟨y, hy, rfl⟩ := Option.map_eq_some_iff.1 hx
  have hj : j < l.length := (List.getElem?_eq_some_iff.1 hy).1
  rw [(h j (by simpa using hj)).1, arr_get _ _ hj, (List.getElem?_eq_some_iff.1 hy).2]
set_option maxHeartbeats 4000000 in
set_option maxRecDepth 100000 in
theorem impl_SortedQuery.calls (a0 : ByteArray) (r : ByteArray) (w : World) (hX : XW 1 w) (h : impl_SortedQuery.f a0 = some r) :
    Calls Tryz.prog 9 #[.string a0] w fun e w' => e = .returned (.string r) ∧ Below w.heap.size w w' := by
  unfold impl_SortedQuery.f at h
  by_cases hz : a0.size > 200
  · rw [if_pos hz] at h
    obtain rfl := Option.some.inj h
    have hz1 : decide ((200 : Int) < (a0.size : Int)) = true := decide_eq_true (by omega)
    have hz2 : decide (200 < a0.size) = true := decide_eq_true hz
    go_enter Tryz.func9, Tryz.ntmps9
    go_wp2
    go_ret
    exact ⟨rfl, Below.refl _ _⟩
  · rw [if_neg hz] at h
    obtain rfl := Option.some.inj h
    have hz1 : decide ((200 : Int) < (a0.size : Int)) = false := decide_eq_false (by omega)
    have hz2 : decide (200 < a0.size) = false := decide_eq_false hz
    have hlen := sorted_len a0 (by omega)
    obtain ⟨v, hv⟩ := hX.maxLen rfl
    have CS := Tryz.strings_Split a0 ⟨#[38]⟩ v w (by omega) hv (by decide)
    have hl := split_len a0 ⟨#[38]⟩ (by decide)
    have h6 := Lib.countB_le ⟨#[38]⟩ (by decide) a0.size a0 (Nat.le_refl _)
    rw [← hl] at CS
    have hkeep : keptL a0 = ((Lib.splitB ⟨#[38]⟩ 0 (Lib.countB a0 ⟨#[38]⟩) a0).map (·.data.toList)).filter fun x => !(x == []) := rfl
    have hlen2 : (Lib.splitB ⟨#[38]⟩ 0 (Lib.countB a0 ⟨#[38]⟩) a0).length ≤ 201 := by omega
    generalize Lib.splitB ⟨#[38]⟩ 0 (Lib.countB a0 ⟨#[38]⟩) a0 = ps at CS hkeep hlen2
    clear hl
    have hmap : (ps.map Value.string).toArray = (((ps.map (·.data.toList)).map encStr).toArray) := by
      rw [List.map_map]
      congr 1
    obtain ⟨d, hd⟩ : ∃ d : Array (List UInt8), d = (ps.map (·.data.toList)).toArray := ⟨_, rfl⟩
    have hdl : d.toList = ps.map (·.data.toList) := by rw [hd]
    have hds : d.size = ps.length := by rw [hd]; simp
    have H1 : Holds encStr (w.alloc (.cells (ps.map Value.string).toArray 9)) w.heap.size 0 d := by
      intro j hj
      have hb := blk_new w (.cells (ps.map Value.string).toArray 9 (0, 0))
      refine ⟨?_, blk_frozen hb _⟩
      rw [blk_cell hb, hmap, hd, Nat.zero_add]
      have hj2 : j < (ps.map (·.data.toList)).length := by rw [List.length_map]; omega
      rw [List.getElem?_toArray, List.getElem?_map, List.getElem?_eq_getElem hj2, Option.map_some]
      congr 2
      rw [getElem!_pos _ _ (by simpa using hj2)]
      rfl
    have CD := fun W (hW : Holds encStr W w.heap.size 0 d) => Tryz.slices_DeleteFunc (α := List UInt8) encStr (fun _ => rfl) (fun l => l == []) 24 #[] (enters_ Tryz.func24 (by kernel_rfl) rfl) [] (fun _ => by kernel_rfl) w.heap.size 0 d.size d W (fun W' x _ => query_gives x W') (fun n os dk x _ => query_gives x _) hW (by omega) (Nat.le_refl _)
    rw [hdl, ← hkeep, hds] at CD
    have hkl : (keptL a0).length ≤ ps.length := by
      rw [hkeep]
      have := List.length_filter_le (fun x => !(x == [])) (ps.map (·.data.toList))
      rwa [List.length_map] at this
    have CD1 := (CD _ H1).mono (R' := fun e w2 => e = .returned (.slice (some ⟨w.heap.size, 0, none⟩) (keptL a0).length ps.length) ∧ (Holds encStr w2 w.heap.size 0 (keptL a0).toArray ∧ Below w.heap.size w w2 ∧ w.heap.size < w2.heap.size)) (by
      rintro e w2 ⟨rfl, q, rfl⟩
      have hsz : ((keptL a0) ++ List.replicate (ps.length - (keptL a0).length) []).toArray.size = d.size := by rw [hds]; simp; omega
      have HP := holds_putRow encStr (Go.Sort.ahead (w.alloc (.cells (ps.map Value.string).toArray 9)) q) w.heap.size 0 d ((keptL a0) ++ List.replicate (ps.length - (keptL a0).length) []).toArray H1 hsz
      exact ⟨rfl, holds_prefix HP, below_put (below_alloc (Below.refl _ _) _) _ _ _ _ _ (Nat.le_refl _), by rw [size_putRow]; show _ < (w.alloc _).heap.size; simp⟩)
    have hsl : (sortedL a0).length = (keptL a0).length := (List.mergeSort_perm _ _).length_eq
    have CO := fun W (hW : Holds encStr W w.heap.size 0 (keptL a0).toArray) (hB : Below w.heap.size w W) (hb : w.heap.size < W.heap.size) => (Tryz.slices_Sort_string w.heap.size 0 ps.length (keptL a0) W hW hb (by omega)).mono (R' := fun e w3 => e = .returned (.tuple #[]) ∧ ((∀ (j : Nat) x, ((sortedL a0).map fun l => (⟨l.toArray⟩ : ByteArray))[j]? = some x → w3.cell? ⟨w.heap.size, 0 + j, none⟩ = some (.string x)) ∧ Below w.heap.size w w3 ∧ w.heap.size < w3.heap.size)) (by
      rintro e w3 ⟨rfl, n, os, rfl⟩
      have hsz : ((keptL a0).mergeSort (fun x y => decide (x ≤ y))).toArray.size = (keptL a0).toArray.size := by simp
      have HP := holds_putRow encStr (Go.Sort.ahead W n) w.heap.size 0 (keptL a0).toArray ((keptL a0).mergeSort (fun x y => decide (x ≤ y))).toArray hW hsz
      have HG := holds_grow encStr _ os w.heap.size 0 _ (by rw [size_putRow]; exact hb) HP
      exact ⟨rfl, cells_of_holds HG, below_growS (below_put hB _ _ _ _ _ (Nat.le_refl _)) _, by rw [size_grow, size_putRow]; show _ < W.heap.size + _; omega⟩)
    have CJ := fun W (hc : ∀ (j : Nat) x, ((sortedL a0).map fun l => (⟨l.toArray⟩ : ByteArray))[j]? = some x → W.cell? ⟨w.heap.size, 0 + j, none⟩ = some (.string x)) (hb : w.heap.size < W.heap.size) => Tryz.strings_Join w.heap.size 0 ps.length ((sortedL a0).map fun l => (⟨l.toArray⟩ : ByteArray)) ⟨#[38]⟩ W hc hb (by rw [List.length_map]; omega) (by rw [List.length_map]; omega) (by
      rw [List.map_map]
      have : (List.map ((fun x => x.data.toList) ∘ fun l => (⟨l.toArray⟩ : ByteArray)) (sortedL a0)) = sortedL a0 := (List.map_congr_left fun _ _ => rfl).trans (List.map_id _)
      rw [this]
      show (Lib.join (sortedL a0) [38]).length ≤ _
      omega)
    have hjm : (((sortedL a0).map fun l => (⟨l.toArray⟩ : ByteArray)).map (·.data.toList)) = sortedL a0 := by
      rw [List.map_map]
      exact (List.map_congr_left fun _ _ => rfl).trans (List.map_id _)
    have hjl : ((sortedL a0).map fun l => (⟨l.toArray⟩ : ByteArray)).length = (keptL a0).length := by rw [List.length_map, hsl]
    rw [hjl, hjm] at CJ
    have hj3 : (⟨#[38]⟩ : ByteArray).data.toList = [38] := rfl
    rw [hj3] at CJ
    generalize ((sortedL a0).map fun l => (⟨l.toArray⟩ : ByteArray)) = sl at CO CJ
    generalize (keptL a0).length = kn at CD1 CO CJ
    have XD := Aside0.mk CD1
    have XO := Aside0.mk CO
    have XJ := Aside0.mk CJ
    have XS := Aside0.mk CS
    clear CD CD1 CO CJ CS hjm hjl hj3 hsl hkl H1 hdl hds hmap hkeep hlen hlen2 h6 hv
    go_enter Tryz.func9, Tryz.ntmps9
    go_wp2_with (first
      | (go_at_call 23; refine XS.out.mono ?_; rintro e w1 ⟨rfl, rfl⟩)
      | (go_at_call 22; refine XD.out.mono ?_; rintro e w2 ⟨rfl, hh2, hb2, hs2⟩; have K2 := Aside0.mk (And.intro hh2 (And.intro hb2 hs2)); clear hh2 hb2 hs2)
      | (go_at_call 25; refine (XO.out _ K2.out.1 K2.out.2.1 K2.out.2.2).mono ?_; rintro e w3 ⟨rfl, hh3, hb3, hs3⟩; have K3 := Aside0.mk (And.intro hh3 (And.intro hb3 hs3)); clear hh3 hb3 hs3)
      | (go_at_call 26; refine (XJ.out _ K3.out.1 K3.out.2.2).mono ?_; rintro e w4 ⟨rfl, hb4⟩))
    go_ret
    exact ⟨rfl, below_then K3.out.2.1 K3.out.2.1.size hb4⟩
end Go.Proofs.YtonimccihcodnaaGreatDoor.P
namespace Go.Proofs.YtonimccihcodnaaGreatDoor.P
open Go.RowKit Go.Proofs.YtonimccihcodnaaGreatDoorW.PrintWords Go.Proofs.YtonimccihcodnaaGreatDoorW.PrintLast Go.Proofs.YtonimccihcodnaaGreatDoorW.PrintMore

def strings_Cut.f (a0 a1 : ByteArray) : Option (ByteArray × ByteArray × Bool) :=
  if a0.size < 4294967281 then some (⟨(Lib.cut a0.data.toList a1.data.toList).1.toArray⟩, ⟨(Lib.cut a0.data.toList a1.data.toList).2.1.toArray⟩, (Lib.cut a0.data.toList a1.data.toList).2.2) else none
theorem strings_Cut.calls (a0 a1 r1 r2 : ByteArray) (r3 : Bool) (w : World) (hX : XW 1 w) (h : strings_Cut.f a0 a1 = some (r1, r2, r3)) :
    Calls Tryz.prog 16 #[.string a0, .string a1] w fun e w' => e = .returned (.tuple #[.string r1, .string r2, .bool r3]) ∧ Below w.heap.size w w' := by
  unfold strings_Cut.f at h
  split at h
  · rename_i hs
    simp only [Option.some.injEq, Prod.mk.injEq] at h
    obtain ⟨rfl, rfl, rfl⟩ := h
    obtain ⟨v, hv⟩ := hX.maxLen rfl
    refine (Tryz.strings_Cut a0 a1 v w hs hv).mono ?_
    rintro e w' ⟨rfl, n, rfl⟩
    exact ⟨rfl, pw_below_drewN (Below.refl _ _) n⟩
  · cases h
end Go.Proofs.YtonimccihcodnaaGreatDoor.P
namespace Go.Proofs.YtonimccihcodnaaGreatDoor.P
set_option linter.unusedVariables false
set_option linter.unusedSimpArgs false
open Go.RowKit Go.Lib Go.Proofs.YtonimccihcodnaaGreatDoorW.PrintWords Go.Proofs.YtonimccihcodnaaGreatDoorW.PrintLast Go.Proofs.YtonimccihcodnaaGreatDoorW.PrintMore

/-- A great letter made small. -/
def low8 (c : Int) : Int := if 65 ≤ c then (if c ≤ 90 then c + 32 else c) else c
/-- The bytes behind k rounds. -/
def lowAt (s : ByteArray) (k j : Nat) : Int := if j < k then low8 (bt s j) else bt s j
theorem lowAt_next (s : ByteArray) (k j : Nat) (h : j ≠ k) : lowAt s (k + 1) j = lowAt s k j := by
  unfold lowAt
  by_cases h1 : j < k
  · rw [if_pos h1, if_pos (by omega)]
  · rw [if_neg h1, if_neg (by omega)]
theorem lowAt_here (s : ByteArray) (k : Nat) : lowAt s (k + 1) k = low8 (bt s k) := by unfold lowAt; rw [if_pos (by omega)]
theorem lowAt_now (s : ByteArray) (k : Nat) : lowAt s k k = bt s k := by unfold lowAt; rw [if_neg (by omega)]
def LowCells (w wr : World) (s : ByteArray) (k : Nat) : Prop :=
  (∀ j, j < s.size → wr.cell? ⟨w.heap.size, j, none⟩ = some (.int .u8 (lowAt s k j))) ∧ (∀ j, j < s.size → wr.frozen? ⟨w.heap.size, j, none⟩ = false) ∧ Below w.heap.size w wr
theorem LowCells.start (w : World) (s : ByteArray) : LowCells w (bytesWorld w 5 s) s 0 := by
  refine ⟨fun j hj => ?_, fun j hj => ?_, ?_⟩
  · rw [bytesWorld_cell w 5 s j hj]
    have : bt s j = ((s.data.toList.getD j 0).toNat : Int) := by
      rw [← rd_bytesOf]
      have h' : j < s.data.toList.length := by rw [data_length]; exact hj
      simp [rd, bytesOf, List.getD_eq_getElem?_getD, List.getElem?_eq_getElem h']
    rw [← this]
    rfl
  · have hz : s.size ≤ (bytesCells w 5 s).size := by simp only [bytesCells, Array.size_append, Array.size_map]; exact Nat.le_add_right _ _
    simp [World.frozen?, bytesWorld_at_new]
    omega
  · exact bytes_below (Below.refl _ w) (Nat.le_refl _) 5 s
theorem LowCells.skip {w wr : World} {s : ByteArray} {k : Nat} (h : LowCells w wr s k) (hk : k < s.size) (e : low8 (bt s k) = bt s k) : LowCells w wr s (k + 1) :=
  ⟨fun j hj => by
    by_cases h1 : j = k
    · subst h1
      rw [h.1 j hj, lowAt_here, lowAt_now, e]
    · rw [lowAt_next s k j h1, h.1 j hj], h.2.1, h.2.2⟩
theorem LowCells.put {w wr : World} {s : ByteArray} {k : Nat} (h : LowCells w wr s k) (hk : k < s.size) (c : Int) (e : low8 (bt s k) = c) : LowCells w (wr.setCell ⟨w.heap.size, k, none⟩ (.int .u8 c)) s (k + 1) :=
  ⟨fun j hj => by
    by_cases h1 : j = k
    · subst h1
      rw [World.cell?_setCell_same _ _ _ (h.1 j hj), lowAt_here, e]
    · rw [World.cell?_setCell_other _ _ _ _ (by intro e2; injection e2 with _ e3; exact h1 e3.symm), lowAt_next s k j h1, h.1 j hj],
   fun j hj => by rw [World.frozen?_setCell]; exact h.2.1 j hj, h.2.2.setCell (Nat.le_refl _) _⟩
theorem LowCells.done {w wr : World} {s : ByteArray} {k : Nat} (h : LowCells w wr s k) (hk : s.size ≤ k) (j : Nat) (hj : j < s.size) : wr.cell? ⟨w.heap.size, 0 + j, none⟩ = some (.int .u8 (((bytesOf s).map low8).getD j 0)) := by
  rw [Nat.zero_add, h.1 j hj]
  have h1 : j < (bytesOf s).length := by rw [bytesOf_length]; exact hj
  unfold lowAt
  rw [if_pos (by omega), ← rd_bytesOf]
  simp [rd, List.getD_eq_getElem?_getD, List.getElem?_eq_getElem h1]

set_option maxHeartbeats 1000000 in
theorem impl_Lower_any (s : ByteArray) (w : World) (hs : s.size ≤ 9223372036854775807) :
    Calls Tryz.prog 19 #[.string s] w fun e w' => e = .returned (.string (strOfNums ((bytesOf s).map low8))) ∧ Below w.heap.size w w' := by
  have kc := fun W : World => Lib.run_convert_string_bytes (P := Tryz.prog) W 9 25 5 s Tryz.underlying9 Tryz.underlying25 Tryz.underlying5
  have hmap : ((bytesOf s).map low8).length = s.size := by rw [List.length_map, bytesOf_length]
  have H0 := Lib.hid hmap
  clear hmap
  have S0 := Lib.hid (LowCells.start w s)
  go_enter Tryz.func19, Tryz.ntmps19
  go_wp2
  go_loopw [10] (fun i wr => ∃ k : Nat, k ≤ s.size ∧ i = .int .i64 k ∧ Aside (LowCells w wr s k)) (fun i _ => s.size - (intOf i).toNat)
  case atStart => exact ⟨0, Nat.zero_le _, rfl, S0.out⟩
  case round =>
    obtain ⟨k, hk, rfl, A⟩ := hrel
    by_cases hlt : k < s.size
    · have hcell := A.out.1 k hlt
      rw [lowAt_now] at hcell
      have hfro := A.out.2.1 k hlt
      have hr := bt_range s k
      obtain ⟨c, hc⟩ : ∃ c, bt s k = c := ⟨_, rfl⟩
      rw [hc] at hcell hr
      have HC := Lib.hid hc
      clear hc
      obtain ⟨hr0, hr1⟩ := hr
      have hltz : (k : Int) < (s.size : Int) := by omega
      by_cases h1 : (65 : Int) ≤ c
      · by_cases h2 : c ≤ 90
        · go_wp2
          go_roundw
          case rel => exact ⟨k + 1, by omega, by go_num, show Aside _ from A.out.put hlt _ (by rw [HC.out]; unfold low8; rw [if_pos h1, if_pos h2]; omega)⟩
          case measure => simp [intOf]; omega
        · go_wp2
          go_roundw
          case rel => exact ⟨k + 1, by omega, by go_num, show Aside _ from A.out.skip hlt (by rw [HC.out]; unfold low8; rw [if_pos h1, if_neg h2])⟩
          case measure => simp [intOf]; omega
      · go_wp2
        go_roundw
        case rel => exact ⟨k + 1, by omega, by go_num, show Aside _ from A.out.skip hlt (by rw [HC.out]; unfold low8; rw [if_neg h1])⟩
        case measure => simp [intOf]; omega
    · have hltz : ¬ (k : Int) < (s.size : Int) := by omega
      have kb := fun cap => run_convert_bytes_arg (P := Tryz.prog) wr 25 5 Tryz.underlying25 Tryz.underlying5 w.heap.size 0 s.size cap ((bytesOf s).map low8) H0.out (A.out.done (by omega)) 9 Tryz.underlying9
      go_wp2
      go_ret
      exact ⟨rfl, A.out.2.2⟩

def impl_Lower.f (a0 : ByteArray) : Option ByteArray := if a0.size ≤ 9223372036854775807 then some (strOfNums ((bytesOf a0).map low8)) else none
theorem impl_Lower.calls (a0 : ByteArray) (r : ByteArray) (w : World) (h : impl_Lower.f a0 = some r) :
    Calls Tryz.prog 19 #[.string a0] w fun e w' => e = .returned (.string r) ∧ Below w.heap.size w w' := by
  unfold impl_Lower.f at h
  split at h
  · obtain rfl := Option.some.inj h
    exact impl_Lower_any a0 w (by assumption)
  · cases h
end Go.Proofs.YtonimccihcodnaaGreatDoor.P
namespace Go.Proofs.YtonimccihcodnaaGreatDoor.P
open Go.RowKit Go.Proofs.YtonimccihcodnaaGreatDoorW.PrintWords Go.Proofs.YtonimccihcodnaaGreatDoorW.PrintLast Go.Proofs.YtonimccihcodnaaGreatDoorW.PrintMore

def strings_IndexByte.f (a0 : ByteArray) (a1 : Int) : Option Int := some (Lib.indexByte a0.data.toList a1.toNat.toUInt8)
theorem strings_IndexByte.calls (a0 : ByteArray) (a1 : Int) (r : Int) (w : World) (h : strings_IndexByte.f a0 a1 = some r) :
    Calls Tryz.prog 46 #[.string a0, .int .u8 a1] w fun e w' => e = .returned (.int .i64 r) ∧ Drawn0 w w' := by
  obtain rfl := Option.some.inj h
  refine (Go.Proofs.Tryz.strings_IndexByte a0 a1 w).mono ?_
  rintro e w' ⟨rfl, rfl⟩
  exact ⟨rfl, Drawn0.refl _⟩
end Go.Proofs.YtonimccihcodnaaGreatDoor.P
namespace Go.Proofs.YtonimccihcodnaaGreatDoor.P
open Go.RowKit Go.Proofs.YtonimccihcodnaaGreatDoorW.PrintWords Go.Proofs.YtonimccihcodnaaGreatDoorW.PrintLast Go.Proofs.YtonimccihcodnaaGreatDoorW.PrintMore
attribute [local go_sem] max2_int min2_int max_two min_two max_three min_three max_four min_four   -- for this text's walks alone
set_option linter.unusedVariables false
set_option linter.unusedSimpArgs false

/-! ### impl_isPlain: function 60 -/
def impl_isPlain.f (a0 : Int) : Option (Bool) := (impl_isLetter.f a0).bind fun t101 => (if t101 = true then (some true) else ((impl_isDigit.f a0).bind fun t102 => (if t102 = true then (some true) else ((strings_IndexByte.f (⟨#[45, 46, 95, 126, 47, 58, 64, 33, 36, 38, 39, 40, 41, 42, 43, 44, 59, 61]⟩ : ByteArray) a0).bind fun t103 => (some (decide (t103 ≥ 0)))))))
set_option maxHeartbeats 8000000 in
set_option maxRecDepth 100000 in
theorem impl_isPlain.calls (a0 : Int) (r : Bool) (w : World) (h : impl_isPlain.f a0 = some r) :
  Calls Tryz.prog 60 #[.int .u8 a0] w fun e w' => e = .returned (.bool r) ∧ Drawn0 w w' := by
 have H : ((impl_isLetter.f a0).bind fun t101 => (if t101 = true then (some true) else ((impl_isDigit.f a0).bind fun t102 => (if t102 = true then (some true) else ((strings_IndexByte.f (⟨#[45, 46, 95, 126, 47, 58, 64, 33, 36, 38, 39, 40, 41, 42, 43, 44, 59, 61]⟩ : ByteArray) a0).bind fun t103 => (some (decide (t103 ≥ 0)))))))) = some r := h
 clear h
 obtain ⟨t101, A20, H⟩ := Option.bind_eq_some_iff.mp H
 try dsimp only at H
 have A2 := Aside0.mk A20
 clear A20
 by_cases c3 : t101 = true
 ·
  subst c3
  have H1 : (some true) = some r := by rw [if_pos rfl] at H; exact H
  clear H
  have H := H1
  clear H1
  obtain rfl := Option.some.inj H
  go_enter Tryz.func60, Tryz.ntmps60
  go_wp2_with (first | ((with_reducible refine gate_callee (f := 44) rfl ?_); refine goesL_ (some 4) rfl rfl Tryz.func44 (by kernel_rfl) rfl #[.int .u8 a0] rfl mc ?_; (with_reducible refine (impl_isLetter.calls a0 true _ A2.out).mono ?_); rintro e w' ⟨rfl, ⟨nd, rfl⟩⟩; refine ⟨_, rfl, ?_⟩))
  go_ret
  exact ⟨by first | rfl | (simp; done) | (simp [*]; done), by repeat (first | exact Drawn0.refl _ | apply Drawn0.step)⟩
 ·
  replace c3 := Bool.eq_false_iff.mpr c3
  subst c3
  rw [if_neg (show ¬ (false = true) by decide)] at H
  obtain ⟨t102, A40, H⟩ := Option.bind_eq_some_iff.mp H
  try dsimp only at H
  have A4 := Aside0.mk A40
  clear A40
  by_cases c5 : t102 = true
  ·
   subst c5
   have H1 : (some true) = some r := by rw [if_pos rfl] at H; exact H
   clear H
   have H := H1
   clear H1
   obtain rfl := Option.some.inj H
   go_enter Tryz.func60, Tryz.ntmps60
   go_wp2_with (first | ((with_reducible refine gate_callee (f := 44) rfl ?_); refine goesL_ (some 4) rfl rfl Tryz.func44 (by kernel_rfl) rfl #[.int .u8 a0] rfl mc ?_; (with_reducible refine (impl_isLetter.calls a0 false _ A2.out).mono ?_); rintro e w' ⟨rfl, ⟨nd, rfl⟩⟩; refine ⟨_, rfl, ?_⟩) | (go_at_call 45; (with_reducible refine (impl_isDigit.calls a0 true _ A4.out).mono ?_); rintro e w' ⟨rfl, ⟨nd, rfl⟩⟩))
   go_ret
   exact ⟨by first | rfl | (simp; done) | (simp [*]; done), by repeat (first | exact Drawn0.refl _ | apply Drawn0.step)⟩
  ·
   replace c5 := Bool.eq_false_iff.mpr c5
   subst c5
   rw [if_neg (show ¬ (false = true) by decide)] at H
   replace H := Option.bind_eq_some_iff.mp H
   obtain ⟨t103, A60, H⟩ := H
   replace H : (some (decide (t103 ≥ 0))) = some r := H
   have A6 := Aside0.mk A60
   clear A60
   obtain rfl := Option.some.inj H
   go_enter Tryz.func60, Tryz.ntmps60
   go_wp2_with (first | ((with_reducible refine gate_callee (f := 44) rfl ?_); refine goesL_ (some 4) rfl rfl Tryz.func44 (by kernel_rfl) rfl #[.int .u8 a0] rfl mc ?_; (with_reducible refine (impl_isLetter.calls a0 false _ A2.out).mono ?_); rintro e w' ⟨rfl, ⟨nd, rfl⟩⟩; refine ⟨_, rfl, ?_⟩) | (go_at_call 45; (with_reducible refine (impl_isDigit.calls a0 false _ A4.out).mono ?_); rintro e w' ⟨rfl, ⟨nd, rfl⟩⟩) | (go_at_call 46; (with_reducible refine (strings_IndexByte.calls (⟨#[45, 46, 95, 126, 47, 58, 64, 33, 36, 38, 39, 40, 41, 42, 43, 44, 59, 61]⟩ : ByteArray) a0 t103 _ A6.out).mono ?_); rintro e w' ⟨rfl, ⟨nd, rfl⟩⟩))
   go_ret
   exact ⟨by first | rfl | (simp; done) | (simp [*]; done), by repeat (first | exact Drawn0.refl _ | apply Drawn0.step)⟩
/-! ### impl_Coded: function 40 -/
def impl_Coded.l0 : Nat → ByteArray → List Int → Int → Int → Option (ByteArray)
 | 0, _, _, _, _ => none
 | k + 1, x0, x3, x11, x12 => if x12 < x11 then (if 0 ≤ x12 then (if x12 < (x0.size : Int) then ((impl_isPlain.f (bt x0 x12)).bind fun t104 => (if t104 = true then (if x3.length < 140737488355328 then (impl_Coded.l0 k x0 (x3 ++ [bt x0 x12]) x11 (wrap64 (x12 + 1))) else (none)) else (if 0 ≤ ((Int.tdiv (bt x0 x12) 16) % 256) then (if ((Int.tdiv (bt x0 x12) 16) % 256) < 16 then (if 0 ≤ (Int.tmod (bt x0 x12) 16) then (if (Int.tmod (bt x0 x12) 16) < 16 then ((some (([37, bt (⟨#[48, 49, 50, 51, 52, 53, 54, 55, 56, 57, 65, 66, 67, 68, 69, 70]⟩ : ByteArray) ((Int.tdiv (bt x0 x12) 16) % 256), bt (⟨#[48, 49, 50, 51, 52, 53, 54, 55, 56, 57, 65, 66, 67, 68, 69, 70]⟩ : ByteArray) (Int.tmod (bt x0 x12) 16)] : List Int) : List Int)).bind fun y108 => (if x3.length + y108.length < 140737488355328 then (impl_Coded.l0 k x0 (x3 ++ y108) x11 (wrap64 (x12 + 1))) else (none))) else (none)) else (none)) else (none)) else (none)))) else (none)) else (none)) else (some (strOfNums x3))
def impl_Coded.f (k : Nat) (a0 : ByteArray) : Option (ByteArray) := if (a0.size : Int) > 200 then (some (⟨#[]⟩ : ByteArray)) else (impl_Coded.l0 k a0 (([] : List Int)) (a0.size : Int) 0)
theorem impl_Coded.mono_l : ∀ k, (∀ y0 y1 y2 y3, LeO (impl_Coded.l0 k y0 y1 y2 y3) (impl_Coded.l0 (k + 1) y0 y1 y2 y3))
 | 0 => fun _ _ _ _ r h => by simp [impl_Coded.l0] at h
 | k + 1 => by
  have ih0 := impl_Coded.mono_l k
  ·
   intro y0 y1 y2 y3
   unfold impl_Coded.l0
   repeat' first
   | (with_reducible exact ih0 _ _ _ _)
   | (with_reducible exact LeO.refl _)
   | (with_reducible exact LeO.none _)
   | (with_reducible refine LeO.ite ?_ ?_)
   | (with_reducible refine LeO.bind ?_ (fun _ => ?_))
   | exact ih0 _ _ _ _
   | exact LeO.none _
   | refine LeO.ite ?_ ?_
   | refine LeO.bind ?_ (fun _ => ?_)
theorem impl_Coded.mono : ∀ a0 k, LeO (impl_Coded.f k a0) (impl_Coded.f (k + 1) a0) := by
 intro a0 k
 have ih0 := impl_Coded.mono_l k
 unfold impl_Coded.f
 repeat' first
   | (with_reducible exact ih0 _ _ _ _)
   | (with_reducible exact LeO.refl _)
   | (with_reducible exact LeO.none _)
   | (with_reducible refine LeO.ite ?_ ?_)
   | (with_reducible refine LeO.bind ?_ (fun _ => ?_))
   | exact ih0 _ _ _ _
   | exact LeO.none _
   | refine LeO.ite ?_ ?_
   | refine LeO.bind ?_ (fun _ => ?_)
def impl_Coded.T10 : Bool × List (List Nat × List Nat) := (true, [([], []), ([], []), ([1], [1]), ([2], [2]), ([], []), ([4], [4]), ([5], [5]), ([3, 6], [3, 6]), ([0, 7], [0, 7]), ([8, 8, 0, 1, 2, 3, 4, 5, 6, 7, 8], [0, 8])])
def impl_Coded.B10 : List Nat := [0, 0, 2, 6, 0, 16, 48, 126, 255, 511]
theorem impl_Coded.tab10 : rtab .any (opsOf Tryz.f40 10) = impl_Coded.T10 := by kernel_rfl
theorem impl_Coded.bits10 : waitsOk impl_Coded.T10.2 impl_Coded.B10 = true := by kernel_rfl
set_option maxHeartbeats 8000000 in
set_option maxRecDepth 100000 in
theorem impl_Coded.calls (k : Nat) (a0 : ByteArray) (r : ByteArray) (w : World) (h : impl_Coded.f k a0 = some r) :
  Calls Tryz.prog 40 #[.string a0] w fun e w' => e = .returned (.string r) ∧ Below w.heap.size w w' := by
 have HB := Aside0.mk (Below.refl w.heap.size w)
 have H : (if (a0.size : Int) > 200 then (some (⟨#[]⟩ : ByteArray)) else (impl_Coded.l0 k a0 (([] : List Int)) (a0.size : Int) 0)) = some r := h
 clear h
 by_cases c2 : (a0.size : Int) > 200
 ·
  rw [if_pos c2] at H
  have c2b0 : decide (200 < (a0.size : Int)) = true := decide_eq_true c2
  have c2b1 : decide (200 < a0.size) = true := decide_eq_true (by omega)
  clear c2
  obtain rfl := Option.some.inj H
  go_enter Tryz.func40, Tryz.ntmps40
  go_wp2
  go_ret
  exact ⟨er, bh⟩
 ·
  rw [if_neg c2] at H
  have c2b0 : decide (200 < (a0.size : Int)) = false := decide_eq_false c2
  have c2b1 : decide (200 < a0.size) = false := decide_eq_false (by omega)
  clear c2
  obtain ⟨y101, hy101⟩ : ∃ y_ : List Int, y_ = (([] : List Int)) := ⟨_, rfl⟩
  replace H : (impl_Coded.l0 k a0 y101 (a0.size : Int) 0) = some r := by first | (rw [hy101]; with_reducible exact H) | (have H2_ := (Option.bind_some _ _).symm.trans H; rw [hy101]; with_reducible exact H2_) | (have H2_ := (Option.bind_some _ _).symm.trans H; with_reducible exact H2_) | with_reducible exact H | (rw [hy101]; exact H) | exact H
  have Ny101 := Aside0.mk hy101
  clear hy101
  have H' := Aside0.mk H
  clear H
  go_enter Tryz.func40, Tryz.ntmps40
  go_wp2_with (first | ((with_reducible refine gate_dst (N := 9) rfl ?_); refine Kd.R_lit (Kd.int .u8) _ 5 ?hg (N := 9) ?hd (xs := ([] : List Int)) (inner := []) (ok := fun _ => True) (okp := fun _ => True) ?hr ?hp (fun _ hk => hk) trivial (Below.refl _ _) (Nat.le_refl _) (by simp) ?_; (case hd => rfl); (case hg => rfl); (case hr => first | (go_simp; done) | (go_simp; rfl)); (case hp => exact (Reps.none _ _)); intro v102 w3 ho4 hb hg_ hnew_; clear hg_ hnew_; (first | rw [← Ny101.out] at ho4 | (simp only [Int.reduceToNat] at ho4; rw [← Ny101.out] at ho4)); have HO103 := Aside0.mk (Kd.R_lower ho4 (below_size bh)); replace HB := Aside0.mk (below_step bh hb); clear hb ho4))
  go_loopg [3, 12] k (fun kq v3 v12 w' => ∃ (x3_1 : List Int) (x12_1 : Int), v12 = .int .i64 x12_1 ∧ Aside0 (impl_Coded.l0 kq a0 x3_1 (a0.size : Int) x12_1 = some r) ∧ Aside0 (kq ≤ k) ∧ Aside0 (Kd.R (Kd.int .u8) 5 w' w.heap.size (fun _ => True) v3 x3_1) ∧ Aside0 (Below w.heap.size w w'))
  case atStart => exact ⟨(y101), (0), (by first | rfl | (simp; done) | (simp [*]; done)), H', ⟨Nat.le_refl _⟩, ⟨by (with_reducible repeat (first | apply Kd.R_alloc | apply Kd.R_drewN | apply Kd.R_drew)); exact HO103.out⟩, ⟨bh⟩⟩
  case round =>
   clear H'
   try clear c2
   try clear c2b0
   try clear c2b1
   try clear p2
   try clear c4
   obtain ⟨x3_1, x12_1, rfl, HA, HK1, HO_3, HB⟩ := hrel
   cases gk with
   | zero => exact absurd HA.out (by simp [impl_Coded.l0])
   | succ k1 =>
    have H := HA.out
    clear HA
    simp only [impl_Coded.l0] at H
    by_cases c5 : x12_1 < (a0.size : Int)
    ·
     rw [if_pos c5] at H
     have c5b0 : decide (x12_1 < (a0.size : Int)) = true := decide_eq_true c5
     clear c5
     by_cases c6 : 0 ≤ x12_1
     ·
      rw [if_pos c6] at H
      have c6b0 : decide (0 ≤ x12_1) = true := decide_eq_true c6
      clear c6
      by_cases c7 : x12_1 < (a0.size : Int)
      ·
       rw [if_pos c7] at H
       have c7b0 : decide (x12_1 < (a0.size : Int)) = true := decide_eq_true c7
       clear c7
       obtain ⟨t104, A90, H⟩ := Option.bind_eq_some_iff.mp H
       try dsimp only at H
       have A9 := Aside0.mk A90
       clear A90
       by_cases c10 : t104 = true
       ·
        subst c10
        rw [if_pos rfl] at H
        by_cases c11 : x3_1.length < 140737488355328
        ·
         rw [if_pos c11] at H
         have LMc11 := Aside0.mk c11
         clear c11
         obtain ⟨y105, hy105⟩ : ∃ y_ : List Int, y_ = (x3_1 ++ [bt a0 x12_1]) := ⟨_, rfl⟩
         replace H : (impl_Coded.l0 k1 a0 y105 (a0.size : Int) (wrap64 (x12_1 + 1))) = some r := by first | (rw [hy105]; with_reducible exact H) | (have H2_ := (Option.bind_some _ _).symm.trans H; rw [hy105]; with_reducible exact H2_) | (have H2_ := (Option.bind_some _ _).symm.trans H; with_reducible exact H2_) | with_reducible exact H | (rw [hy105]; exact H) | exact H
         have Ny105 := Aside0.mk hy105
         clear hy105
         have H' := Aside0.mk H
         clear H
         have p8 : 0 ≤ (x12_1 : Int) := of_decide_eq_true (by first | (with_reducible assumption) | assumption)
         have q8 : x12_1 < (a0.size : Int) := of_decide_eq_true (by first | (with_reducible assumption) | assumption)
         have hx8 := bt_at a0 x12_1
         replace p8 := eq_true p8
         replace q8 := eq_true q8
         go_wp2_with (first | ((with_reducible refine gate_callee (f := 60) rfl ?_); refine goesL_ (some 19) rfl rfl Tryz.func60 (by kernel_rfl) rfl #[.int .u8 (bt a0 x12_1)] rfl mc ?_; (with_reducible refine (impl_isPlain.calls (bt a0 x12_1) true _ A9.out).mono ?_); rintro e w' ⟨rfl, ⟨nd, rfl⟩⟩; refine ⟨_, rfl, ?_⟩) | ((with_reducible refine gate_builtin (b := .append) (xs := #[.tmp 20, .tmp 22]) rfl ?_); at_builtin; refine Kd.R_append (Kd.int .u8) (w0 := w) w.heap.size rfl (.tmp 20) (.tmp 22) 25 5 (.int .u8 0) 1 rfl Tryz.underlying25 info5 rfl (by decide) (by omega) u3 x3_1 (bt a0 x12_1) [.int .u8 (bt a0 x12_1)] (fun _ => True) (fun _ => False) rfl rfl ?aP (fun _ hk => hk.elim) ?aF ?aO ?aB ?aS ?aL ?_; (case aP => exact rfl); (case aB => exact bh); (case aF => exact (fun _ _ => trivial)); (case aO => exact (by (with_reducible repeat (first | apply Kd.R_alloc | apply Kd.R_drewN | apply Kd.R_drew)); exact HO_3.out)); (case aS => exact (below_size bh)); (case aL => have := LMc11.out; omega); intro v106 w12 ho hb hg hat; rw [← Ny105.out] at ho; have n0_ := Aside0.mk (hb); have n1_ := Aside0.mk (ho); clear HB; clear HO_3; have HB := n0_; have HO107 := n1_; clear n0_ n1_; clear ho hb hg hat))
         go_roundg k1
         case measure => have := HK1.out; omega
         case rel => exact ⟨(y105), (wrap64 (x12_1 + 1)), (by first | rfl | (simp; done) | (simp [*]; done)), H', ⟨by have := HK1.out; omega⟩, ⟨by (with_reducible repeat (first | apply Kd.R_alloc | apply Kd.R_drewN | apply Kd.R_drew)); exact HO107.out⟩, ⟨bh⟩⟩
        ·
         rw [if_neg c11] at H
         exact absurd H (by simp)
       ·
        replace c10 := Bool.eq_false_iff.mpr c10
        subst c10
        rw [if_neg (show ¬ (false = true) by decide)] at H
        obtain ⟨ji13, hji13⟩ : ∃ j_ : Int, ((Int.tdiv (bt a0 x12_1) 16) % 256) = j_ := ⟨_, rfl⟩
        try have hji13w : IntKind.u8.wrap (Int.tdiv (bt a0 x12_1) 16) = ji13 := hji13
        replace H : (if 0 ≤ (ji13) then (if (ji13) < 16 then (if 0 ≤ (Int.tmod (bt a0 x12_1) 16) then (if (Int.tmod (bt a0 x12_1) 16) < 16 then ((some (([37, bt (⟨#[48, 49, 50, 51, 52, 53, 54, 55, 56, 57, 65, 66, 67, 68, 69, 70]⟩ : ByteArray) (ji13), bt (⟨#[48, 49, 50, 51, 52, 53, 54, 55, 56, 57, 65, 66, 67, 68, 69, 70]⟩ : ByteArray) (Int.tmod (bt a0 x12_1) 16)] : List Int) : List Int)).bind fun y108 => (if x3_1.length + y108.length < 140737488355328 then (impl_Coded.l0 k1 a0 (x3_1 ++ y108) (a0.size : Int) (wrap64 (x12_1 + 1))) else (none))) else (none)) else (none)) else (none)) else (none)) = some r := by first | (rw [hji13] at H; exact H) | (simp only [hji13] at H ⊢; exact H)
        (try rw [hji13] at A9)
        by_cases c14 : 0 ≤ (ji13)
        ·
         rw [if_pos c14] at H
         have c14b0 : decide (0 ≤ (ji13)) = true := decide_eq_true c14
         clear c14
         by_cases c15 : (ji13) < 16
         ·
          rw [if_pos c15] at H
          have c15b0 : decide ((ji13) < 16) = true := decide_eq_true c15
          clear c15
          obtain ⟨ji17, hji17⟩ : ∃ j_ : Int, (Int.tmod (bt a0 x12_1) 16) = j_ := ⟨_, rfl⟩
          replace H : (if 0 ≤ (ji17) then (if (ji17) < 16 then ((some (([37, bt (⟨#[48, 49, 50, 51, 52, 53, 54, 55, 56, 57, 65, 66, 67, 68, 69, 70]⟩ : ByteArray) (ji13), bt (⟨#[48, 49, 50, 51, 52, 53, 54, 55, 56, 57, 65, 66, 67, 68, 69, 70]⟩ : ByteArray) (ji17)] : List Int) : List Int)).bind fun y108 => (if x3_1.length + y108.length < 140737488355328 then (impl_Coded.l0 k1 a0 (x3_1 ++ y108) (a0.size : Int) (wrap64 (x12_1 + 1))) else (none))) else (none)) else (none)) = some r := by first | (rw [hji17] at H; exact H) | (simp only [hji17] at H ⊢; exact H)
          (try rw [hji17] at A9)
          by_cases c18 : 0 ≤ (ji17)
          ·
           rw [if_pos c18] at H
           have c18b0 : decide (0 ≤ (ji17)) = true := decide_eq_true c18
           clear c18
           by_cases c19 : (ji17) < 16
           ·
            rw [if_pos c19] at H
            have c19b0 : decide ((ji17) < 16) = true := decide_eq_true c19
            clear c19
            obtain ⟨y108, hy108⟩ : ∃ y_ : List Int, y_ = (([37, bt (⟨#[48, 49, 50, 51, 52, 53, 54, 55, 56, 57, 65, 66, 67, 68, 69, 70]⟩ : ByteArray) (ji13), bt (⟨#[48, 49, 50, 51, 52, 53, 54, 55, 56, 57, 65, 66, 67, 68, 69, 70]⟩ : ByteArray) (ji17)] : List Int)) := ⟨_, rfl⟩
            replace H : (if x3_1.length + y108.length < 140737488355328 then (impl_Coded.l0 k1 a0 (x3_1 ++ y108) (a0.size : Int) (wrap64 (x12_1 + 1))) else (none)) = some r := by first | (rw [hy108]; with_reducible exact H) | (have H2_ := (Option.bind_some _ _).symm.trans H; rw [hy108]; with_reducible exact H2_) | (have H2_ := (Option.bind_some _ _).symm.trans H; with_reducible exact H2_) | with_reducible exact H | (rw [hy108]; exact H) | exact H
            have Ny108 := Aside0.mk hy108
            clear hy108
            by_cases c21 : x3_1.length + y108.length < 140737488355328
            ·
             rw [if_pos c21] at H
             have LMc21 := Aside0.mk c21
             clear c21
             obtain ⟨y111, hy111⟩ : ∃ y_ : List Int, y_ = (x3_1 ++ y108) := ⟨_, rfl⟩
             replace H : (impl_Coded.l0 k1 a0 y111 (a0.size : Int) (wrap64 (x12_1 + 1))) = some r := by first | (rw [hy111]; with_reducible exact H) | (have H2_ := (Option.bind_some _ _).symm.trans H; rw [hy111]; with_reducible exact H2_) | (have H2_ := (Option.bind_some _ _).symm.trans H; with_reducible exact H2_) | with_reducible exact H | (rw [hy111]; exact H) | exact H
             have Ny111 := Aside0.mk hy111
             clear hy111
             have H' := Aside0.mk H
             clear H
             have p8 : 0 ≤ (x12_1 : Int) := of_decide_eq_true (by first | (with_reducible assumption) | assumption)
             have q8 : x12_1 < (a0.size : Int) := of_decide_eq_true (by first | (with_reducible assumption) | assumption)
             have hx8 := bt_at a0 x12_1
             replace p8 := eq_true p8
             replace q8 := eq_true q8
             try go_wp2_with (first | ((with_reducible refine gate_callee (f := 60) rfl ?_); refine goesL_ (some 19) rfl rfl Tryz.func60 (by kernel_rfl) rfl #[.int .u8 (bt a0 x12_1)] rfl mc ?_; (with_reducible refine (impl_isPlain.calls (bt a0 x12_1) false _ A9.out).mono ?_); rintro e w' ⟨rfl, ⟨nd, rfl⟩⟩; refine ⟨_, rfl, ?_⟩))
             (try (rw [drewN_self wr]; generalize hq_ : World.drewN wr _ = wr; have n0_ : Aside0 (Kd.R (Kd.int .u8) 5 wr w.heap.size (fun _ => True) u3 x3_1) := ⟨by rw [← hq_]; exact (by (with_reducible repeat (first | apply Kd.R_alloc | apply Kd.R_drewN | apply Kd.R_drew)); exact HO_3.out)⟩; have n1_ : Aside0 (Below w.heap.size w wr) := ⟨by rw [← hq_]; exact bh⟩; clear HO_3 HB hq_; have HO_3 := n0_; have HB := n1_; clear n0_ n1_))
             replace HO_3 := Aside0.mk (Kd.R_drew HO_3.out)
             replace HB := Aside0.mk (below_drew1 HB.out)
             have p16 : 0 ≤ ((ji13) : Int) := of_decide_eq_true (by first | (with_reducible assumption) | assumption)
             have q16 : (ji13) < (16 : Int) := of_decide_eq_true (by first | (with_reducible assumption) | assumption)
             have hx16 := bt_at (⟨#[48, 49, 50, 51, 52, 53, 54, 55, 56, 57, 65, 66, 67, 68, 69, 70]⟩ : ByteArray) (ji13)
             replace p16 := eq_true p16
             replace q16 := eq_true q16
             have p20 : 0 ≤ ((ji17) : Int) := of_decide_eq_true (by first | (with_reducible assumption) | assumption)
             have q20 : (ji17) < (16 : Int) := of_decide_eq_true (by first | (with_reducible assumption) | assumption)
             have hx20 := bt_at (⟨#[48, 49, 50, 51, 52, 53, 54, 55, 56, 57, 65, 66, 67, 68, 69, 70]⟩ : ByteArray) (ji17)
             replace p20 := eq_true p20
             replace q20 := eq_true q20
             refine start_ (n := 10) (S := fun w' => True) (ds := []) #[false, false, false, false, false, false, false, false, false, false] (by kernel_rfl) rfl rfl trivial (fun hHeld => ?_); refine with_tabW impl_Coded.tab10 impl_Coded.bits10 (fun HT_ HW_ => ?_)
             generalize wr.drew = w22 at HO_3 HB hHeld ⊢
             refine pu 0 24 #[true, false, false, false, false, false, false, false, false, false] HT_ ?_
             refine pu 1 25 #[true, true, false, false, false, false, false, false, false, false] HT_ ?_
             refine pu 2 26 #[true, true, true, false, false, false, false, false, false, false] HT_ ?_
             refine pu 4 28 #[true, true, true, false, true, false, false, false, false, false] HT_ ?_
             refine pu 5 29 #[true, true, true, false, true, true, false, false, false, false] HT_ ?_
             refine take_ (i := 3) (N := some 27) (v := ?_) (a' := ?_) #[true, true, true, true, true, true, false, false, false, false] rfl rfl (take_ofW HT_.out HW_.out (by kernel_rfl)) (fun _ _ _ h => h) (Or.inl ⟨by rfl, ?_⟩) hHeld ?_ ?_
             rotate_left
             ·
              intro w' _
              go_simp
              with_reducible rfl
             rotate_left
             ·
              simp only [Act.put, List.setIfInBounds_toArray, List.set_cons_zero, List.set_cons_succ, i64_w, i32_w]
              rfl
             refine take_ (i := 6) (N := some 30) (v := ?_) (a' := ?_) #[true, true, true, true, true, true, true, false, false, false] rfl rfl (take_ofW HT_.out HW_.out (by kernel_rfl)) (fun _ _ _ h => h) (Or.inl ⟨by rfl, ?_⟩) hHeld ?_ ?_
             rotate_left
             ·
              intro w' _
              go_simp
              with_reducible rfl
             rotate_left
             ·
              simp only [Act.put, List.setIfInBounds_toArray, List.set_cons_zero, List.set_cons_succ, i64_w, i32_w]
              rfl
             refine onx 7 31 #[true, true, true, true, true, true, true, true, false, false] HT_ (fun K hK => ?_)
             refine Kd.R_lit_step (Kd.int .u8) _ 5 ?hg (N := 31) ?hd (xs := ([37, bt (⟨#[48, 49, 50, 51, 52, 53, 54, 55, 56, 57, 65, 66, 67, 68, 69, 70]⟩ : ByteArray) (ji13), bt (⟨#[48, 49, 50, 51, 52, 53, 54, 55, 56, 57, 65, 66, 67, 68, 69, 70]⟩ : ByteArray) (ji17)] : List Int)) (inner := [.int .u8 37, .int .u8 (bt (⟨#[48, 49, 50, 51, 52, 53, 54, 55, 56, 57, 65, 66, 67, 68, 69, 70]⟩ : ByteArray) (ji13)), .int .u8 (bt (⟨#[48, 49, 50, 51, 52, 53, 54, 55, 56, 57, 65, 66, 67, 68, 69, 70]⟩ : ByteArray) (ji17))]) (ok := fun _ => True) (okp := fun _ => True) ?hr ?hp (fun _ hk => hk) trivial (Below.refl _ _) (Nat.le_refl _) (by simp) ?_; (case hd => rfl); (case hg => rfl); (case hr => first | (go_simp; done) | (go_simp; rfl)); (case hp => exact (Reps.one (show Kd.M (Kd.int .u8) _ _ _ 37 [.int .u8 37] from rfl) (Reps.one (show Kd.M (Kd.int .u8) _ _ _ (bt (⟨#[48, 49, 50, 51, 52, 53, 54, 55, 56, 57, 65, 66, 67, 68, 69, 70]⟩ : ByteArray) (ji13)) [.int .u8 (bt (⟨#[48, 49, 50, 51, 52, 53, 54, 55, 56, 57, 65, 66, 67, 68, 69, 70]⟩ : ByteArray) (ji13))] from rfl) (Reps.one (show Kd.M (Kd.int .u8) _ _ _ (bt (⟨#[48, 49, 50, 51, 52, 53, 54, 55, 56, 57, 65, 66, 67, 68, 69, 70]⟩ : ByteArray) (ji17)) [.int .u8 (bt (⟨#[48, 49, 50, 51, 52, 53, 54, 55, 56, 57, 65, 66, 67, 68, 69, 70]⟩ : ByteArray) (ji17))] from rfl) (Reps.none _ _)))))
             intro v109 w23 ho24 hb hg_ hnew_
             clear hg_ hnew_
             (first | rw [← Ny108.out] at ho24 | (simp only [Int.reduceToNat] at ho24; rw [← Ny108.out] at ho24))
             have HO110 := Aside0.mk (Kd.R_lower (Kd.R_new' ho24 (Kd.R_lt (by (with_reducible repeat (first | apply Kd.R_alloc | apply Kd.R_drewN | apply Kd.R_drew)); exact HO_3.out))) (below_size bh))
             replace HO_3 := Aside0.mk (Kd.R_elder' (by (with_reducible repeat (first | apply Kd.R_alloc | apply Kd.R_drewN | apply Kd.R_drew)); exact HO_3.out) (Kd.R_base ho24) hb)
             replace HB := Aside0.mk (below_step bh hb)
             clear hb ho24
             obtain ⟨Ao26, co26, eo26⟩ := Kd.R_slice HO110.out
             (first | subst eo26 | (injection eo26 with f1_ f2_ f3_; have f4_ := f1_.symm; have f5_ := f3_.symm; clear f1_ f2_ f3_; subst f4_; subst f5_))
             refine hK.out _ _ trivial (fun hHeld => ?_)
             clear hK K
             refine nm 31 ?_
             refine onx 8 32 #[true, true, true, true, true, true, true, true, true, false] HT_ (fun K hK => ?_)
             refine Kd.R_append_rows_step (Kd.int .u8) (w0 := w) w.heap.size (by rfl) (.tmp 24) (.tmp 31) 25 5 (.int .u8 0) 1 rfl Tryz.underlying25 info5 rfl (by decide) (by omega) u3 x3_1 y108 _ _ _ (fun k_ => some k_ ≠ (.slice Ao26 y108.length co26 : Value).ownBlock) (fun _ => False) rfl rfl ?aO ?aR (fun _ _ h => h) (fun _ h => h.elim) ?aF ?aB ?aS ?aL ?_
             (case aR => repeat (first | exact (Kd.R_reads' HO110.out).2.2 | (with_reducible refine Kd.C_alloc ?_ _) | (with_reducible refine Kd.C_drewN ?_ _) | (with_reducible refine Kd.C_drew ?_)))
             (case aB => exact bh)
             (case aF => exact (fun k_ hk => Kd.fresh' (Kd.R_lt (by (with_reducible repeat (first | apply Kd.R_alloc | apply Kd.R_drewN | apply Kd.R_drew)); exact HO110.out)) k_ hk))
             (case aO => exact (by (with_reducible repeat (first | apply Kd.R_alloc | apply Kd.R_drewN | apply Kd.R_drew)); exact Kd.R_mono HO_3.out (fun _ hk => hk.2)))
             (case aS => exact (below_size bh))
             (case aL => have := LMc21.out; omega)
             intro v112 w25 ho hb hg hat
             rw [← Ny111.out] at ho
             have n0_ := Aside0.mk (Kd.R_after (ok := (fun _ => True)) (by (with_reducible repeat (first | apply Kd.R_alloc | apply Kd.R_drewN | apply Kd.R_drew)); exact HO110.out) hg hat)
             have n1_ := Aside0.mk (hb)
             have n2_ := Aside0.mk (ho)
             clear HO110
             clear HB
             clear HO_3
             have HO110 := n0_
             have HB := n1_
             have HO113 := n2_
             clear n0_ n1_ n2_
             clear ho hb hg hat
             refine hK.out _ _ trivial (fun hHeld => ?_)
             clear hK K
             refine nm 32 ?_
             refine pu 9 3 #[true, true, true, true, true, true, true, true, true, true] HT_ ?_
             refine dn HT_ ?_
             try go_wp2
             go_roundg k1
             case measure => have := HK1.out; omega
             case rel => exact ⟨(y111), (wrap64 (x12_1 + 1)), (by first | rfl | (simp; done) | (simp [*]; done)), H', ⟨by have := HK1.out; omega⟩, ⟨by (with_reducible repeat (first | apply Kd.R_alloc | apply Kd.R_drewN | apply Kd.R_drew)); exact Kd.R_mono HO113.out (fun _ hk => trivial)⟩, ⟨bh⟩⟩
            ·
             rw [if_neg c21] at H
             exact absurd H (by simp)
           ·
            rw [if_neg c19] at H
            exact absurd H (by simp)
          ·
           rw [if_neg c18] at H
           exact absurd H (by simp)
         ·
          rw [if_neg c15] at H
          exact absurd H (by simp)
        ·
         rw [if_neg c14] at H
         exact absurd H (by simp)
      ·
       rw [if_neg c7] at H
       exact absurd H (by simp)
     ·
      rw [if_neg c6] at H
      exact absurd H (by simp)
    ·
     rw [if_neg c5] at H
     have c5b0 : decide (x12_1 < (a0.size : Int)) = false := decide_eq_false c5
     clear c5
     obtain rfl := Option.some.inj H
     have hcv27 := own_string (P := Tryz.prog) Tryz.underlying25 Tryz.underlying5 Tryz.underlying9 (Kd.own_of_R HO_3.out)
     go_wp2
     go_ret
     exact ⟨er, bh⟩
end Go.Proofs.YtonimccihcodnaaGreatDoor.P
namespace Go.Proofs.YtonimccihcodnaaGreatDoor.P
set_option linter.unusedVariables false
set_option linter.unusedSimpArgs false
open Go.RowKit Go.Lib Go.Proofs.YtonimccihcodnaaGreatDoorW.PrintWords Go.Proofs.YtonimccihcodnaaGreatDoorW.PrintLast Go.Proofs.YtonimccihcodnaaGreatDoorW.PrintMore

/-- A digit's number, or -1. -/
def dgt (c : Int) : Int := if 48 ≤ c ∧ c ≤ 57 then c - 48 else if 97 ≤ c ∧ c ≤ 102 then c - 87 else if 65 ≤ c ∧ c ≤ 70 then c - 55 else -1
def numB (b : Int) (l : List Int) : Int := l.foldl (fun n c => n * b + dgt c) 0
def okB (b : Int) (l : List Int) : Bool := l.all fun c => decide (0 ≤ dgt c) && decide (dgt c < b)
theorem okB_at {b : Int} {l : List Int} (h : okB b l = true) (c : Int) (hc : c ∈ l) : 0 ≤ dgt c ∧ dgt c < b := by
  have := List.all_eq_true.1 h c hc
  simpa using this
theorem numB_snoc (b : Int) (l : List Int) (c : Int) : numB b (l ++ [c]) = numB b l * b + dgt c := by
  unfold numB
  rw [List.foldl_append]
  rfl
theorem numB_take {b : Int} {l : List Int} {k : Nat} (h : k < l.length) : numB b (l.take (k + 1)) = numB b (l.take k) * b + dgt (l.getD k 0) := by
  rw [List.take_add_one, List.getD_eq_getElem?_getD, List.getElem?_eq_getElem h]
  exact numB_snoc _ _ _
theorem lowerBits (c v : Int) (h : (97 ≤ c ∧ c ≤ 102 ∧ v = c) ∨ (65 ≤ c ∧ c ≤ 70 ∧ v = c + 32)) : Go.bits .or .u8 c 32 = v := by
  have hc : c = 97 ∨ c = 98 ∨ c = 99 ∨ c = 100 ∨ c = 101 ∨ c = 102 ∨ c = 65 ∨ c = 66 ∨ c = 67 ∨ c = 68 ∨ c = 69 ∨ c = 70 := by omega
  rcases hc with rfl | rfl | rfl | rfl | rfl | rfl | rfl | rfl | rfl | rfl | rfl | rfl
  all_goals
    first
    | (have : v = 97 := by omega
       subst this; decide +kernel)
    | (have : v = 98 := by omega
       subst this; decide +kernel)
    | (have : v = 99 := by omega
       subst this; decide +kernel)
    | (have : v = 100 := by omega
       subst this; decide +kernel)
    | (have : v = 101 := by omega
       subst this; decide +kernel)
    | (have : v = 102 := by omega
       subst this; decide +kernel)
theorem numB_bound (b : Int) (l : List Int) (hb : 0 ≤ b) (h : okB b l = true) (k : Nat) : 0 ≤ numB b (l.take k) ∧ numB b (l.take k) < b ^ (min k l.length) := by
  induction k with
  | zero => simp [numB]
  | succ k ih =>
    by_cases hk : k < l.length
    · rw [numB_take hk]
      have hm : l.getD k 0 ∈ l := by
        rw [List.getD_eq_getElem?_getD, List.getElem?_eq_getElem hk]
        exact List.getElem_mem hk
      obtain ⟨d0, d1⟩ := okB_at h _ hm
      obtain ⟨i0, i1⟩ := ih
      rw [Nat.min_eq_left (by omega)] at i1
      rw [Nat.min_eq_left (by omega), Int.pow_succ]
      have h1 : numB b (l.take k) * b + b ≤ b ^ k * b := by
        have : (numB b (l.take k) + 1) * b ≤ b ^ k * b := Int.mul_le_mul_of_nonneg_right (by omega) hb
        rw [Int.add_mul, Int.one_mul] at this
        exact this
      have h2 : 0 ≤ numB b (l.take k) * b := Int.mul_nonneg i0 hb
      omega
    · rw [List.take_of_length_le (by omega), Nat.min_eq_right (by omega)]
      rw [List.take_of_length_le (by omega), Nat.min_eq_right (by omega)] at ih
      exact ih
theorem pow_small {b : Int} (hb : b = 10 ∨ b = 16) {k m : Nat} (hm : (b = 10 ∧ m ≤ 15) ∨ (b = 16 ∧ m ≤ 13)) (hk : k ≤ m) : b ^ k ≤ 4503599627370496 := by
  rcases hm with ⟨rfl, h⟩ | ⟨rfl, h⟩
  · have : k = 0 ∨ k = 1 ∨ k = 2 ∨ k = 3 ∨ k = 4 ∨ k = 5 ∨ k = 6 ∨ k = 7 ∨ k = 8 ∨ k = 9 ∨ k = 10 ∨ k = 11 ∨ k = 12 ∨ k = 13 ∨ k = 14 ∨ k = 15 := by omega
    rcases this with rfl | rfl | rfl | rfl | rfl | rfl | rfl | rfl | rfl | rfl | rfl | rfl | rfl | rfl | rfl | rfl <;> decide +kernel
  · have : k = 0 ∨ k = 1 ∨ k = 2 ∨ k = 3 ∨ k = 4 ∨ k = 5 ∨ k = 6 ∨ k = 7 ∨ k = 8 ∨ k = 9 ∨ k = 10 ∨ k = 11 ∨ k = 12 ∨ k = 13 := by omega
    rcases this with rfl | rfl | rfl | rfl | rfl | rfl | rfl | rfl | rfl | rfl | rfl | rfl | rfl | rfl <;> decide +kernel

set_option maxHeartbeats 8000000 in
set_option maxRecDepth 100000 in
theorem ParseUint16 (t : ByteArray) (hne : t.size ≠ 0) (h13 : t.size ≤ 13) (hok : okB 16 (bytesOf t) = true) (w : World) :
    Calls Tryz.prog 104 #[.string t, .int .i64 16, .int .i64 64] w fun e w' => e = .returned (.tuple #[.int .u64 (numB 16 (bytesOf t)), .nilIface]) ∧ w' = Lib.bytesWorld w 5 t := by
  have hemp : t.toList.isEmpty = false := by
    rw [← decide_eq_emptyBytes]
    exact decide_eq_false (fun h => hne (by rw [h]; rfl))
  have hcv := Lib.run_convert_string_bytes (P := Tryz.prog) w 9 25 5 t Tryz.underlying9 Tryz.underlying25 Tryz.underlying5
  have hB : ∀ j, j < t.size → (Lib.bytesWorld w 5 t).cell? ⟨w.heap.size, j, none⟩ = some (.int .u8 (bt t j)) := fun j hj => by
    rw [Lib.bytesWorld_cell w 5 t j hj]
    have : bt t j = ((t.data.toList.getD j 0).toNat : Int) := by
      rw [← rd_bytesOf]
      have h' : j < t.data.toList.length := by rw [data_length]; exact hj
      simp [rd, bytesOf, List.getD_eq_getElem?_getD, List.getElem?_eq_getElem h']
    rw [← this]
  obtain ⟨W1, hW1⟩ : ∃ W1, W1 = Lib.bytesWorld w 5 t := ⟨_, rfl⟩
  rw [← hW1] at hcv hB ⊢
  clear hW1
  have hlen : (bytesOf t).length = t.size := bytesOf_length t
  have hget : ∀ k, (bytesOf t).getD k 0 = bt t k := fun k => by rw [← rd_bytesOf]; simp [rd]
  have HA : Hid (∀ k, k < t.size → (0 ≤ dgt (bt t k) ∧ dgt (bt t k) < 16) ∧ (0 ≤ numB 16 ((bytesOf t).take k) ∧ numB 16 ((bytesOf t).take k) < 4503599627370496) ∧ numB 16 ((bytesOf t).take (k + 1)) = numB 16 ((bytesOf t).take k) * 16 + dgt (bt t k)) := Lib.hid fun k hk => by
    have hm : (bytesOf t).getD k 0 ∈ bytesOf t := by
      rw [List.getD_eq_getElem?_getD, List.getElem?_eq_getElem (by omega)]
      exact List.getElem_mem (by omega)
    have h1 := okB_at hok _ hm
    rw [hget] at h1
    have h2 := numB_bound 16 (bytesOf t) (by decide) hok k
    have h3 := pow_small (b := 16) (.inr rfl) (m := 13) (.inr ⟨rfl, Nat.le_refl _⟩) (k := min k (bytesOf t).length) (by omega)
    have h4 := numB_take (b := 16) (l := bytesOf t) (k := k) (by omega)
    rw [hget] at h4
    exact ⟨h1, ⟨h2.1, by omega⟩, h4⟩
  have HE : Hid (numB 16 ((bytesOf t).take t.size) = numB 16 (bytesOf t)) := Lib.hid (by rw [← hlen, List.take_length])
  have HZ : Hid (numB 16 ((bytesOf t).take 0) = 0) := Lib.hid rfl
  clear hok hget hlen
  have hmv : IntKind.u64.wrap (IntKind.u64.wrap 18446744073709551616 - 1) = 18446744073709551615 := by
    rw [IntKind.wrap_u64, IntKind.wrap_u64]
    decide
  go_enter Tryz.func104, Tryz.ntmps104
  go_wp2
  go_loop [12, 13, 101] (fun vu vn vi => ∃ (k : Nat) (a : Int), vu = .bool false ∧ vn = .int .u64 a ∧ vi = .int .i64 k ∧ k ≤ t.size ∧ Hid (a = numB 16 ((bytesOf t).take k)))
    (fun _ _ vi => t.size - (Go.RowKit.intOf vi).toNat)
  case atStart => exact ⟨0, 0, rfl, rfl, rfl, by omega, HZ⟩
  case round =>
    obtain ⟨k, a, rfl, rfl, rfl, hk, hh⟩ := hrel
    by_cases hkn : k < t.size
    · have hc := hB k hkn
      have hr := bt_range t k
      obtain ⟨⟨d0, d1⟩, ⟨b0, b1⟩, hnx⟩ := HA.out k hkn
      rw [← hh.out] at b0 b1 hnx
      obtain ⟨c, hcc⟩ : ∃ c, bt t k = c := ⟨_, rfl⟩
      rw [hcc] at hc hr d0 d1 hnx
      obtain ⟨r0, r1⟩ := hr
      clear hcc hB hh
      by_cases hdig : 48 ≤ c ∧ c ≤ 57
      · obtain ⟨g0, g1⟩ := hdig
        have hd : dgt c = c - 48 := by unfold dgt; rw [if_pos ⟨g0, g1⟩]
        rw [hd] at hnx
        clear d0 d1 hd
        have iov : a * 16 + (c - 48) < 18446744073709551616 := by omega
        have HN : Hid (a * 16 + (c - 48) = numB 16 ((bytesOf t).take (k + 1))) := Lib.hid hnx.symm
        clear hnx
        go_wp2
        refine ⟨⟨k + 1, a * 16 + (c - 48), rfl, (by first | rfl | (congr 1; omega)), (by first | rfl | (congr 1; omega)), by omega, HN⟩, by simp [Go.RowKit.intOf]; omega⟩
      · have hv : ∃ v, Go.bits .or .u8 c 32 = v ∧ 97 ≤ v ∧ v ≤ 102 ∧ dgt c = v - 87 := by
          unfold dgt at d0 ⊢
          rw [if_neg hdig] at d0 ⊢
          by_cases h1 : 97 ≤ c ∧ c ≤ 102
          · rw [if_pos h1]
            exact ⟨c, lowerBits c c (.inl ⟨h1.1, h1.2, rfl⟩), h1.1, h1.2, rfl⟩
          · rw [if_neg h1] at d0 ⊢
            by_cases h2 : 65 ≤ c ∧ c ≤ 70
            · rw [if_pos h2]
              exact ⟨c + 32, lowerBits c _ (.inr ⟨h2.1, h2.2, rfl⟩), by omega, by omega, by omega⟩
            · rw [if_neg h2] at d0
              omega
        obtain ⟨v, hv0, v0, v1, hd⟩ := hv
        have hnd : ¬ (48 ≤ c ∧ c ≤ 57) := hdig
        have hc57 : (c < 48) ∨ (57 < c) := by omega
        have hcl : (65 ≤ c ∧ c ≤ 70) ∨ (97 ≤ c ∧ c ≤ 102) := by
          unfold dgt at d0
          rw [if_neg hdig] at d0
          by_cases h1 : 97 ≤ c ∧ c ≤ 102
          · exact .inr h1
          · rw [if_neg h1] at d0
            by_cases h2 : 65 ≤ c ∧ c ≤ 70
            · exact .inl h2
            · rw [if_neg h2] at d0; omega
        have c95 : ¬ c = 95 := by omega
        have c48 : 57 < c := by omega
        have c47 : 48 ≤ c := by omega
        have c58 : ¬ c ≤ 57 := by omega
        have v122 : v ≤ 122 := by omega
        rw [hd] at hnx
        clear d0 d1 hd hdig hnd hc57 hcl
        have iov : a * 16 + (v - 87) < 18446744073709551616 := by omega
        have HN : Hid (a * 16 + (v - 97 + 10) = numB 16 ((bytesOf t).take (k + 1))) := Lib.hid (by rw [hnx]; omega)
        clear hnx
        go_wp2
        refine ⟨⟨k + 1, a * 16 + (v - 97 + 10), rfl, (by first | rfl | (congr 1; omega)), (by first | rfl | (congr 1; omega)), by omega, HN⟩, by simp [Go.RowKit.intOf]; omega⟩
    · have hkk : k = t.size := by omega
      subst hkk
      have hE := HE.out
      have hE2 := hh.out.trans hE
      clear hE hh HA HE HZ hB hcv
      subst hE2
      go_wp2
      go_ret2
      exact ⟨rfl, rfl⟩
set_option maxHeartbeats 8000000 in
set_option maxRecDepth 100000 in
theorem ParseUint10 (t : ByteArray) (hne : t.size ≠ 0) (h13 : t.size ≤ 15) (hok : okB 10 (bytesOf t) = true) (w : World) :
    Calls Tryz.prog 104 #[.string t, .int .i64 10, .int .i64 64] w fun e w' => e = .returned (.tuple #[.int .u64 (numB 10 (bytesOf t)), .nilIface]) ∧ w' = Lib.bytesWorld w 5 t := by
  have hemp : t.toList.isEmpty = false := by
    rw [← decide_eq_emptyBytes]
    exact decide_eq_false (fun h => hne (by rw [h]; rfl))
  have hcv := Lib.run_convert_string_bytes (P := Tryz.prog) w 9 25 5 t Tryz.underlying9 Tryz.underlying25 Tryz.underlying5
  have hB : ∀ j, j < t.size → (Lib.bytesWorld w 5 t).cell? ⟨w.heap.size, j, none⟩ = some (.int .u8 (bt t j)) := fun j hj => by
    rw [Lib.bytesWorld_cell w 5 t j hj]
    have : bt t j = ((t.data.toList.getD j 0).toNat : Int) := by
      rw [← rd_bytesOf]
      have h' : j < t.data.toList.length := by rw [data_length]; exact hj
      simp [rd, bytesOf, List.getD_eq_getElem?_getD, List.getElem?_eq_getElem h']
    rw [← this]
  obtain ⟨W1, hW1⟩ : ∃ W1, W1 = Lib.bytesWorld w 5 t := ⟨_, rfl⟩
  rw [← hW1] at hcv hB ⊢
  clear hW1
  have hlen : (bytesOf t).length = t.size := bytesOf_length t
  have hget : ∀ k, (bytesOf t).getD k 0 = bt t k := fun k => by rw [← rd_bytesOf]; simp [rd]
  have HA : Hid (∀ k, k < t.size → (0 ≤ dgt (bt t k) ∧ dgt (bt t k) < 10) ∧ (0 ≤ numB 10 ((bytesOf t).take k) ∧ numB 10 ((bytesOf t).take k) < 4503599627370496) ∧ numB 10 ((bytesOf t).take (k + 1)) = numB 10 ((bytesOf t).take k) * 10 + dgt (bt t k)) := Lib.hid fun k hk => by
    have hm : (bytesOf t).getD k 0 ∈ bytesOf t := by
      rw [List.getD_eq_getElem?_getD, List.getElem?_eq_getElem (by omega)]
      exact List.getElem_mem (by omega)
    have h1 := okB_at hok _ hm
    rw [hget] at h1
    have h2 := numB_bound 10 (bytesOf t) (by decide) hok k
    have h3 := pow_small (b := 10) (.inl rfl) (m := 15) (.inl ⟨rfl, Nat.le_refl _⟩) (k := min k (bytesOf t).length) (by omega)
    have h4 := numB_take (b := 10) (l := bytesOf t) (k := k) (by omega)
    rw [hget] at h4
    exact ⟨h1, ⟨h2.1, by omega⟩, h4⟩
  have HE : Hid (numB 10 ((bytesOf t).take t.size) = numB 10 (bytesOf t)) := Lib.hid (by rw [← hlen, List.take_length])
  have HZ : Hid (numB 10 ((bytesOf t).take 0) = 0) := Lib.hid rfl
  clear hok hget hlen
  have hmv : IntKind.u64.wrap (IntKind.u64.wrap 18446744073709551616 - 1) = 18446744073709551615 := by
    rw [IntKind.wrap_u64, IntKind.wrap_u64]
    decide
  go_enter Tryz.func104, Tryz.ntmps104
  go_wp2
  go_loop [12, 13, 101] (fun vu vn vi => ∃ (k : Nat) (a : Int), vu = .bool false ∧ vn = .int .u64 a ∧ vi = .int .i64 k ∧ k ≤ t.size ∧ Hid (a = numB 10 ((bytesOf t).take k)))
    (fun _ _ vi => t.size - (Go.RowKit.intOf vi).toNat)
  case atStart => exact ⟨0, 0, rfl, rfl, rfl, by omega, HZ⟩
  case round =>
    obtain ⟨k, a, rfl, rfl, rfl, hk, hh⟩ := hrel
    by_cases hkn : k < t.size
    · have hc := hB k hkn
      have hr := bt_range t k
      obtain ⟨⟨d0, d1⟩, ⟨b0, b1⟩, hnx⟩ := HA.out k hkn
      rw [← hh.out] at b0 b1 hnx
      obtain ⟨c, hcc⟩ : ∃ c, bt t k = c := ⟨_, rfl⟩
      rw [hcc] at hc hr d0 d1 hnx
      obtain ⟨r0, r1⟩ := hr
      clear hcc hB hh
      have hg : 48 ≤ c ∧ c ≤ 57 := by
        unfold dgt at d0 d1
        by_cases h0 : 48 ≤ c ∧ c ≤ 57
        · exact h0
        · rw [if_neg h0] at d0 d1
          by_cases h1 : 97 ≤ c ∧ c ≤ 102
          · rw [if_pos h1] at d1; omega
          · rw [if_neg h1] at d0 d1
            by_cases h2 : 65 ≤ c ∧ c ≤ 70
            · rw [if_pos h2] at d1; omega
            · rw [if_neg h2] at d0; omega
      obtain ⟨g0, g1⟩ := hg
      have hd : dgt c = c - 48 := by unfold dgt; rw [if_pos ⟨g0, g1⟩]
      rw [hd] at hnx
      clear d0 d1 hd
      have iov : a * 10 + (c - 48) < 18446744073709551616 := by omega
      have HN : Hid (a * 10 + (c - 48) = numB 10 ((bytesOf t).take (k + 1))) := Lib.hid hnx.symm
      clear hnx
      go_wp2
      refine ⟨⟨k + 1, a * 10 + (c - 48), rfl, (by first | rfl | (congr 1; omega)), (by first | rfl | (congr 1; omega)), by omega, HN⟩, by simp [Go.RowKit.intOf]; omega⟩
    · have hkk : k = t.size := by omega
      subst hkk
      have hE := HE.out
      have hE2 := hh.out.trans hE
      clear hE hh HA HE HZ hB hcv
      subst hE2
      go_wp2
      go_ret2
      exact ⟨rfl, rfl⟩

set_option maxHeartbeats 8000000 in
set_option maxRecDepth 100000 in
theorem ParseIntIn16 (t : ByteArray) (hne : t.size ≠ 0) (h13 : t.size ≤ 13) (hok : okB 16 (bytesOf t) = true) (w : World) :
    Calls Tryz.prog 100 #[.string t, .int .i64 16, .int .i64 64] w fun e w' => e = .returned (.tuple #[.int .i64 (numB 16 (bytesOf t)), .nilIface]) ∧ w' = Lib.bytesWorld w 5 t := by
  have hU := ParseUint16 t hne h13 hok w
  have hemp : t.toList.isEmpty = false := by
    rw [← decide_eq_emptyBytes]
    exact decide_eq_false (fun h => hne (by rw [h]; rfl))
  have hlen : (bytesOf t).length = t.size := bytesOf_length t
  have hb := numB_bound 16 (bytesOf t) (by decide) hok t.size
  have hp := pow_small (b := 16) (.inr rfl) (m := 13) (.inr ⟨rfl, Nat.le_refl _⟩) (k := t.size) h13
  rw [← hlen, List.take_length, hlen, Nat.min_self] at hb
  have hpos : 0 < t.size := by omega
  have hm : (bytesOf t).getD 0 0 ∈ bytesOf t := by
    rw [List.getD_eq_getElem?_getD, List.getElem?_eq_getElem (by omega)]
    exact List.getElem_mem (by omega)
  have h1 := okB_at hok _ hm
  obtain ⟨c0, hs0, hc0⟩ : ∃ c0 : UInt8, t[0]'hpos = c0 ∧ (bytesOf t).getD 0 0 = (c0.toNat : Int) := by
    refine ⟨_, rfl, ?_⟩
    have h' : 0 < t.data.toList.length := by rw [data_length]; exact hpos
    simp only [bytesOf, List.getD_eq_getElem?_getD, List.getElem?_map, List.getElem?_eq_getElem h', Option.map_some, Option.getD_some]
    rfl
  rw [hc0] at h1
  have i43 : ¬ (c0.toNat : Int) = 43 := by
    intro h
    rw [h] at h1
    exact absurd h1.1 (by decide)
  have i45 : ¬ (c0.toNat : Int) = 45 := by
    intro h
    rw [h] at h1
    exact absurd h1.1 (by decide)
  obtain ⟨a, ha⟩ : ∃ a : Int, numB 16 (bytesOf t) = a := ⟨_, rfl⟩
  rw [ha] at hU hb ⊢
  obtain ⟨a0, a1⟩ := hb
  have iin : a < 9223372036854775808 := by omega
  have a2 : a ≤ 18446744073709551615 := by omega
  clear ha h1 hm hp a1 hc0 hok hlen
  go_enter Tryz.func100, Tryz.ntmps100
  go_wp2_with (go_at_call 104; refine hU.mono ?_; rintro e w1 ⟨rfl, rfl⟩)
  go_wp2
  go_ret2
  exact ⟨rfl, rfl⟩
set_option maxHeartbeats 8000000 in
set_option maxRecDepth 100000 in
theorem ParseInt16 (t : ByteArray) (hne : t.size ≠ 0) (h13 : t.size ≤ 13) (hok : okB 16 (bytesOf t) = true) (w : World) :
    Calls Tryz.prog 84 #[.string t, .int .i64 16, .int .i64 64] w fun e w' => e = .returned (.tuple #[.int .i64 (numB 16 (bytesOf t)), .nilIface]) ∧ w' = Lib.bytesWorld w 5 t := by
  have hI := ParseIntIn16 t hne h13 hok w
  clear hok
  go_enter Tryz.func84, Tryz.ntmps84
  go_wp2_with (go_at_call 100; refine hI.mono ?_; rintro e w1 ⟨rfl, rfl⟩)
  go_wp2
  go_ret2
  exact ⟨rfl, rfl⟩

set_option maxHeartbeats 8000000 in
set_option maxRecDepth 100000 in
theorem ParseIntIn10 (t : ByteArray) (hne : t.size ≠ 0) (h13 : t.size ≤ 15) (hok : okB 10 (bytesOf t) = true) (w : World) :
    Calls Tryz.prog 100 #[.string t, .int .i64 10, .int .i64 64] w fun e w' => e = .returned (.tuple #[.int .i64 (numB 10 (bytesOf t)), .nilIface]) ∧ w' = Lib.bytesWorld w 5 t := by
  have hU := ParseUint10 t hne h13 hok w
  have hemp : t.toList.isEmpty = false := by
    rw [← decide_eq_emptyBytes]
    exact decide_eq_false (fun h => hne (by rw [h]; rfl))
  have hlen : (bytesOf t).length = t.size := bytesOf_length t
  have hb := numB_bound 10 (bytesOf t) (by decide) hok t.size
  have hp := pow_small (b := 10) (.inl rfl) (m := 15) (.inl ⟨rfl, Nat.le_refl _⟩) (k := t.size) h13
  rw [← hlen, List.take_length, hlen, Nat.min_self] at hb
  have hpos : 0 < t.size := by omega
  have hm : (bytesOf t).getD 0 0 ∈ bytesOf t := by
    rw [List.getD_eq_getElem?_getD, List.getElem?_eq_getElem (by omega)]
    exact List.getElem_mem (by omega)
  have h1 := okB_at hok _ hm
  obtain ⟨c0, hs0, hc0⟩ : ∃ c0 : UInt8, t[0]'hpos = c0 ∧ (bytesOf t).getD 0 0 = (c0.toNat : Int) := by
    refine ⟨_, rfl, ?_⟩
    have h' : 0 < t.data.toList.length := by rw [data_length]; exact hpos
    simp only [bytesOf, List.getD_eq_getElem?_getD, List.getElem?_map, List.getElem?_eq_getElem h', Option.map_some, Option.getD_some]
    rfl
  rw [hc0] at h1
  have i43 : ¬ (c0.toNat : Int) = 43 := by
    intro h
    rw [h] at h1
    exact absurd h1.1 (by decide)
  have i45 : ¬ (c0.toNat : Int) = 45 := by
    intro h
    rw [h] at h1
    exact absurd h1.1 (by decide)
  obtain ⟨a, ha⟩ : ∃ a : Int, numB 10 (bytesOf t) = a := ⟨_, rfl⟩
  rw [ha] at hU hb ⊢
  obtain ⟨a0, a1⟩ := hb
  have iin : a < 9223372036854775808 := by omega
  have a2 : a ≤ 18446744073709551615 := by omega
  clear ha h1 hm hp a1 hc0 hok hlen
  go_enter Tryz.func100, Tryz.ntmps100
  go_wp2_with (go_at_call 104; refine hU.mono ?_; rintro e w1 ⟨rfl, rfl⟩)
  go_wp2
  go_ret2
  exact ⟨rfl, rfl⟩
set_option maxHeartbeats 8000000 in
set_option maxRecDepth 100000 in
theorem ParseInt10 (t : ByteArray) (hne : t.size ≠ 0) (h13 : t.size ≤ 15) (hok : okB 10 (bytesOf t) = true) (w : World) :
    Calls Tryz.prog 84 #[.string t, .int .i64 10, .int .i64 64] w fun e w' => e = .returned (.tuple #[.int .i64 (numB 10 (bytesOf t)), .nilIface]) ∧ w' = Lib.bytesWorld w 5 t := by
  have hI := ParseIntIn10 t hne h13 hok w
  clear hok
  go_enter Tryz.func84, Tryz.ntmps84
  go_wp2_with (go_at_call 100; refine hI.mono ?_; rintro e w1 ⟨rfl, rfl⟩)
  go_wp2
  go_ret2
  exact ⟨rfl, rfl⟩

/-- What is told of strconv.ParseInt: the number of few digits at base 10 or 16. -/
def strconv_ParseInt.f (a0 : ByteArray) (a1 a2 : Int) : Option (Int × Option Int) :=
  if a2 = 64 ∧ a0.size ≠ 0 ∧ okB a1 (bytesOf a0) = true ∧ ((a1 = 16 ∧ a0.size ≤ 13) ∨ (a1 = 10 ∧ a0.size ≤ 15)) then some (numB a1 (bytesOf a0), none) else none
theorem strconv_ParseInt.calls (a0 : ByteArray) (a1 a2 : Int) (r1 : Int) (r2 : Option Int) (w : World) (h : strconv_ParseInt.f a0 a1 a2 = some (r1, r2)) :
    Calls Tryz.prog 84 #[.string a0, .int .i64 a1, .int .i64 a2] w fun e w' => e = .returned (.tuple #[.int .i64 r1, errW r2]) ∧ Below w.heap.size w w' := by
  unfold strconv_ParseInt.f at h
  split at h
  · rename_i hc
    obtain ⟨rfl, hne, hok, hb⟩ := hc
    have e := Option.some.inj h
    rw [Prod.mk.injEq] at e
    obtain ⟨rfl, rfl⟩ := e
    rcases hb with ⟨rfl, hs⟩ | ⟨rfl, hs⟩
    · refine (ParseInt16 a0 hne hs hok w).mono ?_
      rintro e w' ⟨rfl, rfl⟩
      exact ⟨rfl, Lib.bytesWorld_below _ _ _⟩
    · refine (ParseInt10 a0 hne hs hok w).mono ?_
      rintro e w' ⟨rfl, rfl⟩
      exact ⟨rfl, Lib.bytesWorld_below _ _ _⟩
  · cases h
end Go.Proofs.YtonimccihcodnaaGreatDoor.P
namespace Go.Proofs.YtonimccihcodnaaGreatDoor.P
open Go.RowKit Go.Proofs.YtonimccihcodnaaGreatDoorW.PrintWords Go.Proofs.YtonimccihcodnaaGreatDoorW.PrintLast Go.Proofs.YtonimccihcodnaaGreatDoorW.PrintMore
attribute [local go_sem] max2_int min2_int max_two min_two max_three min_three max_four min_four   -- for this text's walks alone
set_option linter.unusedVariables false
set_option linter.unusedSimpArgs false

/-! ### impl_TokenOk_1: function 43 -/
def impl_TokenOk_1.f (a0 : Int) : Option (Bool) := (impl_isLetter.f a0).bind fun t101 => (if t101 = true then (some true) else ((impl_isDigit.f a0).bind fun t102 => (if t102 = true then (some true) else ((strings_IndexByte.f (⟨#[33, 35, 36, 37, 38, 39, 42, 43, 45, 46, 94, 95, 124, 126, 96]⟩ : ByteArray) a0).bind fun t103 => (some (decide (t103 ≥ 0)))))))
set_option maxHeartbeats 8000000 in
set_option maxRecDepth 100000 in
theorem impl_TokenOk_1.calls (a0 : Int) (r : Bool) (w : World) (h : impl_TokenOk_1.f a0 = some r) :
  Calls Tryz.prog 43 #[.int .u8 a0] w fun e w' => e = .returned (.bool r) ∧ Drawn0 w w' := by
 have H : ((impl_isLetter.f a0).bind fun t101 => (if t101 = true then (some true) else ((impl_isDigit.f a0).bind fun t102 => (if t102 = true then (some true) else ((strings_IndexByte.f (⟨#[33, 35, 36, 37, 38, 39, 42, 43, 45, 46, 94, 95, 124, 126, 96]⟩ : ByteArray) a0).bind fun t103 => (some (decide (t103 ≥ 0)))))))) = some r := h
 clear h
 obtain ⟨t101, A20, H⟩ := Option.bind_eq_some_iff.mp H
 try dsimp only at H
 have A2 := Aside0.mk A20
 clear A20
 by_cases c3 : t101 = true
 ·
  subst c3
  have H1 : (some true) = some r := by rw [if_pos rfl] at H; exact H
  clear H
  have H := H1
  clear H1
  obtain rfl := Option.some.inj H
  go_enter Tryz.func43, Tryz.ntmps43
  go_wp2_with (first | ((with_reducible refine gate_callee (f := 44) rfl ?_); refine goesL_ (some 4) rfl rfl Tryz.func44 (by kernel_rfl) rfl #[.int .u8 a0] rfl mc ?_; (with_reducible refine (impl_isLetter.calls a0 true _ A2.out).mono ?_); rintro e w' ⟨rfl, ⟨nd, rfl⟩⟩; refine ⟨_, rfl, ?_⟩))
  go_ret
  exact ⟨by first | rfl | (simp; done) | (simp [*]; done), by repeat (first | exact Drawn0.refl _ | apply Drawn0.step)⟩
 ·
  replace c3 := Bool.eq_false_iff.mpr c3
  subst c3
  rw [if_neg (show ¬ (false = true) by decide)] at H
  obtain ⟨t102, A40, H⟩ := Option.bind_eq_some_iff.mp H
  try dsimp only at H
  have A4 := Aside0.mk A40
  clear A40
  by_cases c5 : t102 = true
  ·
   subst c5
   have H1 : (some true) = some r := by rw [if_pos rfl] at H; exact H
   clear H
   have H := H1
   clear H1
   obtain rfl := Option.some.inj H
   go_enter Tryz.func43, Tryz.ntmps43
   go_wp2_with (first | ((with_reducible refine gate_callee (f := 44) rfl ?_); refine goesL_ (some 4) rfl rfl Tryz.func44 (by kernel_rfl) rfl #[.int .u8 a0] rfl mc ?_; (with_reducible refine (impl_isLetter.calls a0 false _ A2.out).mono ?_); rintro e w' ⟨rfl, ⟨nd, rfl⟩⟩; refine ⟨_, rfl, ?_⟩) | (go_at_call 45; (with_reducible refine (impl_isDigit.calls a0 true _ A4.out).mono ?_); rintro e w' ⟨rfl, ⟨nd, rfl⟩⟩))
   go_ret
   exact ⟨by first | rfl | (simp; done) | (simp [*]; done), by repeat (first | exact Drawn0.refl _ | apply Drawn0.step)⟩
  ·
   replace c5 := Bool.eq_false_iff.mpr c5
   subst c5
   rw [if_neg (show ¬ (false = true) by decide)] at H
   replace H := Option.bind_eq_some_iff.mp H
   obtain ⟨t103, A60, H⟩ := H
   replace H : (some (decide (t103 ≥ 0))) = some r := H
   have A6 := Aside0.mk A60
   clear A60
   obtain rfl := Option.some.inj H
   go_enter Tryz.func43, Tryz.ntmps43
   go_wp2_with (first | ((with_reducible refine gate_callee (f := 44) rfl ?_); refine goesL_ (some 4) rfl rfl Tryz.func44 (by kernel_rfl) rfl #[.int .u8 a0] rfl mc ?_; (with_reducible refine (impl_isLetter.calls a0 false _ A2.out).mono ?_); rintro e w' ⟨rfl, ⟨nd, rfl⟩⟩; refine ⟨_, rfl, ?_⟩) | (go_at_call 45; (with_reducible refine (impl_isDigit.calls a0 false _ A4.out).mono ?_); rintro e w' ⟨rfl, ⟨nd, rfl⟩⟩) | (go_at_call 46; (with_reducible refine (strings_IndexByte.calls (⟨#[33, 35, 36, 37, 38, 39, 42, 43, 45, 46, 94, 95, 124, 126, 96]⟩ : ByteArray) a0 t103 _ A6.out).mono ?_); rintro e w' ⟨rfl, ⟨nd, rfl⟩⟩))
   go_ret
   exact ⟨by first | rfl | (simp; done) | (simp [*]; done), by repeat (first | exact Drawn0.refl _ | apply Drawn0.step)⟩
/-! ### impl_isHex: function 83 -/
def impl_isHex.f (a0 : Int) : Option (Bool) := (impl_isDigit.f a0).bind fun t101 => (if t101 = true then (some true) else (if a0 ≥ 97 then (if a0 ≤ 102 then (some true) else (if a0 ≥ 65 then (some (decide (a0 ≤ 70))) else (some false))) else (if a0 ≥ 65 then (some (decide (a0 ≤ 70))) else (some false))))
set_option maxHeartbeats 8000000 in
set_option maxRecDepth 100000 in
theorem impl_isHex.calls (a0 : Int) (r : Bool) (w : World) (h : impl_isHex.f a0 = some r) :
  Calls Tryz.prog 83 #[.int .u8 a0] w fun e w' => e = .returned (.bool r) ∧ Drawn0 w w' := by
 have H : ((impl_isDigit.f a0).bind fun t101 => (if t101 = true then (some true) else (if a0 ≥ 97 then (if a0 ≤ 102 then (some true) else (if a0 ≥ 65 then (some (decide (a0 ≤ 70))) else (some false))) else (if a0 ≥ 65 then (some (decide (a0 ≤ 70))) else (some false))))) = some r := h
 clear h
 obtain ⟨t101, A20, H⟩ := Option.bind_eq_some_iff.mp H
 try dsimp only at H
 have A2 := Aside0.mk A20
 clear A20
 by_cases c3 : t101 = true
 ·
  subst c3
  have H1 : (some true) = some r := by rw [if_pos rfl] at H; exact H
  clear H
  have H := H1
  clear H1
  obtain rfl := Option.some.inj H
  go_enter Tryz.func83, Tryz.ntmps83
  go_wp2_with (first | ((with_reducible refine gate_callee (f := 45) rfl ?_); refine goesL_ (some 4) rfl rfl Tryz.func45 (by kernel_rfl) rfl #[.int .u8 a0] rfl mc ?_; (with_reducible refine (impl_isDigit.calls a0 true _ A2.out).mono ?_); rintro e w' ⟨rfl, ⟨nd, rfl⟩⟩; refine ⟨_, rfl, ?_⟩))
  go_ret
  exact ⟨by first | rfl | (simp; done) | (simp [*]; done), by repeat (first | exact Drawn0.refl _ | apply Drawn0.step)⟩
 ·
  replace c3 := Bool.eq_false_iff.mpr c3
  subst c3
  rw [if_neg (show ¬ (false = true) by decide)] at H
  by_cases c4 : a0 ≥ 97
  ·
   rw [if_pos c4] at H
   have c4b0 : decide (97 ≤ a0) = true := decide_eq_true c4
   clear c4
   by_cases c5 : a0 ≤ 102
   ·
    rw [if_pos c5] at H
    have c5b0 : decide (a0 ≤ 102) = true := decide_eq_true c5
    clear c5
    obtain rfl := Option.some.inj H
    go_enter Tryz.func83, Tryz.ntmps83
    go_wp2_with (first | ((with_reducible refine gate_callee (f := 45) rfl ?_); refine goesL_ (some 4) rfl rfl Tryz.func45 (by kernel_rfl) rfl #[.int .u8 a0] rfl mc ?_; (with_reducible refine (impl_isDigit.calls a0 false _ A2.out).mono ?_); rintro e w' ⟨rfl, ⟨nd, rfl⟩⟩; refine ⟨_, rfl, ?_⟩))
    go_ret
    exact ⟨by first | rfl | (simp; done) | (simp [*]; done), by repeat (first | exact Drawn0.refl _ | apply Drawn0.step)⟩
   ·
    rw [if_neg c5] at H
    have c5b0 : decide (a0 ≤ 102) = false := decide_eq_false c5
    clear c5
    by_cases c6 : a0 ≥ 65
    ·
     rw [if_pos c6] at H
     have c6b0 : decide (65 ≤ a0) = true := decide_eq_true c6
     clear c6
     obtain rfl := Option.some.inj H
     go_enter Tryz.func83, Tryz.ntmps83
     go_wp2_with (first | ((with_reducible refine gate_callee (f := 45) rfl ?_); refine goesL_ (some 4) rfl rfl Tryz.func45 (by kernel_rfl) rfl #[.int .u8 a0] rfl mc ?_; (with_reducible refine (impl_isDigit.calls a0 false _ A2.out).mono ?_); rintro e w' ⟨rfl, ⟨nd, rfl⟩⟩; refine ⟨_, rfl, ?_⟩))
     go_ret
     exact ⟨by first | rfl | (simp; done) | (simp [*]; done), by repeat (first | exact Drawn0.refl _ | apply Drawn0.step)⟩
    ·
     rw [if_neg c6] at H
     have c6b0 : decide (65 ≤ a0) = false := decide_eq_false c6
     clear c6
     obtain rfl := Option.some.inj H
     go_enter Tryz.func83, Tryz.ntmps83
     go_wp2_with (first | ((with_reducible refine gate_callee (f := 45) rfl ?_); refine goesL_ (some 4) rfl rfl Tryz.func45 (by kernel_rfl) rfl #[.int .u8 a0] rfl mc ?_; (with_reducible refine (impl_isDigit.calls a0 false _ A2.out).mono ?_); rintro e w' ⟨rfl, ⟨nd, rfl⟩⟩; refine ⟨_, rfl, ?_⟩))
     go_ret
     exact ⟨by first | rfl | (simp; done) | (simp [*]; done), by repeat (first | exact Drawn0.refl _ | apply Drawn0.step)⟩
  ·
   rw [if_neg c4] at H
   have c4b0 : decide (97 ≤ a0) = false := decide_eq_false c4
   clear c4
   by_cases c7 : a0 ≥ 65
   ·
    rw [if_pos c7] at H
    have c7b0 : decide (65 ≤ a0) = true := decide_eq_true c7
    clear c7
    obtain rfl := Option.some.inj H
    go_enter Tryz.func83, Tryz.ntmps83
    go_wp2_with (first | ((with_reducible refine gate_callee (f := 45) rfl ?_); refine goesL_ (some 4) rfl rfl Tryz.func45 (by kernel_rfl) rfl #[.int .u8 a0] rfl mc ?_; (with_reducible refine (impl_isDigit.calls a0 false _ A2.out).mono ?_); rintro e w' ⟨rfl, ⟨nd, rfl⟩⟩; refine ⟨_, rfl, ?_⟩))
    go_ret
    exact ⟨by first | rfl | (simp; done) | (simp [*]; done), by repeat (first | exact Drawn0.refl _ | apply Drawn0.step)⟩
   ·
    rw [if_neg c7] at H
    have c7b0 : decide (65 ≤ a0) = false := decide_eq_false c7
    clear c7
    obtain rfl := Option.some.inj H
    go_enter Tryz.func83, Tryz.ntmps83
    go_wp2_with (first | ((with_reducible refine gate_callee (f := 45) rfl ?_); refine goesL_ (some 4) rfl rfl Tryz.func45 (by kernel_rfl) rfl #[.int .u8 a0] rfl mc ?_; (with_reducible refine (impl_isDigit.calls a0 false _ A2.out).mono ?_); rintro e w' ⟨rfl, ⟨nd, rfl⟩⟩; refine ⟨_, rfl, ?_⟩))
    go_ret
    exact ⟨by first | rfl | (simp; done) | (simp [*]; done), by repeat (first | exact Drawn0.refl _ | apply Drawn0.step)⟩
end Go.Proofs.YtonimccihcodnaaGreatDoor.P
namespace Go.Proofs.YtonimccihcodnaaGreatDoor.P
set_option linter.unusedVariables false
set_option linter.unusedSimpArgs false
open Go.RowKit Go.Lib Go.Shelf Go.Proofs.YtonimccihcodnaaGreatDoorW.PrintWords Go.Proofs.YtonimccihcodnaaGreatDoorW.PrintLast Go.Proofs.YtonimccihcodnaaGreatDoorW.PrintMore

/-- The function that 'all' makes out of a predicate g: 'not g'. -/
theorem all_pred (g : Nat) (p : Int → Bool) (B : Nat) (w : World) (hB : B < w.heap.size) (hcell : w.cell? ⟨B, 0, none⟩ = some (.func (.func g) #[] #[]))
    (eg : ∀ args w, (callFunc g args).run Tryz.prog w = .ok (.enter g args) w) (hp : PredAt Tryz.prog g #[] (Value.int .u8) p w) :
    PredAt Tryz.prog 62 #[.pointer (some ⟨B, 0, none⟩)] (Value.int .u8) (fun x => !p x) w := fun W x hb => by
  have hc : W.cell? ⟨B, 0, none⟩ = some (.func (.func g) #[] #[]) := (hb.cell (p := ⟨B, 0, none⟩) hB).trans hcell
  have hcall := hp W x hb
  show Calls Tryz.prog 62 #[.int .u8 x, .pointer (some ⟨B, 0, none⟩)] W _
  unfold FnGives at hcall
  obtain ⟨y, hy⟩ : ∃ y, p x = y := ⟨_, rfl⟩
  rw [hy] at hcall
  have Hy := Lib.hid hy
  clear hy
  go_enter Tryz.func62, Tryz.ntmps62
  go_wp2_with (go_at_fn g; refine hcall.mono ?_; rintro e w' ⟨rfl, q, rfl⟩)
  go_ret
  exact ⟨by rw [Hy.out]; rfl, _, rfl⟩

theorem any_not (l : List Int) (p : Int → Bool) : l.any (fun x => !p x) = !(l.all p) := by
  induction l with
  | nil => rfl
  | cons a l ih => simp [List.any_cons, List.all_cons, ih]
theorem below_bytesWorld {w W : World} (h : Below w.heap.size w W) (hle : w.heap.size ≤ W.heap.size) (e : TypeId) (s : ByteArray) : Below w.heap.size w (bytesWorld W e s) :=
  ⟨h.os, h.tape, h.output, by rw [bytesWorld_size]; omega, fun j hj => (bytesWorld_at_old W e s j (by omega)).trans (h.block j hj)⟩

set_option maxHeartbeats 1000000 in
/-- 'all', of whatever predicate that only reads. -/
theorem all_any (g : Nat) (p : Int → Bool) (s : ByteArray) (w : World)
    (eg : ∀ args w, (callFunc g args).run Tryz.prog w = .ok (.enter g args) w) (hp : PredAt Tryz.prog g #[] (Value.int .u8) p w) (hs : s.size ≤ 9223372036854775807) :
    Calls Tryz.prog 42 #[.string s, .func (.func g) #[] #[]] w fun e w' => e = .returned (.bool ((bytesOf s).all p)) ∧ Below w.heap.size w w' := by
  have eg1 : ∀ args w, (callFunc 62 args).run Tryz.prog w = .ok (.enter 62 args) w := enters_of Tryz.func62 (by kernel_rfl) rfl
  have kc := fun W : World => Lib.run_convert_string_bytes (P := Tryz.prog) W 9 25 5 s Tryz.underlying9 Tryz.underlying25 Tryz.underlying5
  have hB0 : Below w.heap.size w (bytesWorld (w.alloc (.cells #[.func (.func g) #[] #[]] 49)) 5 s) := below_bytesWorld ((Below.refl _ w).alloc (Nat.le_refl _) _) (by simp) 5 s
  have hcon := fun c => AnyE.slices_ContainsFunc Tryz.layCFb (Value.int .u8) (fun x => !p x) 62 #[.pointer (some ⟨w.heap.size, 0, none⟩)] eg1 (w.heap.size + 1) 0 s.size c (bytesOf s) (bytesWorld (w.alloc (.cells #[.func (.func g) #[] #[]] 49)) 5 s)
    (all_pred g p w.heap.size _ (by rw [bytesWorld_size]; simp; omega) (by rw [bytesWorld_old _ _ _ _ (by simp)]; simp) eg (hp.later hB0)) (by rw [bytesOf_length]; exact Nat.le_refl _) hs
    (fun j hj => by
      have hj' : j < s.size := by rw [bytesOf_length] at hj; exact hj
      have h1 := bytesWorld_cell (w.alloc (.cells #[.func (.func g) #[] #[]] 49)) 5 s j hj'
      rw [Nat.zero_add]
      have h2 : (w.alloc (.cells #[.func (.func g) #[] #[]] 49)).heap.size = w.heap.size + 1 := by simp
      rw [h2] at h1
      rw [h1]
      simp [bytesOf, hj'])
  change ∀ c, Calls Tryz.prog 61 _ _ _ at hcon
  have hany : ((bytesOf s).take s.size).any (fun x => !p x) = !((bytesOf s).all p) := by
    rw [List.take_of_length_le (by rw [bytesOf_length]; exact Nat.le_refl _)]
    exact any_not _ _
  rw [hany] at hcon
  have HB := Lib.hid (fun q => below_drewN' hB0 q)
  clear hany hB0
  obtain ⟨y, hy⟩ : ∃ y, (bytesOf s).all p = y := ⟨_, rfl⟩
  rw [hy] at hcon
  have H1 := Lib.hid hy
  clear hy
  go_enter Tryz.func42, Tryz.ntmps42
  go_wp2_with fail
  refine (hcon _).mono ?_
  rintro e w' ⟨rfl, q, rfl⟩
  go_wp2_with fail
  go_ret
  exact ⟨by rw [H1.out]; rfl, HB.out _⟩

theorem tot_ite {α : Type} {c : Prop} [Decidable c] {x y : Option α} (hx : ∃ b, x = some b) (hy : ∃ b, y = some b) : ∃ b, (if c then x else y) = some b := by
  split
  · exact hx
  · exact hy
theorem tot_bind {α β : Type} {x : Option α} {f : α → Option β} (hx : ∃ a, x = some a) (hf : ∀ a, ∃ b, f a = some b) : ∃ b, x.bind f = some b := by
  obtain ⟨a, rfl⟩ := hx
  exact hf a

/-- A printed predicate, as 'PredAt' asks it. -/
theorem predAt_of (g : Nat) (f : Int → Option Bool) (w : World) (ht : ∀ x, ∃ b, f x = some b)
    (hc : ∀ (x : Int) (r : Bool) (W : World), f x = some r → Calls Tryz.prog g #[.int .u8 x] W fun e w' => e = .returned (.bool r) ∧ Drawn0 W w') :
    PredAt Tryz.prog g #[] (Value.int .u8) (fun x => f x == some true) w := fun W x _ => by
  obtain ⟨b, hb⟩ := ht x
  unfold FnGives
  refine (hc x b W hb).mono ?_
  rintro e w' ⟨rfl, q, rfl⟩
  refine ⟨?_, q, rfl⟩
  simp only [hb]
  cases b <;> rfl

theorem total_impl_isHex (x : Int) : ∃ b, impl_isHex.f x = some b := by unfold impl_isHex.f; (repeat' first | exact ⟨_, rfl⟩ | refine tot_ite ?_ ?_ | refine tot_bind ?_ ?_ | intro _ | unfold impl_isDigit.f | unfold impl_isLetter.f | unfold strings_IndexByte.f)
theorem total_impl_isDigit (x : Int) : ∃ b, impl_isDigit.f x = some b := by unfold impl_isDigit.f; (repeat' first | exact ⟨_, rfl⟩ | refine tot_ite ?_ ?_ | refine tot_bind ?_ ?_ | intro _ | unfold impl_isDigit.f | unfold impl_isLetter.f | unfold strings_IndexByte.f)
theorem total_impl_TokenOk_1 (x : Int) : ∃ b, impl_TokenOk_1.f x = some b := by unfold impl_TokenOk_1.f; (repeat' first | exact ⟨_, rfl⟩ | refine tot_ite ?_ ?_ | refine tot_bind ?_ ?_ | intro _ | unfold impl_isDigit.f | unfold impl_isLetter.f | unfold strings_IndexByte.f)

/-- 'all' at the function number a1. -/
def impl_all.f (a0 : ByteArray) (a1 : Nat) : Option Bool :=
  if a0.size ≤ 9223372036854775807 then
    if a1 = 83 then some ((bytesOf a0).all fun c => impl_isHex.f c == some true) else
    if a1 = 45 then some ((bytesOf a0).all fun c => impl_isDigit.f c == some true) else
    if a1 = 43 then some ((bytesOf a0).all fun c => impl_TokenOk_1.f c == some true) else
    none
  else none
theorem impl_all.calls (a0 : ByteArray) (a1 : Nat) (r : Bool) (w : World) (h : impl_all.f a0 a1 = some r) :
    Calls Tryz.prog 42 #[.string a0, .func (.func a1) #[] #[]] w fun e w' => e = .returned (.bool r) ∧ Below w.heap.size w w' := by
  unfold impl_all.f at h
  split at h
  · rename_i hs
    split at h
    · rename_i e
      subst e
      obtain rfl := Option.some.inj h
      exact all_any _ _ a0 w (enters_of Tryz.func83 (by kernel_rfl) rfl) (predAt_of _ _ w total_impl_isHex fun x r W hx => impl_isHex.calls x r W hx) hs
    split at h
    · rename_i e
      subst e
      obtain rfl := Option.some.inj h
      exact all_any _ _ a0 w (enters_of Tryz.func45 (by kernel_rfl) rfl) (predAt_of _ _ w total_impl_isDigit fun x r W hx => impl_isDigit.calls x r W hx) hs
    split at h
    · rename_i e
      subst e
      obtain rfl := Option.some.inj h
      exact all_any _ _ a0 w (enters_of Tryz.func43 (by kernel_rfl) rfl) (predAt_of _ _ w total_impl_TokenOk_1 fun x r W hx => impl_TokenOk_1.calls x r W hx) hs
    · cases h
  · cases h
end Go.Proofs.YtonimccihcodnaaGreatDoor.P
namespace Go.Proofs.YtonimccihcodnaaGreatDoor.P
open Go.RowKit Go.Proofs.YtonimccihcodnaaGreatDoorW.PrintWords Go.Proofs.YtonimccihcodnaaGreatDoorW.PrintLast Go.Proofs.YtonimccihcodnaaGreatDoorW.PrintMore
attribute [local go_sem] max2_int min2_int max_two min_two max_three min_three max_four min_four   -- for this text's walks alone
set_option linter.unusedVariables false
set_option linter.unusedSimpArgs false

/-! ### impl_HexDigits: function 58 -/
def impl_HexDigits.f (a0 : ByteArray) : Option (Int × Bool) := if (a0.size : Int) < 1 then (some (0, false)) else (if (a0.size : Int) > 13 then (some (0, false)) else ((impl_all.f a0 83).bind fun t101 => (if t101 = true then ((strconv_ParseInt.f a0 16 64).bind fun bt102 => (some (bt102.1, true))) else (some (0, false)))))
set_option maxHeartbeats 8000000 in
set_option maxRecDepth 100000 in
theorem impl_HexDigits.calls (a0 : ByteArray) (r1 : Int) (r2 : Bool) (w : World) (h : impl_HexDigits.f a0 = some (r1, r2)) :
  Calls Tryz.prog 58 #[.string a0] w fun e w' => e = .returned (.tuple #[.int .i64 r1, .bool r2]) ∧ Below w.heap.size w w' := by
 have HB := Aside0.mk (Below.refl w.heap.size w)
 have H : (if (a0.size : Int) < 1 then (some (0, false)) else (if (a0.size : Int) > 13 then (some (0, false)) else ((impl_all.f a0 83).bind fun t101 => (if t101 = true then ((strconv_ParseInt.f a0 16 64).bind fun bt102 => (some (bt102.1, true))) else (some (0, false)))))) = some (r1, r2) := h
 clear h
 by_cases c2 : (a0.size : Int) < 1
 ·
  rw [if_pos c2] at H
  have c2b0 : decide ((a0.size : Int) < 1) = true := decide_eq_true c2
  have c2b1 : decide (a0.size < 1) = true := decide_eq_true (by omega)
  clear c2
  simp only [Option.some.injEq, Prod.mk.injEq] at H
  obtain ⟨rfl, rfl⟩ := H
  go_enter Tryz.func58, Tryz.ntmps58
  go_wp2
  go_ret2
  exact ⟨er, bh⟩
 ·
  rw [if_neg c2] at H
  have c2b0 : decide ((a0.size : Int) < 1) = false := decide_eq_false c2
  have c2b1 : decide (a0.size < 1) = false := decide_eq_false (by omega)
  clear c2
  by_cases c3 : (a0.size : Int) > 13
  ·
   rw [if_pos c3] at H
   have c3b0 : decide (13 < (a0.size : Int)) = true := decide_eq_true c3
   have c3b1 : decide (13 < a0.size) = true := decide_eq_true (by omega)
   clear c3
   simp only [Option.some.injEq, Prod.mk.injEq] at H
   obtain ⟨rfl, rfl⟩ := H
   go_enter Tryz.func58, Tryz.ntmps58
   go_wp2
   go_ret2
   exact ⟨er, bh⟩
  ·
   rw [if_neg c3] at H
   have c3b0 : decide (13 < (a0.size : Int)) = false := decide_eq_false c3
   have c3b1 : decide (13 < a0.size) = false := decide_eq_false (by omega)
   clear c3
   obtain ⟨t101, A40, H⟩ := Option.bind_eq_some_iff.mp H
   try dsimp only at H
   have A4 := Aside0.mk A40
   clear A40
   by_cases c5 : t101 = true
   ·
    subst c5
    rw [if_pos rfl] at H
    replace H := Option.bind_eq_some_iff.mp H
    obtain ⟨⟨t102, t103⟩, A60, H⟩ := H
    replace H : (some (t102, true)) = some (r1, r2) := H
    have A6 := Aside0.mk A60
    clear A60
    simp only [Option.some.injEq, Prod.mk.injEq] at H
    obtain ⟨rfl, rfl⟩ := H
    go_enter Tryz.func58, Tryz.ntmps58
    go_wp2_with (first | (go_at_call 42; (with_reducible refine (impl_all.calls a0 83 true _ A4.out).mono ?_); rintro e w7 ⟨rfl, hb⟩; replace HB := Aside0.mk (below_step bh hb); (try clear hb); (try clear hb2); (try clear hk); (try clear hi)) | ((with_reducible refine gate_callee (f := 84) rfl ?_); refine goesL_ (some 21) rfl rfl Tryz.func84 (by kernel_rfl) rfl #[.string a0, .int .i64 16, .int .i64 64] rfl mc ?_; (with_reducible refine (strconv_ParseInt.calls a0 16 64 t102 t103 _ A6.out).mono ?_); rintro e w8 ⟨rfl, hb⟩; refine ⟨_, rfl, ?_⟩; replace HB := Aside0.mk (below_step bh hb); (try clear hb); (try clear hb2); (try clear hk); (try clear hi); (try simp only [errW_none, errW_some])))
    go_ret2
    exact ⟨er, bh⟩
   ·
    replace c5 := Bool.eq_false_iff.mpr c5
    subst c5
    have H1 : (some (0, false)) = some (r1, r2) := by rw [if_neg (show ¬ (false = true) by decide)] at H; exact H
    clear H
    have H := H1
    clear H1
    simp only [Option.some.injEq, Prod.mk.injEq] at H
    obtain ⟨rfl, rfl⟩ := H
    go_enter Tryz.func58, Tryz.ntmps58
    go_wp2_with (first | (go_at_call 42; (with_reducible refine (impl_all.calls a0 83 false _ A4.out).mono ?_); rintro e w9 ⟨rfl, hb⟩; replace HB := Aside0.mk (below_step bh hb); (try clear hb); (try clear hb2); (try clear hk); (try clear hi)))
    go_ret2
    exact ⟨er, bh⟩
/-! ### impl_Uncoded: function 38 -/
def impl_Uncoded.l0 : Nat → ByteArray → List Int → Int → Option (ByteArray × Bool)
 | 0, _, _, _ => none
 | k + 1, x0, x4, x5 => if x5 < (x0.size : Int) then (if 0 ≤ x5 then (if (bt x0 x5) = 37 then (if 0 ≤ (wrap64 (x5 + 1)) then (if (wrap64 (x5 + 1)) ≤ (mn (wrap64 (x5 + 3)) (x0.size : Int)) then (if (mn (wrap64 (x5 + 3)) (x0.size : Int)) ≤ (x0.size : Int) then ((impl_HexDigits.f (x0.extract ((wrap64 (x5 + 1)) : Int).toNat ((mn (wrap64 (x5 + 3)) (x0.size : Int)) : Int).toNat)).bind fun bt104 => (if bt104.2 = true then (if (wrap64 (x5 + 3)) > (x0.size : Int) then (some ((⟨#[]⟩ : ByteArray), false)) else (if x4.length < 140737488355328 then (impl_Uncoded.l0 k x0 (x4 ++ [(bt104.1) % 256]) (wrap64 ((wrap64 (x5 + 2)) + 1))) else (none))) else (some ((⟨#[]⟩ : ByteArray), false)))) else (none)) else (none)) else (none)) else (if x4.length < 140737488355328 then (impl_Uncoded.l0 k x0 (x4 ++ [bt x0 x5]) (wrap64 (x5 + 1))) else (none))) else (none)) else (some (strOfNums x4, true))
def impl_Uncoded.f (k : Nat) (a0 : ByteArray) : Option (ByteArray × Bool) := if (a0.size : Int) > 200 then (some ((⟨#[]⟩ : ByteArray), false)) else (impl_Uncoded.l0 k a0 (([] : List Int)) 0)
theorem impl_Uncoded.mono_l : ∀ k, (∀ y0 y1 y2, LeO (impl_Uncoded.l0 k y0 y1 y2) (impl_Uncoded.l0 (k + 1) y0 y1 y2))
 | 0 => fun _ _ _ r h => by simp [impl_Uncoded.l0] at h
 | k + 1 => by
  have ih0 := impl_Uncoded.mono_l k
  ·
   intro y0 y1 y2
   unfold impl_Uncoded.l0
   repeat' first
   | (with_reducible exact ih0 _ _ _)
   | (with_reducible exact LeO.refl _)
   | (with_reducible exact LeO.none _)
   | (with_reducible refine LeO.ite ?_ ?_)
   | (with_reducible refine LeO.bind ?_ (fun _ => ?_))
   | exact ih0 _ _ _
   | exact LeO.none _
   | refine LeO.ite ?_ ?_
   | refine LeO.bind ?_ (fun _ => ?_)
theorem impl_Uncoded.mono : ∀ a0 k, LeO (impl_Uncoded.f k a0) (impl_Uncoded.f (k + 1) a0) := by
 intro a0 k
 have ih0 := impl_Uncoded.mono_l k
 unfold impl_Uncoded.f
 repeat' first
   | (with_reducible exact ih0 _ _ _)
   | (with_reducible exact LeO.refl _)
   | (with_reducible exact LeO.none _)
   | (with_reducible refine LeO.ite ?_ ?_)
   | (with_reducible refine LeO.bind ?_ (fun _ => ?_))
   | exact ih0 _ _ _
   | exact LeO.none _
   | refine LeO.ite ?_ ?_
   | refine LeO.bind ?_ (fun _ => ?_)
set_option maxHeartbeats 8000000 in
set_option maxRecDepth 100000 in
theorem impl_Uncoded.calls (k : Nat) (a0 : ByteArray) (r1 : ByteArray) (r2 : Bool) (w : World) (h : impl_Uncoded.f k a0 = some (r1, r2)) :
  Calls Tryz.prog 38 #[.string a0] w fun e w' => e = .returned (.tuple #[.string r1, .bool r2]) ∧ Below w.heap.size w w' := by
 have HB := Aside0.mk (Below.refl w.heap.size w)
 have H : (if (a0.size : Int) > 200 then (some ((⟨#[]⟩ : ByteArray), false)) else (impl_Uncoded.l0 k a0 (([] : List Int)) 0)) = some (r1, r2) := h
 clear h
 by_cases c2 : (a0.size : Int) > 200
 ·
  rw [if_pos c2] at H
  have c2b0 : decide (200 < (a0.size : Int)) = true := decide_eq_true c2
  have c2b1 : decide (200 < a0.size) = true := decide_eq_true (by omega)
  clear c2
  simp only [Option.some.injEq, Prod.mk.injEq] at H
  obtain ⟨rfl, rfl⟩ := H
  go_enter Tryz.func38, Tryz.ntmps38
  go_wp2
  go_ret2
  exact ⟨er, bh⟩
 ·
  rw [if_neg c2] at H
  have c2b0 : decide (200 < (a0.size : Int)) = false := decide_eq_false c2
  have c2b1 : decide (200 < a0.size) = false := decide_eq_false (by omega)
  clear c2
  obtain ⟨y101, hy101⟩ : ∃ y_ : List Int, y_ = (([] : List Int)) := ⟨_, rfl⟩
  replace H : (impl_Uncoded.l0 k a0 y101 0) = some (r1, r2) := by first | (rw [hy101]; with_reducible exact H) | (have H2_ := (Option.bind_some _ _).symm.trans H; rw [hy101]; with_reducible exact H2_) | (have H2_ := (Option.bind_some _ _).symm.trans H; with_reducible exact H2_) | with_reducible exact H | (rw [hy101]; exact H) | exact H
  have Ny101 := Aside0.mk hy101
  clear hy101
  have H' := Aside0.mk H
  clear H
  go_enter Tryz.func38, Tryz.ntmps38
  go_wp2_with (first | ((with_reducible refine gate_dst (N := 11) rfl ?_); (try (refine gate_guard (by rfl) ?_; dsimp only)); refine Kd.R_lit (Kd.int .u8) _ 5 ?hg (N := 11) ?hd (xs := ([] : List Int)) (inner := []) (ok := fun _ => True) (okp := fun _ => True) ?hr ?hp (fun _ hk => hk) trivial (Below.refl _ _) (Nat.le_refl _) (by simp) ?_; (case hd => rfl); (case hg => rfl); (case hr => first | (go_simp; done) | (go_simp; rfl)); (case hp => exact (Reps.none _ _)); intro v102 w3 ho4 hb hg_ hnew_; clear hg_ hnew_; (first | rw [← Ny101.out] at ho4 | (simp only [Int.reduceToNat] at ho4; rw [← Ny101.out] at ho4)); have HO103 := Aside0.mk (Kd.R_lower ho4 (below_size bh)); replace HB := Aside0.mk (below_step bh hb); clear hb ho4))
  go_loopg [4, 5] k (fun kq v4 v5 w' => ∃ (x4_1 : List Int) (x5_1 : Int), v5 = .int .i64 x5_1 ∧ Aside0 (impl_Uncoded.l0 kq a0 x4_1 x5_1 = some (r1, r2)) ∧ Aside0 (kq ≤ k) ∧ Aside0 (Kd.R (Kd.int .u8) 5 w' w.heap.size (fun _ => True) v4 x4_1) ∧ Aside0 (Below w.heap.size w w'))
  case atStart => exact ⟨(y101), (0), (by first | rfl | (simp; done) | (simp [*]; done)), H', ⟨Nat.le_refl _⟩, ⟨by (with_reducible repeat (first | apply Kd.R_alloc | apply Kd.R_drewN | apply Kd.R_drew)); exact HO103.out⟩, ⟨bh⟩⟩
  case round =>
   clear H'
   try clear c2
   try clear c2b0
   try clear c2b1
   try clear p2
   try clear c3
   obtain ⟨x4_1, x5_1, rfl, HA, HK1, HO_4, HB⟩ := hrel
   cases gk with
   | zero => exact absurd HA.out (by simp [impl_Uncoded.l0])
   | succ k1 =>
    have H := HA.out
    clear HA
    simp only [impl_Uncoded.l0] at H
    by_cases c5 : x5_1 < (a0.size : Int)
    ·
     rw [if_pos c5] at H
     have c5b0 : decide (x5_1 < (a0.size : Int)) = true := decide_eq_true c5
     clear c5
     by_cases c6 : 0 ≤ x5_1
     ·
      rw [if_pos c6] at H
      have c6b0 : decide (0 ≤ x5_1) = true := decide_eq_true c6
      clear c6
      by_cases c8 : (bt a0 x5_1) = 37
      ·
       rw [if_pos c8] at H
       have c8b0 : ((bt a0 x5_1) == 37) = true := beq_iff_eq.mpr c8
       have c8b1 : ((bt a0 x5_1) != 37) = false := bne_eq_false_iff_eq.mpr c8
       clear c8
       obtain ⟨ji9, hji9⟩ : ∃ j_ : Int, (mn (wrap64 (x5_1 + 3)) (a0.size : Int)) = j_ := ⟨_, rfl⟩
       replace H : (if 0 ≤ (wrap64 (x5_1 + 1)) then (if (wrap64 (x5_1 + 1)) ≤ (ji9) then (if (ji9) ≤ (a0.size : Int) then ((impl_HexDigits.f (a0.extract ((wrap64 (x5_1 + 1)) : Int).toNat ((ji9) : Int).toNat)).bind fun bt104 => (if bt104.2 = true then (if (wrap64 (x5_1 + 3)) > (a0.size : Int) then (some ((⟨#[]⟩ : ByteArray), false)) else (if x4_1.length < 140737488355328 then (impl_Uncoded.l0 k1 a0 (x4_1 ++ [(bt104.1) % 256]) (wrap64 ((wrap64 (x5_1 + 2)) + 1))) else (none))) else (some ((⟨#[]⟩ : ByteArray), false)))) else (none)) else (none)) else (none)) = some (r1, r2) := by first | (rw [hji9] at H; exact H) | (simp only [hji9] at H ⊢; exact H)
       have hji9_ : (if (a0.size : Int) < (wrap64 (x5_1 + 3)) then (a0.size : Int) else (wrap64 (x5_1 + 3))) = ji9 := hji9
       obtain ⟨ji10, hji10⟩ : ∃ j_ : Int, (wrap64 (x5_1 + 1)) = j_ := ⟨_, rfl⟩
       replace H : (if 0 ≤ (ji10) then (if (ji10) ≤ (ji9) then (if (ji9) ≤ (a0.size : Int) then ((impl_HexDigits.f (a0.extract ((ji10) : Int).toNat ((ji9) : Int).toNat)).bind fun bt104 => (if bt104.2 = true then (if (wrap64 (x5_1 + 3)) > (a0.size : Int) then (some ((⟨#[]⟩ : ByteArray), false)) else (if x4_1.length < 140737488355328 then (impl_Uncoded.l0 k1 a0 (x4_1 ++ [(bt104.1) % 256]) (wrap64 ((wrap64 (x5_1 + 2)) + 1))) else (none))) else (some ((⟨#[]⟩ : ByteArray), false)))) else (none)) else (none)) else (none)) = some (r1, r2) := by first | (rw [hji10] at H; exact H) | (simp only [hji10] at H ⊢; exact H)
       have hji10w : (IntKind.i64.wrap (x5_1 + 1)) = ji10 := (i64_w _).trans hji10
       by_cases c11 : 0 ≤ (ji10)
       ·
        rw [if_pos c11] at H
        have c11b0 := eq_true c11
        have c11b1 : decide (0 ≤ (ji10)) = true := decide_eq_true c11
        clear c11
        by_cases c12 : (ji10) ≤ (ji9)
        ·
         rw [if_pos c12] at H
         have c12b0 := eq_true c12
         have c12b1 : decide ((ji10) ≤ (ji9)) = true := decide_eq_true c12
         clear c12
         by_cases c13 : (ji9) ≤ (a0.size : Int)
         ·
          rw [if_pos c13] at H
          have c13b0 := eq_true c13
          have c13b1 : decide ((ji9) ≤ (a0.size : Int)) = true := decide_eq_true c13
          clear c13
          obtain ⟨⟨t104, t105⟩, A140, H⟩ := Option.bind_eq_some_iff.mp H
          try dsimp only at H
          have A14 := Aside0.mk A140
          clear A140
          by_cases c15 : t105 = true
          ·
           subst c15
           rw [if_pos rfl] at H
           by_cases c16 : (wrap64 (x5_1 + 3)) > (a0.size : Int)
           ·
            rw [if_pos c16] at H
            have c16b0 : decide ((a0.size : Int) < (wrap64 (x5_1 + 3))) = true := decide_eq_true c16
            clear c16
            simp only [Option.some.injEq, Prod.mk.injEq] at H
            obtain ⟨rfl, rfl⟩ := H
            have p7 : 0 ≤ (x5_1 : Int) := of_decide_eq_true (by first | (with_reducible assumption) | assumption)
            have q7 : x5_1 < (a0.size : Int) := of_decide_eq_true (by first | (with_reducible assumption) | assumption)
            have hx7 := bt_at a0 x5_1
            replace p7 := eq_true p7
            replace q7 := eq_true q7
            go_wp2_with (first | ((with_reducible refine gate_callee (f := 58) rfl ?_); refine goesL_ (some 38) rfl rfl Tryz.func58 (by kernel_rfl) rfl #[.string (a0.extract ((ji10) : Int).toNat ((ji9) : Int).toNat)] rfl (by (try simp only [List.map_toArray, List.map_cons, List.map_nil]); first | done | (simp only [hji10, hji9]; rfl) | rfl | (simp only [List.length_drop, List.length_take]; rfl)) ?_; (with_reducible refine (impl_HexDigits.calls (a0.extract ((ji10) : Int).toNat ((ji9) : Int).toNat) t104 true _ A14.out).mono ?_); rintro e w17 ⟨rfl, hb⟩; refine ⟨_, rfl, ?_⟩; replace HO_4 := Aside0.mk (Kd.R_below (by (with_reducible repeat (first | apply Kd.R_alloc | apply Kd.R_drewN | apply Kd.R_drew)); exact HO_4.out) hb); replace HB := Aside0.mk (below_step bh hb); (try clear hb); (try clear hb2); (try clear hk); (try clear hi)))
            go_ret2
            exact ⟨by first | rfl | (simp [errW_none, errW_some] <;> rfl) | (simp only [← hji9, ← hji10]; first | rfl | (simp [errW_none, errW_some] <;> rfl)) | (simp [*, errW_none, errW_some] <;> rfl), bh⟩
           ·
            rw [if_neg c16] at H
            have c16b0 : decide ((a0.size : Int) < (wrap64 (x5_1 + 3))) = false := decide_eq_false c16
            clear c16
            by_cases c18 : x4_1.length < 140737488355328
            ·
             rw [if_pos c18] at H
             have LMc18 := Aside0.mk c18
             clear c18
             obtain ⟨y106, hy106⟩ : ∃ y_ : List Int, y_ = (x4_1 ++ [(t104) % 256]) := ⟨_, rfl⟩
             replace H : (impl_Uncoded.l0 k1 a0 y106 (wrap64 ((wrap64 (x5_1 + 2)) + 1))) = some (r1, r2) := by first | (rw [hy106]; with_reducible exact H) | (have H2_ := (Option.bind_some _ _).symm.trans H; rw [hy106]; with_reducible exact H2_) | (have H2_ := (Option.bind_some _ _).symm.trans H; with_reducible exact H2_) | with_reducible exact H | (rw [hy106]; exact H) | exact H
             have Ny106 := Aside0.mk hy106
             clear hy106
             have H' := Aside0.mk H
             clear H
             have p7 : 0 ≤ (x5_1 : Int) := of_decide_eq_true (by first | (with_reducible assumption) | assumption)
             have q7 : x5_1 < (a0.size : Int) := of_decide_eq_true (by first | (with_reducible assumption) | assumption)
             have hx7 := bt_at a0 x5_1
             replace p7 := eq_true p7
             replace q7 := eq_true q7
             go_wp2_with (first | ((with_reducible refine gate_callee (f := 58) rfl ?_); refine goesL_ (some 38) rfl rfl Tryz.func58 (by kernel_rfl) rfl #[.string (a0.extract ((ji10) : Int).toNat ((ji9) : Int).toNat)] rfl (by (try simp only [List.map_toArray, List.map_cons, List.map_nil]); first | done | (simp only [hji10, hji9]; rfl) | rfl | (simp only [List.length_drop, List.length_take]; rfl)) ?_; (with_reducible refine (impl_HexDigits.calls (a0.extract ((ji10) : Int).toNat ((ji9) : Int).toNat) t104 true _ A14.out).mono ?_); rintro e w19 ⟨rfl, hb⟩; refine ⟨_, rfl, ?_⟩; replace HO_4 := Aside0.mk (Kd.R_below (by (with_reducible repeat (first | apply Kd.R_alloc | apply Kd.R_drewN | apply Kd.R_drew)); exact HO_4.out) hb); replace HB := Aside0.mk (below_step bh hb); (try clear hb); (try clear hb2); (try clear hk); (try clear hi)) | ((with_reducible refine gate_builtin (b := .append) (xs := #[.tmp 50, .tmp 53]) rfl ?_); (try (refine gate_guard (by rfl) ?_; dsimp only)); at_builtin; refine Kd.R_append (Kd.int .u8) (w0 := w) w.heap.size rfl (.tmp 50) (.tmp 53) 25 5 (.int .u8 0) 1 rfl Tryz.underlying25 info5 rfl (by decide) (by omega) u4 x4_1 ((t104) % 256) [.int .u8 ((t104) % 256)] (fun _ => True) (fun _ => False) rfl rfl ?aP (fun _ hk => hk.elim) ?aF ?aO ?aB ?aS ?aL ?_; (case aP => exact rfl); (case aB => exact bh); (case aF => exact (fun _ _ => trivial)); (case aO => exact (by (with_reducible repeat (first | apply Kd.R_alloc | apply Kd.R_drewN | apply Kd.R_drew)); exact HO_4.out)); (case aS => exact (below_size bh)); (case aL => have := LMc18.out; omega); intro v107 w20 ho hb hg hat; rw [← Ny106.out] at ho; have n0_ := Aside0.mk (hb); have n1_ := Aside0.mk (ho); clear HB; clear HO_4; have HB := n0_; have HO108 := n1_; clear n0_ n1_; clear ho hb hg hat))
             go_roundg k1
             case measure => have := HK1.out; omega
             case rel => exact ⟨(y106), (wrap64 ((wrap64 (x5_1 + 2)) + 1)), (by first | rfl | (simp; done) | (simp [*]; done)), H', ⟨by have := HK1.out; omega⟩, ⟨by (with_reducible repeat (first | apply Kd.R_alloc | apply Kd.R_drewN | apply Kd.R_drew)); exact HO108.out⟩, ⟨bh⟩⟩
            ·
             rw [if_neg c18] at H
             exact absurd H (by simp)
          ·
           replace c15 := Bool.eq_false_iff.mpr c15
           subst c15
           have H1 : (some ((⟨#[]⟩ : ByteArray), false)) = some (r1, r2) := by rw [if_neg (show ¬ (false = true) by decide)] at H; exact H
           clear H
           have H := H1
           clear H1
           simp only [Option.some.injEq, Prod.mk.injEq] at H
           obtain ⟨rfl, rfl⟩ := H
           have p7 : 0 ≤ (x5_1 : Int) := of_decide_eq_true (by first | (with_reducible assumption) | assumption)
           have q7 : x5_1 < (a0.size : Int) := of_decide_eq_true (by first | (with_reducible assumption) | assumption)
           have hx7 := bt_at a0 x5_1
           replace p7 := eq_true p7
           replace q7 := eq_true q7
           go_wp2_with (first | ((with_reducible refine gate_callee (f := 58) rfl ?_); refine goesL_ (some 38) rfl rfl Tryz.func58 (by kernel_rfl) rfl #[.string (a0.extract ((ji10) : Int).toNat ((ji9) : Int).toNat)] rfl (by (try simp only [List.map_toArray, List.map_cons, List.map_nil]); first | done | (simp only [hji10, hji9]; rfl) | rfl | (simp only [List.length_drop, List.length_take]; rfl)) ?_; (with_reducible refine (impl_HexDigits.calls (a0.extract ((ji10) : Int).toNat ((ji9) : Int).toNat) t104 false _ A14.out).mono ?_); rintro e w21 ⟨rfl, hb⟩; refine ⟨_, rfl, ?_⟩; replace HO_4 := Aside0.mk (Kd.R_below (by (with_reducible repeat (first | apply Kd.R_alloc | apply Kd.R_drewN | apply Kd.R_drew)); exact HO_4.out) hb); replace HB := Aside0.mk (below_step bh hb); (try clear hb); (try clear hb2); (try clear hk); (try clear hi)))
           go_ret2
           exact ⟨by first | rfl | (simp [errW_none, errW_some] <;> rfl) | (simp only [← hji9, ← hji10]; first | rfl | (simp [errW_none, errW_some] <;> rfl)) | (simp [*, errW_none, errW_some] <;> rfl), bh⟩
         ·
          rw [if_neg c13] at H
          exact absurd H (by simp)
        ·
         rw [if_neg c12] at H
         exact absurd H (by simp)
       ·
        rw [if_neg c11] at H
        exact absurd H (by simp)
      ·
       rw [if_neg c8] at H
       have c8b0 : ((bt a0 x5_1) == 37) = false := beq_eq_false_iff_ne.mpr c8
       have c8b1 : ((bt a0 x5_1) != 37) = true := bne_iff_ne.mpr c8
       by_cases c23 : x4_1.length < 140737488355328
       ·
        rw [if_pos c23] at H
        have LMc23 := Aside0.mk c23
        clear c23
        obtain ⟨y109, hy109⟩ : ∃ y_ : List Int, y_ = (x4_1 ++ [bt a0 x5_1]) := ⟨_, rfl⟩
        replace H : (impl_Uncoded.l0 k1 a0 y109 (wrap64 (x5_1 + 1))) = some (r1, r2) := by first | (rw [hy109]; with_reducible exact H) | (have H2_ := (Option.bind_some _ _).symm.trans H; rw [hy109]; with_reducible exact H2_) | (have H2_ := (Option.bind_some _ _).symm.trans H; with_reducible exact H2_) | with_reducible exact H | (rw [hy109]; exact H) | exact H
        have Ny109 := Aside0.mk hy109
        clear hy109
        have H' := Aside0.mk H
        clear H
        have p7 : 0 ≤ (x5_1 : Int) := of_decide_eq_true (by first | (with_reducible assumption) | assumption)
        have q7 : x5_1 < (a0.size : Int) := of_decide_eq_true (by first | (with_reducible assumption) | assumption)
        have hx7 := bt_at a0 x5_1
        replace p7 := eq_true p7
        replace q7 := eq_true q7
        have p22 : 0 ≤ (x5_1 : Int) := of_decide_eq_true (by first | (with_reducible assumption) | assumption)
        have q22 : x5_1 < (a0.size : Int) := of_decide_eq_true (by first | (with_reducible assumption) | assumption)
        have hx22 := bt_at a0 x5_1
        replace p22 := eq_true p22
        replace q22 := eq_true q22
        go_wp2_with (first | ((with_reducible refine gate_builtin (b := .append) (xs := #[.tmp 22, .tmp 26]) rfl ?_); (try (refine gate_guard (by rfl) ?_; dsimp only)); at_builtin; refine Kd.R_append (Kd.int .u8) (w0 := w) w.heap.size rfl (.tmp 22) (.tmp 26) 25 5 (.int .u8 0) 1 rfl Tryz.underlying25 info5 rfl (by decide) (by omega) u4 x4_1 (bt a0 x5_1) [.int .u8 (bt a0 x5_1)] (fun _ => True) (fun _ => False) rfl rfl ?aP (fun _ hk => hk.elim) ?aF ?aO ?aB ?aS ?aL ?_; (case aP => exact rfl); (case aB => exact bh); (case aF => exact (fun _ _ => trivial)); (case aO => exact (by (with_reducible repeat (first | apply Kd.R_alloc | apply Kd.R_drewN | apply Kd.R_drew)); exact HO_4.out)); (case aS => exact (below_size bh)); (case aL => have := LMc23.out; omega); intro v110 w24 ho hb hg hat; rw [← Ny109.out] at ho; have n0_ := Aside0.mk (hb); have n1_ := Aside0.mk (ho); clear HB; clear HO_4; have HB := n0_; have HO111 := n1_; clear n0_ n1_; clear ho hb hg hat))
        go_roundg k1
        case measure => have := HK1.out; omega
        case rel => exact ⟨(y109), (wrap64 (x5_1 + 1)), (by first | rfl | (simp; done) | (simp [*]; done)), H', ⟨by have := HK1.out; omega⟩, ⟨by (with_reducible repeat (first | apply Kd.R_alloc | apply Kd.R_drewN | apply Kd.R_drew)); exact HO111.out⟩, ⟨bh⟩⟩
       ·
        rw [if_neg c23] at H
        exact absurd H (by simp)
     ·
      rw [if_neg c6] at H
      exact absurd H (by simp)
    ·
     rw [if_neg c5] at H
     have c5b0 : decide (x5_1 < (a0.size : Int)) = false := decide_eq_false c5
     clear c5
     simp only [Option.some.injEq, Prod.mk.injEq] at H
     obtain ⟨rfl, rfl⟩ := H
     have hcv25 := own_string (P := Tryz.prog) Tryz.underlying25 Tryz.underlying5 Tryz.underlying9 (Kd.own_of_R HO_4.out)
     go_wp2
     go_ret2
     exact ⟨er, bh⟩
/-! ### impl_NormalPath: function 17 -/
def impl_NormalPath.j0 : Nat → ByteArray → Bool → Option (ByteArray × Bool)
 | 0, _, _ => none
 | k + 1, x4, x23 => if x23 = true then (some ((⟨#[]⟩ : ByteArray), false)) else ((impl_Coded.f k x4).bind fun t106 => ((impl_Dotless.f k t106).bind fun t107 => (some (t107, true))))
def impl_NormalPath.f (k : Nat) (a0 : ByteArray) : Option (ByteArray × Bool) := (impl_Uncoded.f k a0).bind fun bt101 => (if bt101.2 = true then ((impl_isPath.f a0).bind fun t103 => (if t103 = true then ((impl_Coded.f k bt101.1).bind fun t104 => ((impl_isPath.f t104).bind fun t105 => (impl_NormalPath.j0 k bt101.1 (!t105)))) else (impl_NormalPath.j0 k bt101.1 true))) else (impl_NormalPath.j0 k bt101.1 true))
theorem impl_NormalPath.mono_l : ∀ k, (∀ y0 y1, LeO (impl_NormalPath.j0 k y0 y1) (impl_NormalPath.j0 (k + 1) y0 y1))
 | 0 => fun _ _ r h => by simp [impl_NormalPath.j0] at h
 | k + 1 => by
  have ih0 := impl_NormalPath.mono_l k
  ·
   intro y0 y1
   unfold impl_NormalPath.j0
   repeat' first
   | (with_reducible exact ih0 _ _)
   | (with_reducible exact impl_Coded.mono _ _)
   | (with_reducible exact impl_Dotless.mono _ _)
   | (with_reducible exact impl_Uncoded.mono _ _)
   | (with_reducible exact LeO.refl _)
   | (with_reducible exact LeO.none _)
   | (with_reducible refine LeO.ite ?_ ?_)
   | (with_reducible refine LeO.bind ?_ (fun _ => ?_))
   | exact ih0 _ _
   | exact impl_Coded.mono _ _
   | exact impl_Dotless.mono _ _
   | exact impl_Uncoded.mono _ _
   | exact LeO.none _
   | refine LeO.ite ?_ ?_
   | refine LeO.bind ?_ (fun _ => ?_)
theorem impl_NormalPath.mono : ∀ a0 k, LeO (impl_NormalPath.f k a0) (impl_NormalPath.f (k + 1) a0) := by
 intro a0 k
 have ih0 := impl_NormalPath.mono_l k
 unfold impl_NormalPath.f
 repeat' first
   | (with_reducible exact ih0 _ _)
   | (with_reducible exact impl_Coded.mono _ _)
   | (with_reducible exact impl_Dotless.mono _ _)
   | (with_reducible exact impl_Uncoded.mono _ _)
   | (with_reducible exact LeO.refl _)
   | (with_reducible exact LeO.none _)
   | (with_reducible refine LeO.ite ?_ ?_)
   | (with_reducible refine LeO.bind ?_ (fun _ => ?_))
   | exact ih0 _ _
   | exact impl_Coded.mono _ _
   | exact impl_Dotless.mono _ _
   | exact impl_Uncoded.mono _ _
   | exact LeO.none _
   | refine LeO.ite ?_ ?_
   | refine LeO.bind ?_ (fun _ => ?_)
set_option maxHeartbeats 8000000 in
set_option maxRecDepth 100000 in
theorem impl_NormalPath.calls (k : Nat) (a0 : ByteArray) (r1 : ByteArray) (r2 : Bool) (w : World) (hX : XW 1 w) (h : impl_NormalPath.f k a0 = some (r1, r2)) :
  Calls Tryz.prog 17 #[.string a0] w fun e w' => e = .returned (.tuple #[.string r1, .bool r2]) ∧ Below w.heap.size w w' := by
 have HB := Aside0.mk (Below.refl w.heap.size w)
 have H : ((impl_Uncoded.f k a0).bind fun bt101 => (if bt101.2 = true then ((impl_isPath.f a0).bind fun t103 => (if t103 = true then ((impl_Coded.f k bt101.1).bind fun t104 => ((impl_isPath.f t104).bind fun t105 => (impl_NormalPath.j0 k bt101.1 (!t105)))) else (impl_NormalPath.j0 k bt101.1 true))) else (impl_NormalPath.j0 k bt101.1 true))) = some (r1, r2) := h
 clear h
 obtain ⟨⟨t101, t102⟩, A20, H⟩ := Option.bind_eq_some_iff.mp H
 try dsimp only at H
 have A2 := Aside0.mk A20
 clear A20
 have HC3 := Aside0.mk H
 clear H
 go_enter Tryz.func17, Tryz.ntmps17
 go_upto_region 2 with (first | ((with_reducible refine gate_callee (f := 38) rfl ?_); refine goesL_ (some 8) rfl rfl Tryz.func38 (by kernel_rfl) rfl #[.string a0] rfl mc ?_; (with_reducible refine (impl_Uncoded.calls k a0 t101 t102 _ A2.out).mono ?_); rintro e w4 ⟨rfl, hb⟩; refine ⟨_, rfl, ?_⟩; replace HB := Aside0.mk (below_step bh hb); (try clear hb); (try clear hb2); (try clear hk); (try clear hi)))
 (try simp only [Act.put, List.setIfInBounds_toArray, List.set_cons_zero, List.set_cons_succ])
 go_cut [23] (fun v23 wc => ∃ (kq : Nat) (x23_2 : Bool), v23 = .bool x23_2 ∧ Aside0 (impl_NormalPath.j0 kq t101 x23_2 = some (r1, r2)) ∧ Aside0 (kq ≤ k) ∧ Aside0 (Below w.heap.size w wc))
 case first =>
  have H := HC3.out
  clear HC3
  by_cases c5 : t102 = true
  ·
   subst c5
   rw [if_pos rfl] at H
   obtain ⟨t103, A60, H⟩ := Option.bind_eq_some_iff.mp H
   try dsimp only at H
   have A6 := Aside0.mk A60
   clear A60
   by_cases c7 : t103 = true
   ·
    subst c7
    rw [if_pos rfl] at H
    obtain ⟨t104, A80, H⟩ := Option.bind_eq_some_iff.mp H
    try dsimp only at H
    have A8 := Aside0.mk A80
    clear A80
    replace H := Option.bind_eq_some_iff.mp H
    obtain ⟨t105, A90, H⟩ := H
    replace H : (impl_NormalPath.j0 k t101 (!t105)) = some (r1, r2) := H
    have A9 := Aside0.mk A90
    clear A90
    have H' := Aside0.mk H
    clear H
    go_wp2_with (first | (go_at_call 39; (with_reducible refine (impl_isPath.calls a0 true _ A6.out).mono ?_); rintro e w' ⟨rfl, ⟨nd, rfl⟩⟩) | (go_at_call 40; (with_reducible refine (impl_Coded.calls k t101 t104 _ A8.out).mono ?_); rintro e w10 ⟨rfl, hb⟩; replace HB := Aside0.mk (below_step bh hb); (try clear hb); (try clear hb2); (try clear hk); (try clear hi)) | (go_at_call 39; (with_reducible refine (impl_isPath.calls t104 t105 _ A9.out).mono ?_); rintro e w' ⟨rfl, ⟨nd, rfl⟩⟩))
    go_meet
    case rel => exact ⟨_, (!t105), (by first | rfl | (simp; done) | (simp [*]; done)), H', ⟨by first | omega | exact Nat.le_refl _⟩, ⟨bh⟩⟩
   ·
    replace c7 := Bool.eq_false_iff.mpr c7
    subst c7
    have H1 : (impl_NormalPath.j0 k t101 true) = some (r1, r2) := by rw [if_neg (show ¬ (false = true) by decide)] at H; exact H
    clear H
    have H := H1
    clear H1
    have H' := Aside0.mk H
    clear H
    go_wp2_with (first | (go_at_call 39; (with_reducible refine (impl_isPath.calls a0 false _ A6.out).mono ?_); rintro e w' ⟨rfl, ⟨nd, rfl⟩⟩))
    go_meet
    case rel => exact ⟨_, (true), (by first | rfl | (simp; done) | (simp [*]; done)), H', ⟨by first | omega | exact Nat.le_refl _⟩, ⟨bh⟩⟩
  ·
   replace c5 := Bool.eq_false_iff.mpr c5
   subst c5
   have H1 : (impl_NormalPath.j0 k t101 true) = some (r1, r2) := by rw [if_neg (show ¬ (false = true) by decide)] at H; exact H
   clear H
   have H := H1
   clear H1
   have H' := Aside0.mk H
   clear H
   go_wp2
   go_meet
   case rel => exact ⟨_, (true), (by first | rfl | (simp; done) | (simp [*]; done)), H', ⟨by first | omega | exact Nat.le_refl _⟩, ⟨bh⟩⟩
 case rest =>
  clear HC3
  try clear c1
  try clear p2
  try clear c3
  try clear c5
  try clear c7
  obtain ⟨kq, x23_2, rfl, HA, HJ2, HB⟩ := hcut
  cases kq with
  | zero => exact absurd HA.out (by simp [impl_NormalPath.j0])
  | succ kj2 =>
   have H := HA.out
   clear HA
   simp only [impl_NormalPath.j0] at H
   by_cases c11 : x23_2 = true
   ·
    subst c11
    have H1 : (some ((⟨#[]⟩ : ByteArray), false)) = some (r1, r2) := by rw [if_pos rfl] at H; exact H
    clear H
    have H := H1
    clear H1
    simp only [Option.some.injEq, Prod.mk.injEq] at H
    obtain ⟨rfl, rfl⟩ := H
    go_wp2
    go_ret2
    exact ⟨er, bh⟩
   ·
    replace c11 := Bool.eq_false_iff.mpr c11
    subst c11
    rw [if_neg (show ¬ (false = true) by decide)] at H
    obtain ⟨t106, A120, H⟩ := Option.bind_eq_some_iff.mp H
    try dsimp only at H
    have A12 := Aside0.mk A120
    clear A120
    replace H := Option.bind_eq_some_iff.mp H
    obtain ⟨t107, A130, H⟩ := H
    replace H : (some (t107, true)) = some (r1, r2) := H
    have A13 := Aside0.mk A130
    clear A130
    simp only [Option.some.injEq, Prod.mk.injEq] at H
    obtain ⟨rfl, rfl⟩ := H
    go_wp2_with (first | ((with_reducible refine gate_callee (f := 40) rfl ?_); refine goesL_ (some 25) rfl rfl Tryz.func40 (by kernel_rfl) rfl #[.string t101] rfl mc ?_; (with_reducible refine (impl_Coded.calls kj2 t101 t106 _ A12.out).mono ?_); rintro e w14 ⟨rfl, hb⟩; refine ⟨_, rfl, ?_⟩; replace HB := Aside0.mk (below_step bh hb); (try clear hb); (try clear hb2); (try clear hk); (try clear hi)) | ((with_reducible refine gate_callee (f := 41) rfl ?_); refine goesL_ (some 26) rfl rfl Tryz.func41 (by kernel_rfl) rfl #[.string t106] rfl mc ?_; (with_reducible refine (impl_Dotless.calls kj2 t106 t107 _ ?side1 A13.out).mono ?_); (case side1 => exact XW.to (XW.stays hX bh) (by decide)); rintro e w15 ⟨rfl, hb⟩; refine ⟨_, rfl, ?_⟩; replace HB := Aside0.mk (below_step bh hb); (try clear hb); (try clear hb2); (try clear hk); (try clear hi)))
    go_ret2
    exact ⟨er, bh⟩
/-! ### impl_TokenOk: function 18 -/
def impl_TokenOk.f (a0 : ByteArray) : Option (Bool) := if (a0.size : Int) ≥ 1 then (if (a0.size : Int) ≤ 64 then ((impl_all.f a0 43).bind fun t101 => (some t101)) else (some false)) else (some false)
set_option maxHeartbeats 8000000 in
set_option maxRecDepth 100000 in
theorem impl_TokenOk.calls (a0 : ByteArray) (r : Bool) (w : World) (h : impl_TokenOk.f a0 = some r) :
  Calls Tryz.prog 18 #[.string a0] w fun e w' => e = .returned (.bool r) ∧ Below w.heap.size w w' := by
 have HB := Aside0.mk (Below.refl w.heap.size w)
 have H : (if (a0.size : Int) ≥ 1 then (if (a0.size : Int) ≤ 64 then ((impl_all.f a0 43).bind fun t101 => (some t101)) else (some false)) else (some false)) = some r := h
 clear h
 by_cases c2 : (a0.size : Int) ≥ 1
 ·
  rw [if_pos c2] at H
  have c2b0 : decide (1 ≤ (a0.size : Int)) = true := decide_eq_true c2
  have c2b1 : decide (1 ≤ a0.size) = true := decide_eq_true (by omega)
  clear c2
  by_cases c3 : (a0.size : Int) ≤ 64
  ·
   rw [if_pos c3] at H
   have c3b0 : decide ((a0.size : Int) ≤ 64) = true := decide_eq_true c3
   have c3b1 : decide (a0.size ≤ 64) = true := decide_eq_true (by omega)
   clear c3
   replace H := Option.bind_eq_some_iff.mp H
   obtain ⟨t101, A40, H⟩ := H
   replace H : (some t101) = some r := H
   have A4 := Aside0.mk A40
   clear A40
   obtain rfl := Option.some.inj H
   go_enter Tryz.func18, Tryz.ntmps18
   go_wp2_with (first | (go_at_call 42; (with_reducible refine (impl_all.calls a0 43 t101 _ A4.out).mono ?_); rintro e w5 ⟨rfl, hb⟩; replace HB := Aside0.mk (below_step bh hb); (try clear hb); (try clear hb2); (try clear hk); (try clear hi)))
   go_ret
   exact ⟨er, bh⟩
  ·
   rw [if_neg c3] at H
   have c3b0 : decide ((a0.size : Int) ≤ 64) = false := decide_eq_false c3
   have c3b1 : decide (a0.size ≤ 64) = false := decide_eq_false (by omega)
   clear c3
   obtain rfl := Option.some.inj H
   go_enter Tryz.func18, Tryz.ntmps18
   go_wp2
   go_ret
   exact ⟨er, bh⟩
 ·
  rw [if_neg c2] at H
  have c2b0 : decide (1 ≤ (a0.size : Int)) = false := decide_eq_false c2
  have c2b1 : decide (1 ≤ a0.size) = false := decide_eq_false (by omega)
  clear c2
  obtain rfl := Option.some.inj H
  go_enter Tryz.func18, Tryz.ntmps18
  go_wp2
  go_ret
  exact ⟨er, bh⟩
/-! ### impl_Key: function 6 -/
def impl_Key.j0 : Nat → ByteArray → ByteArray → ByteArray → Bool → Option (ByteArray × Bool)
 | 0, _, _, _, _ => none
 | k + 1, x0, x6, x7, x27 => if x27 = true then (some ((⟨#[]⟩ : ByteArray), false)) else ((impl_SortedQuery.f x7).bind fun t107 => (if t107.toList = ([] : List UInt8) then ((impl_Lower.f x0).bind fun t108 => (if t108.size + x6.size ≤ 9223372036854775807 then (if (t108 ++ x6).size + t107.size ≤ 9223372036854775807 then (some ((t108 ++ x6) ++ t107, true)) else (none)) else (none))) else (if 1 + t107.size ≤ 9223372036854775807 then ((impl_Lower.f x0).bind fun t109 => (if t109.size + x6.size ≤ 9223372036854775807 then (if (t109 ++ x6).size + ((⟨#[63]⟩ : ByteArray) ++ t107).size ≤ 9223372036854775807 then (some ((t109 ++ x6) ++ ((⟨#[63]⟩ : ByteArray) ++ t107), true)) else (none)) else (none))) else (none))))
def impl_Key.f (k : Nat) (a0 : ByteArray) (a1 : ByteArray) : Option (ByteArray × Bool) := (strings_Cut.f a1 (⟨#[63]⟩ : ByteArray)).bind fun bt101 => ((impl_NormalPath.f k bt101.1).bind fun bt104 => (if bt104.2 = true then ((impl_TokenOk.f a0).bind fun t106 => (impl_Key.j0 k a0 bt104.1 bt101.2.1 (!t106))) else (impl_Key.j0 k a0 bt104.1 bt101.2.1 true)))
theorem impl_Key.mono_l : ∀ k, (∀ y0 y1 y2 y3, LeO (impl_Key.j0 k y0 y1 y2 y3) (impl_Key.j0 (k + 1) y0 y1 y2 y3))
 | 0 => fun _ _ _ _ r h => by simp [impl_Key.j0] at h
 | k + 1 => by
  have ih0 := impl_Key.mono_l k
  ·
   intro y0 y1 y2 y3
   unfold impl_Key.j0
   repeat' first
   | (with_reducible exact ih0 _ _ _ _)
   | (with_reducible exact impl_NormalPath.mono _ _)
   | (with_reducible exact LeO.refl _)
   | (with_reducible exact LeO.none _)
   | (with_reducible refine LeO.ite ?_ ?_)
   | (with_reducible refine LeO.bind ?_ (fun _ => ?_))
   | exact ih0 _ _ _ _
   | exact impl_NormalPath.mono _ _
   | exact LeO.none _
   | refine LeO.ite ?_ ?_
   | refine LeO.bind ?_ (fun _ => ?_)
theorem impl_Key.mono : ∀ a0 a1 k, LeO (impl_Key.f k a0 a1) (impl_Key.f (k + 1) a0 a1) := by
 intro a0 a1 k
 have ih0 := impl_Key.mono_l k
 unfold impl_Key.f
 repeat' first
   | (with_reducible exact ih0 _ _ _ _)
   | (with_reducible exact impl_NormalPath.mono _ _)
   | (with_reducible exact LeO.refl _)
   | (with_reducible exact LeO.none _)
   | (with_reducible refine LeO.ite ?_ ?_)
   | (with_reducible refine LeO.bind ?_ (fun _ => ?_))
   | exact ih0 _ _ _ _
   | exact impl_NormalPath.mono _ _
   | exact LeO.none _
   | refine LeO.ite ?_ ?_
   | refine LeO.bind ?_ (fun _ => ?_)
set_option maxHeartbeats 8000000 in
set_option maxRecDepth 100000 in
theorem impl_Key.calls (k : Nat) (a0 : ByteArray) (a1 : ByteArray) (r1 : ByteArray) (r2 : Bool) (w : World) (hX : XW 1 w) (h : impl_Key.f k a0 a1 = some (r1, r2)) :
  Calls Tryz.prog 6 #[.string a0, .string a1] w fun e w' => e = .returned (.tuple #[.string r1, .bool r2]) ∧ Below w.heap.size w w' := by
 have HB := Aside0.mk (Below.refl w.heap.size w)
 have H : ((strings_Cut.f a1 (⟨#[63]⟩ : ByteArray)).bind fun bt101 => ((impl_NormalPath.f k bt101.1).bind fun bt104 => (if bt104.2 = true then ((impl_TokenOk.f a0).bind fun t106 => (impl_Key.j0 k a0 bt104.1 bt101.2.1 (!t106))) else (impl_Key.j0 k a0 bt104.1 bt101.2.1 true)))) = some (r1, r2) := h
 clear h
 obtain ⟨⟨t101, t102, t103⟩, A30, H⟩ := Option.bind_eq_some_iff.mp H
 try dsimp only at H
 have A3 := Aside0.mk A30
 clear A30
 obtain ⟨⟨t104, t105⟩, A40, H⟩ := Option.bind_eq_some_iff.mp H
 try dsimp only at H
 have A4 := Aside0.mk A40
 clear A40
 have HC5 := Aside0.mk H
 clear H
 go_enter Tryz.func6, Tryz.ntmps6
 go_upto_region 3 with (first | ((with_reducible refine gate_callee (f := 16) rfl ?_); refine goesL_ (some 12) rfl rfl Tryz.func16 (by kernel_rfl) rfl #[.string a1, .string (⟨#[63]⟩ : ByteArray)] rfl (by (try simp only [List.map_toArray, List.map_cons, List.map_nil]); first | done | rfl | (simp only [ne_nil_isEmpty]; rfl) | (simp only [List.length_drop, List.length_take]; rfl)) ?_; (with_reducible refine (strings_Cut.calls a1 (⟨#[63]⟩ : ByteArray) t101 t102 t103 _ ?side1 A3.out).mono ?_); (case side1 => exact XW.to (XW.stays hX bh) (by decide)); rintro e w6 ⟨rfl, hb⟩; refine ⟨_, rfl, ?_⟩; replace HB := Aside0.mk (below_step bh hb); (try clear hb); (try clear hb2); (try clear hk); (try clear hi)) | ((with_reducible refine gate_callee (f := 17) rfl ?_); refine goesL_ (some 18) rfl rfl Tryz.func17 (by kernel_rfl) rfl #[.string t101] rfl (by (try simp only [List.map_toArray, List.map_cons, List.map_nil]); first | done | rfl | (simp only [ne_nil_isEmpty]; rfl) | (simp only [List.length_drop, List.length_take]; rfl)) ?_; (with_reducible refine (impl_NormalPath.calls k t101 t104 t105 _ ?side1 A4.out).mono ?_); (case side1 => exact XW.to (XW.stays hX bh) (by decide)); rintro e w7 ⟨rfl, hb⟩; refine ⟨_, rfl, ?_⟩; replace HB := Aside0.mk (below_step bh hb); (try clear hb); (try clear hb2); (try clear hk); (try clear hi)))
 (try simp only [Act.put, List.setIfInBounds_toArray, List.set_cons_zero, List.set_cons_succ])
 go_cut [27] (fun v27 wc => ∃ (kq : Nat) (x27_4 : Bool), v27 = .bool x27_4 ∧ Aside0 (impl_Key.j0 kq a0 t104 t102 x27_4 = some (r1, r2)) ∧ Aside0 (kq ≤ k) ∧ Aside0 (Below w.heap.size w wc))
 case first =>
  have H := HC5.out
  clear HC5
  by_cases c8 : t105 = true
  ·
   subst c8
   rw [if_pos rfl] at H
   replace H := Option.bind_eq_some_iff.mp H
   obtain ⟨t106, A90, H⟩ := H
   replace H : (impl_Key.j0 k a0 t104 t102 (!t106)) = some (r1, r2) := H
   have A9 := Aside0.mk A90
   clear A90
   have H' := Aside0.mk H
   clear H
   go_wp2_with (first | (go_at_call 18; (with_reducible refine (impl_TokenOk.calls a0 t106 _ A9.out).mono ?_); rintro e w10 ⟨rfl, hb⟩; replace HB := Aside0.mk (below_step bh hb); (try clear hb); (try clear hb2); (try clear hk); (try clear hi)))
   go_meet
   case rel => exact ⟨_, (!t106), (by first | rfl | (simp; done) | (simp [*]; done)), H', ⟨by first | omega | exact Nat.le_refl _⟩, ⟨bh⟩⟩
  ·
   replace c8 := Bool.eq_false_iff.mpr c8
   subst c8
   have H1 : (impl_Key.j0 k a0 t104 t102 true) = some (r1, r2) := by rw [if_neg (show ¬ (false = true) by decide)] at H; exact H
   clear H
   have H := H1
   clear H1
   have H' := Aside0.mk H
   clear H
   go_wp2
   go_meet
   case rel => exact ⟨_, (true), (by first | rfl | (simp; done) | (simp [*]; done)), H', ⟨by first | omega | exact Nat.le_refl _⟩, ⟨bh⟩⟩
 case rest =>
  clear HC5
  try clear c1
  try clear p2
  try clear c6
  try clear c8
  obtain ⟨kq, x27_4, rfl, HA, HJ4, HB⟩ := hcut
  cases kq with
  | zero => exact absurd HA.out (by simp [impl_Key.j0])
  | succ kj4 =>
   have H := HA.out
   clear HA
   simp only [impl_Key.j0] at H
   by_cases c11 : x27_4 = true
   ·
    subst c11
    have H1 : (some ((⟨#[]⟩ : ByteArray), false)) = some (r1, r2) := by rw [if_pos rfl] at H; exact H
    clear H
    have H := H1
    clear H1
    simp only [Option.some.injEq, Prod.mk.injEq] at H
    obtain ⟨rfl, rfl⟩ := H
    go_wp2
    go_ret2
    exact ⟨er, bh⟩
   ·
    replace c11 := Bool.eq_false_iff.mpr c11
    subst c11
    rw [if_neg (show ¬ (false = true) by decide)] at H
    obtain ⟨t107, A120, H⟩ := Option.bind_eq_some_iff.mp H
    try dsimp only at H
    have A12 := Aside0.mk A120
    clear A120
    by_cases c13 : t107.toList = ([] : List UInt8)
    ·
     rw [if_pos c13] at H
     have c13b0 : (t107.toList == ([] : List UInt8)) = true := beq_iff_eq.mpr c13
     have c13b1 : (t107.toList != ([] : List UInt8)) = false := bne_eq_false_iff_eq.mpr c13
     clear c13
     obtain ⟨t108, A140, H⟩ := Option.bind_eq_some_iff.mp H
     try dsimp only at H
     have A14 := Aside0.mk A140
     clear A140
     by_cases c15 : t108.size + t104.size ≤ 9223372036854775807
     ·
      rw [if_pos c15] at H
      have c15b0 := eq_true c15
      have c15b1 : decide (t108.size + t104.size ≤ 9223372036854775807) = true := decide_eq_true c15
      try have c15b2 : (9223372036854775807 < t108.size + t104.size) = False := eq_false (Nat.not_lt.2 c15)
      by_cases c16 : (t108 ++ t104).size + t107.size ≤ 9223372036854775807
      ·
       rw [if_pos c16] at H
       have c16b0 := eq_true c16
       have c16b1 : decide ((t108 ++ t104).size + t107.size ≤ 9223372036854775807) = true := decide_eq_true c16
       try have c16b2 : (9223372036854775807 < (t108 ++ t104).size + t107.size) = False := eq_false (Nat.not_lt.2 c16)
       try have c16n3 := by have z_ := c16b2; simp only [ByteArray.size_append', ByteArray.size_mk', List.size_toArray, List.length_cons, List.length_nil, Nat.zero_add, Nat.reduceAdd] at z_; exact z_
       simp only [Option.some.injEq, Prod.mk.injEq] at H
       obtain ⟨rfl, rfl⟩ := H
       go_wp2_with (first | ((with_reducible refine gate_callee (f := 9) rfl ?_); refine goesL_ (some 29) rfl rfl Tryz.func9 (by kernel_rfl) rfl #[.string t102] rfl (by (try simp only [List.map_toArray, List.map_cons, List.map_nil]); first | done | rfl | (simp only [ne_nil_isEmpty]; rfl) | (simp only [List.length_drop, List.length_take]; rfl)) ?_; (with_reducible refine (impl_SortedQuery.calls t102 t107 _ ?side1 A12.out).mono ?_); (case side1 => exact XW.to (XW.stays hX bh) (by decide)); rintro e w17 ⟨rfl, hb⟩; refine ⟨_, rfl, ?_⟩; replace HB := Aside0.mk (below_step bh hb); (try clear hb); (try clear hb2); (try clear hk); (try clear hi)) | ((with_reducible refine gate_callee (f := 19) rfl ?_); refine goesL_ (some 35) rfl rfl Tryz.func19 (by kernel_rfl) rfl #[.string a0] rfl (by (try simp only [List.map_toArray, List.map_cons, List.map_nil]); first | done | rfl | (simp only [ne_nil_isEmpty]; rfl) | (simp only [List.length_drop, List.length_take]; rfl)) ?_; (with_reducible refine (impl_Lower.calls a0 t108 _ A14.out).mono ?_); rintro e w18 ⟨rfl, hb⟩; refine ⟨_, rfl, ?_⟩; replace HB := Aside0.mk (below_step bh hb); (try clear hb); (try clear hb2); (try clear hk); (try clear hi)))
       go_ret2
       exact ⟨er, bh⟩
      ·
       rw [if_neg c16] at H
       exact absurd H (by simp)
     ·
      rw [if_neg c15] at H
      exact absurd H (by simp)
    ·
     rw [if_neg c13] at H
     have c13b0 : (t107.toList == ([] : List UInt8)) = false := beq_eq_false_iff_ne.mpr c13
     have c13b1 : (t107.toList != ([] : List UInt8)) = true := bne_iff_ne.mpr c13
     by_cases c19 : 1 + t107.size ≤ 9223372036854775807
     ·
      rw [if_pos c19] at H
      have c19b0 := eq_true c19
      have c19b1 : decide (1 + t107.size ≤ 9223372036854775807) = true := decide_eq_true c19
      try have c19b2 : (9223372036854775807 < 1 + t107.size) = False := eq_false (Nat.not_lt.2 c19)
      obtain ⟨t109, A200, H⟩ := Option.bind_eq_some_iff.mp H
      try dsimp only at H
      have A20 := Aside0.mk A200
      clear A200
      by_cases c21 : t109.size + t104.size ≤ 9223372036854775807
      ·
       rw [if_pos c21] at H
       have c21b0 := eq_true c21
       have c21b1 : decide (t109.size + t104.size ≤ 9223372036854775807) = true := decide_eq_true c21
       try have c21b2 : (9223372036854775807 < t109.size + t104.size) = False := eq_false (Nat.not_lt.2 c21)
       by_cases c22 : (t109 ++ t104).size + ((⟨#[63]⟩ : ByteArray) ++ t107).size ≤ 9223372036854775807
       ·
        rw [if_pos c22] at H
        have c22b0 := eq_true c22
        have c22b1 : decide ((t109 ++ t104).size + ((⟨#[63]⟩ : ByteArray) ++ t107).size ≤ 9223372036854775807) = true := decide_eq_true c22
        try have c22b2 : (9223372036854775807 < (t109 ++ t104).size + ((⟨#[63]⟩ : ByteArray) ++ t107).size) = False := eq_false (Nat.not_lt.2 c22)
        try have c22n3 := by have z_ := c22b2; simp only [ByteArray.size_append', ByteArray.size_mk', List.size_toArray, List.length_cons, List.length_nil, Nat.zero_add, Nat.reduceAdd] at z_; exact z_
        simp only [Option.some.injEq, Prod.mk.injEq] at H
        obtain ⟨rfl, rfl⟩ := H
        go_wp2_with (first | ((with_reducible refine gate_callee (f := 9) rfl ?_); refine goesL_ (some 29) rfl rfl Tryz.func9 (by kernel_rfl) rfl #[.string t102] rfl (by (try simp only [List.map_toArray, List.map_cons, List.map_nil]); first | done | rfl | (simp only [ne_nil_isEmpty]; rfl) | (simp only [List.length_drop, List.length_take]; rfl)) ?_; (with_reducible refine (impl_SortedQuery.calls t102 t107 _ ?side1 A12.out).mono ?_); (case side1 => exact XW.to (XW.stays hX bh) (by decide)); rintro e w23 ⟨rfl, hb⟩; refine ⟨_, rfl, ?_⟩; replace HB := Aside0.mk (below_step bh hb); (try clear hb); (try clear hb2); (try clear hk); (try clear hi)) | ((with_reducible refine gate_callee (f := 19) rfl ?_); refine goesL_ (some 35) rfl rfl Tryz.func19 (by kernel_rfl) rfl #[.string a0] rfl (by (try simp only [List.map_toArray, List.map_cons, List.map_nil]); first | done | rfl | (simp only [ne_nil_isEmpty]; rfl) | (simp only [List.length_drop, List.length_take]; rfl)) ?_; (with_reducible refine (impl_Lower.calls a0 t109 _ A20.out).mono ?_); rintro e w24 ⟨rfl, hb⟩; refine ⟨_, rfl, ?_⟩; replace HB := Aside0.mk (below_step bh hb); (try clear hb); (try clear hb2); (try clear hk); (try clear hi)))
        go_ret2
        exact ⟨er, bh⟩
       ·
        rw [if_neg c22] at H
        exact absurd H (by simp)
      ·
       rw [if_neg c21] at H
       exact absurd H (by simp)
     ·
      rw [if_neg c19] at H
      exact absurd H (by simp)
/-! ### laws_big: function 7 -/
def laws_big.f (l0 : List Int) : Option (Bool) := some (decide ((l0.length : Int) > 4096))
set_option maxHeartbeats 8000000 in
set_option maxRecDepth 100000 in
theorem laws_big.calls (A0 : Option Addr) (c0 : Nat) (l0 : List Int) (r : Bool) (w : World) (hr0 : Kd.C (Kd.int .u8) w A0 l0.length l0) (hc0 : l0.length ≤ c0) (h : laws_big.f l0 = some r) :
  Calls Tryz.prog 7 #[.slice A0 l0.length c0] w fun e w' => e = .returned (.bool r) ∧ Drawn0 w w' := by
 have HR0 := Aside0.mk hr0
 have HC0 := Aside0.mk hc0
 clear hr0 hc0
 have H : (some (decide ((l0.length : Int) > 4096))) = some r := h
 clear h
 obtain rfl := Option.some.inj H
 go_enter Tryz.func7, Tryz.ntmps7
 go_wp2
 go_ret
 exact ⟨by first | rfl | (simp; done) | (simp [*]; done), by repeat (first | exact Drawn0.refl _ | apply Drawn0.step)⟩
/-! ### laws_pick: function 12 -/
def laws_pick.l0 : Nat → List Int → Int → Int → Int → Int → Option (Int)
 | 0, _, _, _, _, _ => none
 | k + 1, x0, x1, x2, x7, x8 => if x8 < (x0.length : Int) then (if 0 ≤ x8 then (laws_pick.l0 k x0 x1 x2 (Int.tmod (wrap64 ((wrap64 ((wrap64 (x7 * 113)) + (wrap64 (rd x0 x8)))) + x1)) 1000003) (wrap64 (x8 + 1))) else (none)) else (if x2 = 0 then (none) else (some (Int.tmod x7 x2)))
def laws_pick.f (k : Nat) (l0 : List Int) (a1 : Int) (a2 : Int) : Option (Int) := laws_pick.l0 k l0 a1 a2 (wrap64 ((l0.length : Int) + (wrap64 (7919 * a1)))) 0
theorem laws_pick.mono_l : ∀ k, (∀ y0 y1 y2 y3 y4, LeO (laws_pick.l0 k y0 y1 y2 y3 y4) (laws_pick.l0 (k + 1) y0 y1 y2 y3 y4))
 | 0 => fun _ _ _ _ _ r h => by simp [laws_pick.l0] at h
 | k + 1 => by
  have ih0 := laws_pick.mono_l k
  ·
   intro y0 y1 y2 y3 y4
   unfold laws_pick.l0
   repeat' first
   | (with_reducible exact ih0 _ _ _ _ _)
   | (with_reducible exact LeO.refl _)
   | (with_reducible exact LeO.none _)
   | (with_reducible refine LeO.ite ?_ ?_)
   | (with_reducible refine LeO.bind ?_ (fun _ => ?_))
   | exact ih0 _ _ _ _ _
   | exact LeO.none _
   | refine LeO.ite ?_ ?_
   | refine LeO.bind ?_ (fun _ => ?_)
theorem laws_pick.mono : ∀ a0 a1 a2 k, LeO (laws_pick.f k a0 a1 a2) (laws_pick.f (k + 1) a0 a1 a2) := by
 intro a0 a1 a2 k
 have ih0 := laws_pick.mono_l k
 unfold laws_pick.f
 repeat' first
   | (with_reducible exact ih0 _ _ _ _ _)
   | (with_reducible exact LeO.refl _)
   | (with_reducible exact LeO.none _)
   | (with_reducible refine LeO.ite ?_ ?_)
   | (with_reducible refine LeO.bind ?_ (fun _ => ?_))
   | exact ih0 _ _ _ _ _
   | exact LeO.none _
   | refine LeO.ite ?_ ?_
   | refine LeO.bind ?_ (fun _ => ?_)
set_option maxHeartbeats 8000000 in
set_option maxRecDepth 100000 in
theorem laws_pick.calls (k : Nat) (A0 : Option Addr) (c0 : Nat) (l0 : List Int) (a1 : Int) (a2 : Int) (r : Int) (w : World) (hr0 : Kd.C (Kd.int .u8) w A0 l0.length l0) (hc0 : l0.length ≤ c0) (h : laws_pick.f k l0 a1 a2 = some r) :
  Calls Tryz.prog 12 #[.slice A0 l0.length c0, .int .i64 a1, .int .i64 a2] w fun e w' => e = .returned (.int .i64 r) ∧ Drawn0 w w' := by
 have HR0 := Aside0.mk hr0
 have HC0 := Aside0.mk hc0
 clear hr0 hc0
 have H : (laws_pick.l0 k l0 a1 a2 (wrap64 ((l0.length : Int) + (wrap64 (7919 * a1)))) 0) = some r := h
 clear h
 have H' := Aside0.mk H
 clear H
 go_enter Tryz.func12, Tryz.ntmps12
 go_wp2
 go_loopg [7, 8] k (fun kq v7 v8 w' => ∃ (x7_1 : Int) (x8_1 : Int), v7 = .int .i64 x7_1 ∧ v8 = .int .i64 x8_1 ∧ Aside0 (laws_pick.l0 kq l0 a1 a2 x7_1 x8_1 = some r) ∧ Aside0 (kq ≤ k) ∧ Drawn0 w w')
 case atStart => exact ⟨(wrap64 ((l0.length : Int) + (wrap64 (7919 * a1)))), (0), (by first | rfl | (simp; done) | (simp [*]; done)), (by first | rfl | (simp; done) | (simp [*]; done)), H', ⟨Nat.le_refl _⟩, by repeat (first | exact Drawn0.refl _ | apply Drawn0.step)⟩
 case round =>
  clear H'
  try clear c1
  try clear p2
  obtain ⟨x7_1, x8_1, rfl, rfl, HA, HK1, ⟨m1, rfl⟩⟩ := hrel
  cases gk with
  | zero => exact absurd HA.out (by simp [laws_pick.l0])
  | succ k1 =>
   have H := HA.out
   clear HA
   simp only [laws_pick.l0] at H
   by_cases c4 : x8_1 < (l0.length : Int)
   ·
    rw [if_pos c4] at H
    have c4b0 : decide (x8_1 < (l0.length : Int)) = true := decide_eq_true c4
    clear c4
    by_cases c5 : 0 ≤ x8_1
    ·
     rw [if_pos c5] at H
     have c5b0 : decide (0 ≤ x8_1) = true := decide_eq_true c5
     clear c5
     have H' := Aside0.mk H
     clear H
     have p101 : 0 ≤ (x8_1 : Int) := of_decide_eq_true (by first | (with_reducible assumption) | assumption)
     have q101 : x8_1 < (l0.length : Int) := of_decide_eq_true (by first | (with_reducible assumption) | assumption)
     obtain ⟨ad101, e101, hx101_0⟩ := Kd.at_int HR0.out x8_1 p101 q101
     cases e101
     replace p101 := eq_true p101
     replace q101 := eq_true q101
     go_wp2
     go_roundg k1
     case measure => have := HK1.out; omega
     case rel => exact ⟨(Int.tmod (wrap64 ((wrap64 ((wrap64 (x7_1 * 113)) + (wrap64 (rd l0 x8_1)))) + a1)) 1000003), (wrap64 (x8_1 + 1)), (by first | rfl | (simp; done) | (simp [*]; done)), (by first | rfl | (simp; done) | (simp [*]; done)), H', ⟨by have := HK1.out; omega⟩, by repeat (first | exact Drawn0.refl _ | apply Drawn0.step)⟩
    ·
     rw [if_neg c5] at H
     exact absurd H (by simp)
   ·
    rw [if_neg c4] at H
    have c4b0 : decide (x8_1 < (l0.length : Int)) = false := decide_eq_false c4
    clear c4
    by_cases c6 : a2 = 0
    ·
     rw [if_pos c6] at H
     exact absurd H (by simp)
    ·
     rw [if_neg c6] at H
     have c6b0 : (a2 == 0) = false := beq_eq_false_iff_ne.mpr c6
     have c6b1 : (a2 != 0) = true := bne_iff_ne.mpr c6
     obtain rfl := Option.some.inj H
     go_wp2
     go_ret
     exact ⟨by first | rfl | (simp; done) | (simp [*]; done), by repeat (first | exact Drawn0.refl _ | apply Drawn0.step)⟩
/-! ### spec_l3Draw: function 28 -/
def spec_l3Draw.l0 : Nat → ByteArray → Int → List Int → Int → Int → Option (ByteArray × Int × Int)
 | 0, _, _, _, _, _ => none
 | k + 1, x3, x4, x1000, x1001, x1002 => if x4 > 0 then (if x3.size + 1 ≤ 9223372036854775807 then ((some (([(⟨#[97]⟩ : ByteArray), (⟨#[98]⟩ : ByteArray), (⟨#[46]⟩ : ByteArray), (⟨#[46, 46]⟩ : ByteArray), (⟨#[]⟩ : ByteArray), (⟨#[99, 32, 100]⟩ : ByteArray), (⟨#[37, 52, 49]⟩ : ByteArray), (⟨#[37, 50, 102]⟩ : ByteArray), (⟨#[120, 37]⟩ : ByteArray), (⟨#[126, 107]⟩ : ByteArray)] : List ByteArray) : List ByteArray)).bind fun y104 => ((spec_l1Below.f x1000 x1001 x1002 10).bind fun bt107 => (if 0 ≤ bt107.1 then (if bt107.1 < (y104.length : Int) then (if (x3 ++ (⟨#[47]⟩ : ByteArray)).size + (rdOf ByteArray.empty y104 bt107.1).size ≤ 9223372036854775807 then (spec_l3Draw.l0 k ((x3 ++ (⟨#[47]⟩ : ByteArray)) ++ (rdOf ByteArray.empty y104 bt107.1)) (wrap64 (x4 - 1)) x1000 bt107.2.1 bt107.2.2) else (none)) else (none)) else (none)))) else (none)) else (some (x3, x1001, x1002))
def spec_l3Draw.f (k : Nat) (s0_0 : List Int) (s0_1 : Int) (s0_2 : Int) : Option (ByteArray × Int × Int) := (spec_l1Below.f s0_0 s0_1 s0_2 4).bind fun bt101 => (spec_l3Draw.l0 k (⟨#[]⟩ : ByteArray) (wrap64 (1 + bt101.1)) s0_0 bt101.2.1 bt101.2.2)
theorem spec_l3Draw.mono_l : ∀ k, (∀ y0 y1 y2 y3 y4, LeO (spec_l3Draw.l0 k y0 y1 y2 y3 y4) (spec_l3Draw.l0 (k + 1) y0 y1 y2 y3 y4))
 | 0 => fun _ _ _ _ _ r h => by simp [spec_l3Draw.l0] at h
 | k + 1 => by
  have ih0 := spec_l3Draw.mono_l k
  ·
   intro y0 y1 y2 y3 y4
   unfold spec_l3Draw.l0
   repeat' first
   | (with_reducible exact ih0 _ _ _ _ _)
   | (with_reducible exact LeO.refl _)
   | (with_reducible exact LeO.none _)
   | (with_reducible refine LeO.ite ?_ ?_)
   | (with_reducible refine LeO.bind ?_ (fun _ => ?_))
   | exact ih0 _ _ _ _ _
   | exact LeO.none _
   | refine LeO.ite ?_ ?_
   | refine LeO.bind ?_ (fun _ => ?_)
theorem spec_l3Draw.mono : ∀ a0 a1 a2 k, LeO (spec_l3Draw.f k a0 a1 a2) (spec_l3Draw.f (k + 1) a0 a1 a2) := by
 intro a0 a1 a2 k
 have ih0 := spec_l3Draw.mono_l k
 unfold spec_l3Draw.f
 repeat' first
   | (with_reducible exact ih0 _ _ _ _ _)
   | (with_reducible exact LeO.refl _)
   | (with_reducible exact LeO.none _)
   | (with_reducible refine LeO.ite ?_ ?_)
   | (with_reducible refine LeO.bind ?_ (fun _ => ?_))
   | exact ih0 _ _ _ _ _
   | exact LeO.none _
   | refine LeO.ite ?_ ?_
   | refine LeO.bind ?_ (fun _ => ?_)
set_option maxHeartbeats 8000000 in
set_option maxRecDepth 100000 in
theorem spec_l3Draw.calls (k : Nat) (g : Nat) (s0_0 : List Int) (s0_1 : Int) (s0_2 : Int) (r1 : ByteArray) (r2 : Int) (r3 : Int) (w0 w : World) (hI : IsS53 w0 w g s0_0 s0_1 s0_2) (hB : Below w0.heap.size w0 w) (h : spec_l3Draw.f k s0_0 s0_1 s0_2 = some (r1, r2, r3)) :
  Calls Tryz.prog 28 #[.pointer (some ⟨g, 0, none⟩)] w fun e w' => e = .returned (.string r1) ∧ IsS53 w0 w' g s0_0 r2 r3 ∧ Below w0.heap.size w0 w' ∧ KeepBut w w' g none := by
 have HI0 := Aside0.mk hI
 have HK := Aside0.mk (KeepBut.refl w g none)
 have HL := Aside0.mk hB.size
 clear hI
 have HW0 := Aside0.mk hB.size
 have HB := Aside0.mk hB
 clear hB
 have H : ((spec_l1Below.f s0_0 s0_1 s0_2 4).bind fun bt101 => (spec_l3Draw.l0 k (⟨#[]⟩ : ByteArray) (wrap64 (1 + bt101.1)) s0_0 bt101.2.1 bt101.2.2)) = some (r1, r2, r3) := h
 clear h
 obtain ⟨⟨t101, t102, t103⟩, A20, H⟩ := Option.bind_eq_some_iff.mp H
 try dsimp only at H
 have A2 := Aside0.mk A20
 clear A20
 have H' := Aside0.mk H
 clear H
 go_enter Tryz.func28, Tryz.ntmps28
 go_wp2_with (first | ((with_reducible refine gate_callee (f := 27) rfl ?_); refine goesL_ (some 6) rfl rfl Tryz.func27 (by kernel_rfl) rfl #[.pointer (some ⟨g, 0, none⟩), .int .i64 4] rfl mc ?_; (with_reducible refine (spec_l1Below.calls g s0_0 s0_1 s0_2 4 t101 t102 t103 w0 _ ?side1 ?side2 A2.out).mono ?_); (case side1 => repeat (first | (with_reducible first | exact HI0.out | apply IsS53.alloc | apply IsS53.drewN | apply IsS53.drew | apply IsS53.set_1 | apply IsS53.set_2) | exact HI0.out)); (case side2 => repeat (first | (with_reducible first | exact HB.out | apply below_alloc | apply pw_below_drewN | apply below_drew1 | refine below_set ?_ (IsS53.ge HI0.out)) | exact HB.out)); rintro e w3 ⟨rfl, hi, hb, hk⟩; refine ⟨_, rfl, ?_⟩; replace HK := Aside0.mk (KeepBut.trans (by repeat (first | (with_reducible first | exact HK.out | apply KeepBut.set_ | apply keep_drewN | apply keep_drew | apply keep_alloc) | exact HK.out)) hk (.inl rfl)); replace HI0 := Aside0.mk (hi); replace HB := Aside0.mk (hb); (try clear hb); (try clear hb2); (try clear hk); (try clear hi)))
 go_loopg [3, 4] k (fun kq v3 v4 w' => ∃ (x3_1 : ByteArray) (x4_1 : Int) (x1001_1 : Int) (x1002_1 : Int), v3 = .string x3_1 ∧ v4 = .int .i64 x4_1 ∧ Aside0 (spec_l3Draw.l0 kq x3_1 x4_1 s0_0 x1001_1 x1002_1 = some (r1, r2, r3)) ∧ Aside0 (kq ≤ k) ∧ Aside0 (IsS53 w0 w' g s0_0 x1001_1 x1002_1) ∧ Aside0 (KeepBut w w' g none) ∧ Aside0 (Below w0.heap.size w0 w'))
 case atStart => exact ⟨((⟨#[]⟩ : ByteArray)), (wrap64 (1 + t101)), (t102), (t103), (by first | rfl | (simp; done) | (simp [*]; done)), (by first | rfl | (simp; done) | (simp [*]; done)), H', ⟨Nat.le_refl _⟩, ⟨by repeat (first | (with_reducible first | exact HI0.out | apply IsS53.alloc | apply IsS53.drewN | apply IsS53.drew | apply IsS53.set_1 | apply IsS53.set_2) | exact HI0.out)⟩, ⟨by repeat (first | (with_reducible first | exact HK.out | apply KeepBut.set_ | apply keep_drewN | apply keep_drew | apply keep_alloc) | exact HK.out)⟩, ⟨by repeat (first | (with_reducible first | exact HB.out | apply below_alloc | apply pw_below_drewN | apply below_drew1 | refine below_set ?_ (IsS53.ge HI0.out)) | exact HB.out)⟩⟩
 case round =>
  clear H'
  try clear c2
  try clear p2
  obtain ⟨x3_1, x4_1, x1001_1, x1002_1, rfl, rfl, HA, HK1, HI0, HK, HB⟩ := hrel
  cases gk with
  | zero => exact absurd HA.out (by simp [spec_l3Draw.l0])
  | succ k1 =>
   have H := HA.out
   clear HA
   simp only [spec_l3Draw.l0] at H
   by_cases c4 : x4_1 > 0
   ·
    rw [if_pos c4] at H
    have c4b0 : decide (0 < x4_1) = true := decide_eq_true c4
    clear c4
    by_cases c5 : x3_1.size + 1 ≤ 9223372036854775807
    ·
     rw [if_pos c5] at H
     have c5b0 := eq_true c5
     have c5b1 : decide (x3_1.size + 1 ≤ 9223372036854775807) = true := decide_eq_true c5
     try have c5b2 : (9223372036854775807 < x3_1.size + 1) = False := eq_false (Nat.not_lt.2 c5)
     obtain ⟨y104, hy104⟩ : ∃ y_ : List ByteArray, y_ = (([(⟨#[97]⟩ : ByteArray), (⟨#[98]⟩ : ByteArray), (⟨#[46]⟩ : ByteArray), (⟨#[46, 46]⟩ : ByteArray), (⟨#[]⟩ : ByteArray), (⟨#[99, 32, 100]⟩ : ByteArray), (⟨#[37, 52, 49]⟩ : ByteArray), (⟨#[37, 50, 102]⟩ : ByteArray), (⟨#[120, 37]⟩ : ByteArray), (⟨#[126, 107]⟩ : ByteArray)] : List ByteArray)) := ⟨_, rfl⟩
     replace H : ((spec_l1Below.f s0_0 x1001_1 x1002_1 10).bind fun bt107 => (if 0 ≤ bt107.1 then (if bt107.1 < (y104.length : Int) then (if (x3_1 ++ (⟨#[47]⟩ : ByteArray)).size + (rdOf ByteArray.empty y104 bt107.1).size ≤ 9223372036854775807 then (spec_l3Draw.l0 k1 ((x3_1 ++ (⟨#[47]⟩ : ByteArray)) ++ (rdOf ByteArray.empty y104 bt107.1)) (wrap64 (x4_1 - 1)) s0_0 bt107.2.1 bt107.2.2) else (none)) else (none)) else (none))) = some (r1, r2, r3) := by first | (rw [hy104]; with_reducible exact H) | (have H2_ := (Option.bind_some _ _).symm.trans H; rw [hy104]; with_reducible exact H2_) | (have H2_ := (Option.bind_some _ _).symm.trans H; with_reducible exact H2_) | with_reducible exact H | (rw [hy104]; exact H) | exact H
     have Ny104 := Aside0.mk hy104
     clear hy104
     obtain ⟨⟨t107, t108, t109⟩, A60, H⟩ := Option.bind_eq_some_iff.mp H
     try dsimp only at H
     have A6 := Aside0.mk A60
     clear A60
     by_cases c7 : 0 ≤ t107
     ·
      rw [if_pos c7] at H
      have c7b0 : decide (0 ≤ t107) = true := decide_eq_true c7
      clear c7
      by_cases c8 : t107 < (y104.length : Int)
      ·
       rw [if_pos c8] at H
       have c8b0 : decide (t107 < (y104.length : Int)) = true := decide_eq_true c8
       clear c8
       by_cases c9 : (x3_1 ++ (⟨#[47]⟩ : ByteArray)).size + (rdOf ByteArray.empty y104 t107).size ≤ 9223372036854775807
       ·
        rw [if_pos c9] at H
        have c9b0 := eq_true c9
        have c9b1 : decide ((x3_1 ++ (⟨#[47]⟩ : ByteArray)).size + (rdOf ByteArray.empty y104 t107).size ≤ 9223372036854775807) = true := decide_eq_true c9
        try have c9b2 : (9223372036854775807 < (x3_1 ++ (⟨#[47]⟩ : ByteArray)).size + (rdOf ByteArray.empty y104 t107).size) = False := eq_false (Nat.not_lt.2 c9)
        try have c9n3 := by have z_ := c9b2; simp only [ByteArray.size_append', ByteArray.size_mk', List.size_toArray, List.length_cons, List.length_nil, Nat.zero_add, Nat.reduceAdd] at z_; exact z_
        have H' := Aside0.mk H
        clear H
        go_wp2_with (first | ((with_reducible refine gate_dst (N := 14) rfl ?_); refine Kd.R_lit Kd.string _ 9 ?hg (N := 14) ?hd (xs := ([(⟨#[97]⟩ : ByteArray), (⟨#[98]⟩ : ByteArray), (⟨#[46]⟩ : ByteArray), (⟨#[46, 46]⟩ : ByteArray), (⟨#[]⟩ : ByteArray), (⟨#[99, 32, 100]⟩ : ByteArray), (⟨#[37, 52, 49]⟩ : ByteArray), (⟨#[37, 50, 102]⟩ : ByteArray), (⟨#[120, 37]⟩ : ByteArray), (⟨#[126, 107]⟩ : ByteArray)] : List ByteArray)) (inner := [.string (⟨#[97]⟩ : ByteArray), .string (⟨#[98]⟩ : ByteArray), .string (⟨#[46]⟩ : ByteArray), .string (⟨#[46, 46]⟩ : ByteArray), .string (⟨#[]⟩ : ByteArray), .string (⟨#[99, 32, 100]⟩ : ByteArray), .string (⟨#[37, 52, 49]⟩ : ByteArray), .string (⟨#[37, 50, 102]⟩ : ByteArray), .string (⟨#[120, 37]⟩ : ByteArray), .string (⟨#[126, 107]⟩ : ByteArray)]) (ok := fun _ => True) (okp := fun _ => True) ?hr ?hp (fun _ hk => hk) trivial (Below.refl _ _) (Nat.le_refl _) (by simp) ?_; (case hd => rfl); (case hg => rfl); (case hr => first | (go_simp; done) | (go_simp; rfl)); (case hp => exact (Reps.one (show Kd.M Kd.string _ _ _ (⟨#[97]⟩ : ByteArray) [.string (⟨#[97]⟩ : ByteArray)] from rfl) (Reps.one (show Kd.M Kd.string _ _ _ (⟨#[98]⟩ : ByteArray) [.string (⟨#[98]⟩ : ByteArray)] from rfl) (Reps.one (show Kd.M Kd.string _ _ _ (⟨#[46]⟩ : ByteArray) [.string (⟨#[46]⟩ : ByteArray)] from rfl) (Reps.one (show Kd.M Kd.string _ _ _ (⟨#[46, 46]⟩ : ByteArray) [.string (⟨#[46, 46]⟩ : ByteArray)] from rfl) (Reps.one (show Kd.M Kd.string _ _ _ (⟨#[]⟩ : ByteArray) [.string (⟨#[]⟩ : ByteArray)] from rfl) (Reps.one (show Kd.M Kd.string _ _ _ (⟨#[99, 32, 100]⟩ : ByteArray) [.string (⟨#[99, 32, 100]⟩ : ByteArray)] from rfl) (Reps.one (show Kd.M Kd.string _ _ _ (⟨#[37, 52, 49]⟩ : ByteArray) [.string (⟨#[37, 52, 49]⟩ : ByteArray)] from rfl) (Reps.one (show Kd.M Kd.string _ _ _ (⟨#[37, 50, 102]⟩ : ByteArray) [.string (⟨#[37, 50, 102]⟩ : ByteArray)] from rfl) (Reps.one (show Kd.M Kd.string _ _ _ (⟨#[120, 37]⟩ : ByteArray) [.string (⟨#[120, 37]⟩ : ByteArray)] from rfl) (Reps.one (show Kd.M Kd.string _ _ _ (⟨#[126, 107]⟩ : ByteArray) [.string (⟨#[126, 107]⟩ : ByteArray)] from rfl) (Reps.none _ _)))))))))))); intro v105 w10 ho11 hb hg_ hnew_; clear hg_ hnew_; (first | rw [← Ny104.out] at ho11 | (simp only [Int.reduceToNat] at ho11; rw [← Ny104.out] at ho11)); have n0_ := Aside0.mk (Kd.R_lower ho11 (keep_size (w := w) (g := g) (row := none) (by repeat (first | (with_reducible first | exact HK.out | apply KeepBut.set_ | apply keep_drewN | apply keep_drew | apply keep_alloc) | exact HK.out)))); have n1_ := Aside0.mk (IsS53.below (by repeat (first | (with_reducible first | exact HI0.out | apply IsS53.alloc | apply IsS53.drewN | apply IsS53.drew | apply IsS53.set_1 | apply IsS53.set_2) | exact HI0.out)) hb); have n2_ := Aside0.mk (KeepBut.trans (by repeat (first | (with_reducible first | exact HK.out | apply KeepBut.set_ | apply keep_drewN | apply keep_drew | apply keep_alloc) | exact HK.out)) (KeepBut.of_below hb g none) (.inl rfl)); have n3_ := Aside0.mk (below_step (by repeat (first | (with_reducible first | exact HB.out | apply below_alloc | apply pw_below_drewN | apply below_drew1 | refine below_set ?_ (IsS53.ge HI0.out)) | exact HB.out)) hb); clear HI0; clear HK; clear HB; have HO106 := n0_; have HI0 := n1_; have HK := n2_; have HB := n3_; clear n0_ n1_ n2_ n3_; clear hb ho11) | ((with_reducible refine gate_callee (f := 27) rfl ?_); refine goesL_ (some 16) rfl rfl Tryz.func27 (by kernel_rfl) rfl #[.pointer (some ⟨g, 0, none⟩), .int .i64 10] rfl mc ?_; (with_reducible refine (spec_l1Below.calls g s0_0 x1001_1 x1002_1 10 t107 t108 t109 w0 _ ?side1 ?side2 A6.out).mono ?_); (case side1 => repeat (first | (with_reducible first | exact HI0.out | apply IsS53.alloc | apply IsS53.drewN | apply IsS53.drew | apply IsS53.set_1 | apply IsS53.set_2) | exact HI0.out)); (case side2 => repeat (first | (with_reducible first | exact HB.out | apply below_alloc | apply pw_below_drewN | apply below_drew1 | refine below_set ?_ (IsS53.ge HI0.out)) | exact HB.out)); rintro e w12 ⟨rfl, hi, hb, hk⟩; refine ⟨_, rfl, ?_⟩; replace HO106 := Aside0.mk (Kd.R_mono (Kd.R_keep (IsS53.apart (show IsS53 w0 _ g s0_0 x1001_1 x1002_1 from by repeat (first | (with_reducible first | exact HI0.out | apply IsS53.alloc | apply IsS53.drewN | apply IsS53.drew | apply IsS53.set_1 | apply IsS53.set_2) | exact HI0.out)) (by (with_reducible repeat (first | apply Kd.R_alloc | apply Kd.R_drewN | apply Kd.R_drew)); exact HO106.out) (by decide)) hk (fun _ h => h.2)) (fun _ h => h.1)); replace HK := Aside0.mk (KeepBut.trans (by repeat (first | (with_reducible first | exact HK.out | apply KeepBut.set_ | apply keep_drewN | apply keep_drew | apply keep_alloc) | exact HK.out)) hk (.inl rfl)); replace HI0 := Aside0.mk (hi); replace HB := Aside0.mk (hb); (try clear hb); (try clear hb2); (try clear hk); (try clear hi); obtain ⟨Ao13, co13, eo13⟩ := Kd.R_slice HO106.out; subst eo13; have p110 : 0 ≤ (t107 : Int) := of_decide_eq_true (by first | (with_reducible assumption) | assumption); have q110 : t107 < (y104.length : Int) := of_decide_eq_true (by first | (with_reducible assumption) | assumption); obtain ⟨ad110, e110, hx110_0⟩ := Kd.at_string (Kd.R_reads' HO106.out).2.2 t107 p110 q110; cases e110; replace p110 := eq_true p110; replace q110 := eq_true q110))
        go_roundg k1
        case measure => have := HK1.out; omega
        case rel => exact ⟨((x3_1 ++ (⟨#[47]⟩ : ByteArray)) ++ (rdOf ByteArray.empty y104 t107)), (wrap64 (x4_1 - 1)), (t108), (t109), (by first | rfl | (simp; done) | (simp [*]; done)), (by first | rfl | (simp; done) | (simp [*]; done)), H', ⟨by have := HK1.out; omega⟩, ⟨by repeat (first | (with_reducible first | exact HI0.out | apply IsS53.alloc | apply IsS53.drewN | apply IsS53.drew | apply IsS53.set_1 | apply IsS53.set_2) | exact HI0.out)⟩, ⟨by repeat (first | (with_reducible first | exact HK.out | apply KeepBut.set_ | apply keep_drewN | apply keep_drew | apply keep_alloc) | exact HK.out)⟩, ⟨by repeat (first | (with_reducible first | exact HB.out | apply below_alloc | apply pw_below_drewN | apply below_drew1 | refine below_set ?_ (IsS53.ge HI0.out)) | exact HB.out)⟩⟩
       ·
        rw [if_neg c9] at H
        exact absurd H (by simp)
      ·
       rw [if_neg c8] at H
       exact absurd H (by simp)
     ·
      rw [if_neg c7] at H
      exact absurd H (by simp)
    ·
     rw [if_neg c5] at H
     exact absurd H (by simp)
   ·
    rw [if_neg c4] at H
    have c4b0 : decide (0 < x4_1) = false := decide_eq_false c4
    clear c4
    simp only [Option.some.injEq, Prod.mk.injEq] at H
    obtain ⟨rfl, rfl, rfl⟩ := H
    go_wp2
    go_ret
    exact ⟨er, by repeat (first | (with_reducible first | exact HI0.out | apply IsS53.alloc | apply IsS53.drewN | apply IsS53.drew | apply IsS53.set_1 | apply IsS53.set_2) | exact HI0.out), by repeat (first | (with_reducible first | exact HB.out | apply below_alloc | apply pw_below_drewN | apply below_drew1 | refine below_set ?_ (IsS53.ge HI0.out)) | exact HB.out), by repeat (first | (with_reducible first | exact HK.out | apply KeepBut.set_ | apply keep_drewN | apply keep_drew | apply keep_alloc) | exact HK.out)⟩
/-! ### spec_DrawKey: function 10 -/
def spec_DrawKey.f (k : Nat) (l0 : List Int) : Option (ByteArray × ByteArray) := (spec_l1New.f k l0).bind fun bt101 => ((some (([(⟨#[104]⟩ : ByteArray), (⟨#[72, 111, 115, 116]⟩ : ByteArray), (⟨#[97, 46, 98]⟩ : ByteArray), (⟨#[]⟩ : ByteArray), (⟨#[97, 32, 98]⟩ : ByteArray)] : List ByteArray) : List ByteArray)).bind fun y105 => ((spec_l1Below.f bt101.1 bt101.2.1 bt101.2.2 5).bind fun bt108 => (if 0 ≤ bt108.1 then (if bt108.1 < (y105.length : Int) then ((spec_l3Draw.f k bt101.1 bt108.2.1 bt108.2.2).bind fun bt112 => ((spec_l1Once.f bt101.1 bt112.2.1 bt112.2.2 2).bind fun bt115 => (if bt115.1 = true then (if bt112.1.size + 1 ≤ 9223372036854775807 then ((spec_l1DrawText.f k bt101.1 bt115.2.1 bt115.2.2 (⟨#[97, 98, 61, 38, 63]⟩ : ByteArray) 7).bind fun bt118 => (if (bt112.1 ++ (⟨#[63]⟩ : ByteArray)).size + bt118.1.size ≤ 9223372036854775807 then (some (rdOf ByteArray.empty y105 bt108.1, (bt112.1 ++ (⟨#[63]⟩ : ByteArray)) ++ bt118.1)) else (none))) else (none)) else (some (rdOf ByteArray.empty y105 bt108.1, bt112.1))))) else (none)) else (none))))
theorem spec_DrawKey.mono : ∀ a0 k, LeO (spec_DrawKey.f k a0) (spec_DrawKey.f (k + 1) a0) := by
 intro a0 k
 unfold spec_DrawKey.f
 repeat' first
   | (with_reducible exact spec_l1DrawText.mono _ _ _ _ _ _)
   | (with_reducible exact spec_l1New.mono _ _)
   | (with_reducible exact spec_l3Draw.mono _ _ _ _)
   | (with_reducible exact LeO.refl _)
   | (with_reducible exact LeO.none _)
   | (with_reducible refine LeO.ite ?_ ?_)
   | (with_reducible refine LeO.bind ?_ (fun _ => ?_))
   | exact spec_l1DrawText.mono _ _ _ _ _ _
   | exact spec_l1New.mono _ _
   | exact spec_l3Draw.mono _ _ _ _
   | exact LeO.none _
   | refine LeO.ite ?_ ?_
   | refine LeO.bind ?_ (fun _ => ?_)
set_option maxHeartbeats 8000000 in
set_option maxRecDepth 100000 in
theorem spec_DrawKey.calls (k : Nat) (A0 : Option Addr) (c0 : Nat) (l0 : List Int) (r1 : ByteArray) (r2 : ByteArray) (w : World) (hr0 : Kd.C (Kd.int .u8) w A0 l0.length l0) (hc0 : l0.length ≤ c0) (h : spec_DrawKey.f k l0 = some (r1, r2)) :
  Calls Tryz.prog 10 #[.slice A0 l0.length c0] w fun e w' => e = .returned (.tuple #[.string r1, .string r2]) ∧ Below w.heap.size w w' := by
 have HR0 := Aside0.mk hr0
 have HC0 := Aside0.mk hc0
 clear hr0 hc0
 have HB := Aside0.mk (Below.refl w.heap.size w)
 have H : ((spec_l1New.f k l0).bind fun bt101 => ((some (([(⟨#[104]⟩ : ByteArray), (⟨#[72, 111, 115, 116]⟩ : ByteArray), (⟨#[97, 46, 98]⟩ : ByteArray), (⟨#[]⟩ : ByteArray), (⟨#[97, 32, 98]⟩ : ByteArray)] : List ByteArray) : List ByteArray)).bind fun y105 => ((spec_l1Below.f bt101.1 bt101.2.1 bt101.2.2 5).bind fun bt108 => (if 0 ≤ bt108.1 then (if bt108.1 < (y105.length : Int) then ((spec_l3Draw.f k bt101.1 bt108.2.1 bt108.2.2).bind fun bt112 => ((spec_l1Once.f bt101.1 bt112.2.1 bt112.2.2 2).bind fun bt115 => (if bt115.1 = true then (if bt112.1.size + 1 ≤ 9223372036854775807 then ((spec_l1DrawText.f k bt101.1 bt115.2.1 bt115.2.2 (⟨#[97, 98, 61, 38, 63]⟩ : ByteArray) 7).bind fun bt118 => (if (bt112.1 ++ (⟨#[63]⟩ : ByteArray)).size + bt118.1.size ≤ 9223372036854775807 then (some (rdOf ByteArray.empty y105 bt108.1, (bt112.1 ++ (⟨#[63]⟩ : ByteArray)) ++ bt118.1)) else (none))) else (none)) else (some (rdOf ByteArray.empty y105 bt108.1, bt112.1))))) else (none)) else (none))))) = some (r1, r2) := h
 clear h
 obtain ⟨⟨t101, t102, t103⟩, A20, H⟩ := Option.bind_eq_some_iff.mp H
 try dsimp only at H
 have A2 := Aside0.mk A20
 clear A20
 obtain ⟨y105, hy105⟩ : ∃ y_ : List ByteArray, y_ = (([(⟨#[104]⟩ : ByteArray), (⟨#[72, 111, 115, 116]⟩ : ByteArray), (⟨#[97, 46, 98]⟩ : ByteArray), (⟨#[]⟩ : ByteArray), (⟨#[97, 32, 98]⟩ : ByteArray)] : List ByteArray)) := ⟨_, rfl⟩
 replace H : ((spec_l1Below.f t101 t102 t103 5).bind fun bt108 => (if 0 ≤ bt108.1 then (if bt108.1 < (y105.length : Int) then ((spec_l3Draw.f k t101 bt108.2.1 bt108.2.2).bind fun bt112 => ((spec_l1Once.f t101 bt112.2.1 bt112.2.2 2).bind fun bt115 => (if bt115.1 = true then (if bt112.1.size + 1 ≤ 9223372036854775807 then ((spec_l1DrawText.f k t101 bt115.2.1 bt115.2.2 (⟨#[97, 98, 61, 38, 63]⟩ : ByteArray) 7).bind fun bt118 => (if (bt112.1 ++ (⟨#[63]⟩ : ByteArray)).size + bt118.1.size ≤ 9223372036854775807 then (some (rdOf ByteArray.empty y105 bt108.1, (bt112.1 ++ (⟨#[63]⟩ : ByteArray)) ++ bt118.1)) else (none))) else (none)) else (some (rdOf ByteArray.empty y105 bt108.1, bt112.1))))) else (none)) else (none))) = some (r1, r2) := by first | (rw [hy105]; with_reducible exact H) | (have H2_ := (Option.bind_some _ _).symm.trans H; rw [hy105]; with_reducible exact H2_) | (have H2_ := (Option.bind_some _ _).symm.trans H; with_reducible exact H2_) | with_reducible exact H | (rw [hy105]; exact H) | exact H
 have Ny105 := Aside0.mk hy105
 clear hy105
 obtain ⟨⟨t108, t109, t110⟩, A30, H⟩ := Option.bind_eq_some_iff.mp H
 try dsimp only at H
 have A3 := Aside0.mk A30
 clear A30
 by_cases c4 : 0 ≤ t108
 ·
  rw [if_pos c4] at H
  have c4b0 : decide (0 ≤ t108) = true := decide_eq_true c4
  clear c4
  by_cases c5 : t108 < (y105.length : Int)
  ·
   rw [if_pos c5] at H
   have c5b0 : decide (t108 < (y105.length : Int)) = true := decide_eq_true c5
   clear c5
   obtain ⟨⟨t112, t113, t114⟩, A60, H⟩ := Option.bind_eq_some_iff.mp H
   try dsimp only at H
   have A6 := Aside0.mk A60
   clear A60
   obtain ⟨⟨t115, t116, t117⟩, A70, H⟩ := Option.bind_eq_some_iff.mp H
   try dsimp only at H
   have A7 := Aside0.mk A70
   clear A70
   by_cases c8 : t115 = true
   ·
    subst c8
    rw [if_pos rfl] at H
    by_cases c9 : t112.size + 1 ≤ 9223372036854775807
    ·
     rw [if_pos c9] at H
     have c9b0 := eq_true c9
     have c9b1 : decide (t112.size + 1 ≤ 9223372036854775807) = true := decide_eq_true c9
     try have c9b2 : (9223372036854775807 < t112.size + 1) = False := eq_false (Nat.not_lt.2 c9)
     obtain ⟨⟨t118, t119, t120⟩, A100, H⟩ := Option.bind_eq_some_iff.mp H
     try dsimp only at H
     have A10 := Aside0.mk A100
     clear A100
     by_cases c11 : (t112 ++ (⟨#[63]⟩ : ByteArray)).size + t118.size ≤ 9223372036854775807
     ·
      rw [if_pos c11] at H
      have c11b0 := eq_true c11
      have c11b1 : decide ((t112 ++ (⟨#[63]⟩ : ByteArray)).size + t118.size ≤ 9223372036854775807) = true := decide_eq_true c11
      try have c11b2 : (9223372036854775807 < (t112 ++ (⟨#[63]⟩ : ByteArray)).size + t118.size) = False := eq_false (Nat.not_lt.2 c11)
      try have c11n3 := by have z_ := c11b2; simp only [ByteArray.size_append', ByteArray.size_mk', List.size_toArray, List.length_cons, List.length_nil, Nat.zero_add, Nat.reduceAdd] at z_; exact z_
      simp only [Option.some.injEq, Prod.mk.injEq] at H
      obtain ⟨rfl, rfl⟩ := H
      go_enter Tryz.func10, Tryz.ntmps10
      go_wp2_with (first | ((with_reducible refine gate_callee (f := 20) rfl ?_); refine goesL_ (some 8) rfl rfl Tryz.func20 (by kernel_rfl) rfl #[.slice A0 l0.length c0] rfl mc ?_; (with_reducible refine (spec_l1New.calls k _ _ l0 t101 t102 t103 w _ ?side1 ?side2 ?side3 A2.out).mono ?_); (case side1 => repeat (first | (with_reducible first | exact HB.out | apply below_alloc | apply pw_below_drewN | apply below_drew1) | exact HB.out)); (case side2 => exact HR0.out); (case side3 => exact HC0.out); rintro e w12 ⟨g104, rfl, hi, hb, hb2⟩; refine ⟨_, rfl, ?_⟩; have HI104 := Aside0.mk (hi); replace HB := Aside0.mk (hb); (try clear hb); (try clear hb2); (try clear hk); (try clear hi)) | ((with_reducible refine gate_dst (N := 9) rfl ?_); refine Kd.R_lit Kd.string _ 9 ?hg (N := 9) ?hd (xs := ([(⟨#[104]⟩ : ByteArray), (⟨#[72, 111, 115, 116]⟩ : ByteArray), (⟨#[97, 46, 98]⟩ : ByteArray), (⟨#[]⟩ : ByteArray), (⟨#[97, 32, 98]⟩ : ByteArray)] : List ByteArray)) (inner := [.string (⟨#[104]⟩ : ByteArray), .string (⟨#[72, 111, 115, 116]⟩ : ByteArray), .string (⟨#[97, 46, 98]⟩ : ByteArray), .string (⟨#[]⟩ : ByteArray), .string (⟨#[97, 32, 98]⟩ : ByteArray)]) (ok := fun _ => True) (okp := fun _ => True) ?hr ?hp (fun _ hk => hk) trivial (Below.refl _ _) (Nat.le_refl _) (by simp) ?_; (case hd => rfl); (case hg => rfl); (case hr => first | (go_simp; done) | (go_simp; rfl)); (case hp => exact (Reps.one (show Kd.M Kd.string _ _ _ (⟨#[104]⟩ : ByteArray) [.string (⟨#[104]⟩ : ByteArray)] from rfl) (Reps.one (show Kd.M Kd.string _ _ _ (⟨#[72, 111, 115, 116]⟩ : ByteArray) [.string (⟨#[72, 111, 115, 116]⟩ : ByteArray)] from rfl) (Reps.one (show Kd.M Kd.string _ _ _ (⟨#[97, 46, 98]⟩ : ByteArray) [.string (⟨#[97, 46, 98]⟩ : ByteArray)] from rfl) (Reps.one (show Kd.M Kd.string _ _ _ (⟨#[]⟩ : ByteArray) [.string (⟨#[]⟩ : ByteArray)] from rfl) (Reps.one (show Kd.M Kd.string _ _ _ (⟨#[97, 32, 98]⟩ : ByteArray) [.string (⟨#[97, 32, 98]⟩ : ByteArray)] from rfl) (Reps.none _ _))))))); intro v106 w13 ho14 hb hg_ hnew_; clear hg_ hnew_; (first | rw [← Ny105.out] at ho14 | (simp only [Int.reduceToNat] at ho14; rw [← Ny105.out] at ho14)); have n0_ := Aside0.mk (Kd.R_lower ho14 (below_size (by repeat (first | (with_reducible first | exact HB.out | apply below_alloc | apply pw_below_drewN | apply below_drew1 | refine below_set ?_ (IsS53.ge HI104.out)) | exact HB.out)))); have n1_ := Aside0.mk (IsS53.below (by repeat (first | (with_reducible first | exact HI104.out | apply IsS53.alloc | apply IsS53.drewN | apply IsS53.drew | apply IsS53.set_1 | apply IsS53.set_2) | exact HI104.out)) hb); have n2_ := Aside0.mk (below_step (by repeat (first | (with_reducible first | exact HB.out | apply below_alloc | apply pw_below_drewN | apply below_drew1 | refine below_set ?_ (IsS53.ge HI104.out)) | exact HB.out)) hb); clear HI104; clear HB; have HO107 := n0_; have HI104 := n1_; have HB := n2_; clear n0_ n1_ n2_; clear hb ho14) | ((with_reducible refine gate_callee (f := 27) rfl ?_); refine goesL_ (some 11) rfl rfl Tryz.func27 (by kernel_rfl) rfl #[.pointer (some ⟨g104, 0, none⟩), .int .i64 5] rfl mc ?_; (with_reducible refine (spec_l1Below.calls g104 t101 t102 t103 5 t108 t109 t110 w _ ?side1 ?side2 A3.out).mono ?_); (case side1 => repeat (first | (with_reducible first | exact HI104.out | apply IsS53.alloc | apply IsS53.drewN | apply IsS53.drew | apply IsS53.set_1 | apply IsS53.set_2) | exact HI104.out)); (case side2 => repeat (first | (with_reducible first | exact HB.out | apply below_alloc | apply pw_below_drewN | apply below_drew1 | refine below_set ?_ (IsS53.ge HI104.out)) | exact HB.out)); rintro e w15 ⟨rfl, hi, hb, hk⟩; refine ⟨_, rfl, ?_⟩; replace HO107 := Aside0.mk (Kd.R_mono (Kd.R_keep (IsS53.apart (show IsS53 w _ g104 t101 t102 t103 from by repeat (first | (with_reducible first | exact HI104.out | apply IsS53.alloc | apply IsS53.drewN | apply IsS53.drew | apply IsS53.set_1 | apply IsS53.set_2) | exact HI104.out)) (by (with_reducible repeat (first | apply Kd.R_alloc | apply Kd.R_drewN | apply Kd.R_drew)); exact HO107.out) (by decide)) hk (fun _ h => h.2)) (fun _ h => h.1)); replace HI104 := Aside0.mk (hi); replace HB := Aside0.mk (hb); (try clear hb); (try clear hb2); (try clear hk); (try clear hi); obtain ⟨Ao16, co16, eo16⟩ := Kd.R_slice HO107.out; subst eo16; have p111 : 0 ≤ (t108 : Int) := of_decide_eq_true (by first | (with_reducible assumption) | assumption); have q111 : t108 < (y105.length : Int) := of_decide_eq_true (by first | (with_reducible assumption) | assumption); obtain ⟨ad111, e111, hx111_0⟩ := Kd.at_string (Kd.R_reads' HO107.out).2.2 t108 p111 q111; cases e111; replace p111 := eq_true p111; replace q111 := eq_true q111) | ((with_reducible refine gate_callee (f := 28) rfl ?_); refine goesL_ (some 15) rfl rfl Tryz.func28 (by kernel_rfl) rfl #[.pointer (some ⟨g104, 0, none⟩)] rfl mc ?_; (with_reducible refine (spec_l3Draw.calls k g104 t101 t109 t110 t112 t113 t114 w _ ?side1 ?side2 A6.out).mono ?_); (case side1 => repeat (first | (with_reducible first | exact HI104.out | apply IsS53.alloc | apply IsS53.drewN | apply IsS53.drew | apply IsS53.set_1 | apply IsS53.set_2) | exact HI104.out)); (case side2 => repeat (first | (with_reducible first | exact HB.out | apply below_alloc | apply pw_below_drewN | apply below_drew1 | refine below_set ?_ (IsS53.ge HI104.out)) | exact HB.out)); rintro e w17 ⟨rfl, hi, hb, hk⟩; refine ⟨_, rfl, ?_⟩; replace HO107 := Aside0.mk (Kd.R_mono (Kd.R_keep (IsS53.apart (show IsS53 w _ g104 t101 t109 t110 from by repeat (first | (with_reducible first | exact HI104.out | apply IsS53.alloc | apply IsS53.drewN | apply IsS53.drew | apply IsS53.set_1 | apply IsS53.set_2) | exact HI104.out)) (by (with_reducible repeat (first | apply Kd.R_alloc | apply Kd.R_drewN | apply Kd.R_drew)); exact HO107.out) (by decide)) hk (fun _ h => h.2)) (fun _ h => h.1)); replace HI104 := Aside0.mk (hi); replace HB := Aside0.mk (hb); (try clear hb); (try clear hb2); (try clear hk); (try clear hi)) | ((with_reducible refine gate_callee (f := 29) rfl ?_); refine goesL_ (some 17) rfl rfl Tryz.func29 (by kernel_rfl) rfl #[.pointer (some ⟨g104, 0, none⟩), .int .i64 2] rfl mc ?_; (with_reducible refine (spec_l1Once.calls g104 t101 t113 t114 2 true t116 t117 w _ ?side1 ?side2 A7.out).mono ?_); (case side1 => repeat (first | (with_reducible first | exact HI104.out | apply IsS53.alloc | apply IsS53.drewN | apply IsS53.drew | apply IsS53.set_1 | apply IsS53.set_2) | exact HI104.out)); (case side2 => repeat (first | (with_reducible first | exact HB.out | apply below_alloc | apply pw_below_drewN | apply below_drew1 | refine below_set ?_ (IsS53.ge HI104.out)) | exact HB.out)); rintro e w18 ⟨rfl, hi, hb, hk⟩; refine ⟨_, rfl, ?_⟩; replace HO107 := Aside0.mk (Kd.R_mono (Kd.R_keep (IsS53.apart (show IsS53 w _ g104 t101 t113 t114 from by repeat (first | (with_reducible first | exact HI104.out | apply IsS53.alloc | apply IsS53.drewN | apply IsS53.drew | apply IsS53.set_1 | apply IsS53.set_2) | exact HI104.out)) (by (with_reducible repeat (first | apply Kd.R_alloc | apply Kd.R_drewN | apply Kd.R_drew)); exact HO107.out) (by decide)) hk (fun _ h => h.2)) (fun _ h => h.1)); replace HI104 := Aside0.mk (hi); replace HB := Aside0.mk (hb); (try clear hb); (try clear hb2); (try clear hk); (try clear hi)) | ((with_reducible refine gate_callee (f := 21) rfl ?_); refine goesL_ (some 21) rfl rfl Tryz.func21 (by kernel_rfl) rfl #[.pointer (some ⟨g104, 0, none⟩), .string (⟨#[97, 98, 61, 38, 63]⟩ : ByteArray), .int .i64 7] rfl mc ?_; (with_reducible refine (spec_l1DrawText.calls k g104 t101 t116 t117 (⟨#[97, 98, 61, 38, 63]⟩ : ByteArray) 7 t118 t119 t120 w _ ?side1 ?side2 A10.out).mono ?_); (case side1 => repeat (first | (with_reducible first | exact HI104.out | apply IsS53.alloc | apply IsS53.drewN | apply IsS53.drew | apply IsS53.set_1 | apply IsS53.set_2) | exact HI104.out)); (case side2 => repeat (first | (with_reducible first | exact HB.out | apply below_alloc | apply pw_below_drewN | apply below_drew1 | refine below_set ?_ (IsS53.ge HI104.out)) | exact HB.out)); rintro e w19 ⟨rfl, hi, hb, hk⟩; refine ⟨_, rfl, ?_⟩; replace HO107 := Aside0.mk (Kd.R_mono (Kd.R_keep (IsS53.apart (show IsS53 w _ g104 t101 t116 t117 from by repeat (first | (with_reducible first | exact HI104.out | apply IsS53.alloc | apply IsS53.drewN | apply IsS53.drew | apply IsS53.set_1 | apply IsS53.set_2) | exact HI104.out)) (by (with_reducible repeat (first | apply Kd.R_alloc | apply Kd.R_drewN | apply Kd.R_drew)); exact HO107.out) (by decide)) hk (fun _ h => h.2)) (fun _ h => h.1)); replace HI104 := Aside0.mk (hi); replace HB := Aside0.mk (hb); (try clear hb); (try clear hb2); (try clear hk); (try clear hi)))
      go_ret2
      exact ⟨er, by repeat (first | (with_reducible first | exact HB.out | apply below_alloc | apply pw_below_drewN | apply below_drew1 | refine below_set ?_ (IsS53.ge HI104.out)) | exact HB.out)⟩
     ·
      rw [if_neg c11] at H
      exact absurd H (by simp)
    ·
     rw [if_neg c9] at H
     exact absurd H (by simp)
   ·
    replace c8 := Bool.eq_false_iff.mpr c8
    subst c8
    rw [if_neg (show ¬ (false = true) by decide)] at H
    simp only [Option.some.injEq, Prod.mk.injEq] at H
    obtain ⟨rfl, rfl⟩ := H
    go_enter Tryz.func10, Tryz.ntmps10
    go_wp2_with (first | ((with_reducible refine gate_callee (f := 20) rfl ?_); refine goesL_ (some 8) rfl rfl Tryz.func20 (by kernel_rfl) rfl #[.slice A0 l0.length c0] rfl mc ?_; (with_reducible refine (spec_l1New.calls k _ _ l0 t101 t102 t103 w _ ?side1 ?side2 ?side3 A2.out).mono ?_); (case side1 => repeat (first | (with_reducible first | exact HB.out | apply below_alloc | apply pw_below_drewN | apply below_drew1) | exact HB.out)); (case side2 => exact HR0.out); (case side3 => exact HC0.out); rintro e w20 ⟨g104, rfl, hi, hb, hb2⟩; refine ⟨_, rfl, ?_⟩; have HI104 := Aside0.mk (hi); replace HB := Aside0.mk (hb); (try clear hb); (try clear hb2); (try clear hk); (try clear hi)) | ((with_reducible refine gate_dst (N := 9) rfl ?_); refine Kd.R_lit Kd.string _ 9 ?hg (N := 9) ?hd (xs := ([(⟨#[104]⟩ : ByteArray), (⟨#[72, 111, 115, 116]⟩ : ByteArray), (⟨#[97, 46, 98]⟩ : ByteArray), (⟨#[]⟩ : ByteArray), (⟨#[97, 32, 98]⟩ : ByteArray)] : List ByteArray)) (inner := [.string (⟨#[104]⟩ : ByteArray), .string (⟨#[72, 111, 115, 116]⟩ : ByteArray), .string (⟨#[97, 46, 98]⟩ : ByteArray), .string (⟨#[]⟩ : ByteArray), .string (⟨#[97, 32, 98]⟩ : ByteArray)]) (ok := fun _ => True) (okp := fun _ => True) ?hr ?hp (fun _ hk => hk) trivial (Below.refl _ _) (Nat.le_refl _) (by simp) ?_; (case hd => rfl); (case hg => rfl); (case hr => first | (go_simp; done) | (go_simp; rfl)); (case hp => exact (Reps.one (show Kd.M Kd.string _ _ _ (⟨#[104]⟩ : ByteArray) [.string (⟨#[104]⟩ : ByteArray)] from rfl) (Reps.one (show Kd.M Kd.string _ _ _ (⟨#[72, 111, 115, 116]⟩ : ByteArray) [.string (⟨#[72, 111, 115, 116]⟩ : ByteArray)] from rfl) (Reps.one (show Kd.M Kd.string _ _ _ (⟨#[97, 46, 98]⟩ : ByteArray) [.string (⟨#[97, 46, 98]⟩ : ByteArray)] from rfl) (Reps.one (show Kd.M Kd.string _ _ _ (⟨#[]⟩ : ByteArray) [.string (⟨#[]⟩ : ByteArray)] from rfl) (Reps.one (show Kd.M Kd.string _ _ _ (⟨#[97, 32, 98]⟩ : ByteArray) [.string (⟨#[97, 32, 98]⟩ : ByteArray)] from rfl) (Reps.none _ _))))))); intro v106 w21 ho22 hb hg_ hnew_; clear hg_ hnew_; (first | rw [← Ny105.out] at ho22 | (simp only [Int.reduceToNat] at ho22; rw [← Ny105.out] at ho22)); have n0_ := Aside0.mk (Kd.R_lower ho22 (below_size (by repeat (first | (with_reducible first | exact HB.out | apply below_alloc | apply pw_below_drewN | apply below_drew1 | refine below_set ?_ (IsS53.ge HI104.out)) | exact HB.out)))); have n1_ := Aside0.mk (IsS53.below (by repeat (first | (with_reducible first | exact HI104.out | apply IsS53.alloc | apply IsS53.drewN | apply IsS53.drew | apply IsS53.set_1 | apply IsS53.set_2) | exact HI104.out)) hb); have n2_ := Aside0.mk (below_step (by repeat (first | (with_reducible first | exact HB.out | apply below_alloc | apply pw_below_drewN | apply below_drew1 | refine below_set ?_ (IsS53.ge HI104.out)) | exact HB.out)) hb); clear HI104; clear HB; have HO107 := n0_; have HI104 := n1_; have HB := n2_; clear n0_ n1_ n2_; clear hb ho22) | ((with_reducible refine gate_callee (f := 27) rfl ?_); refine goesL_ (some 11) rfl rfl Tryz.func27 (by kernel_rfl) rfl #[.pointer (some ⟨g104, 0, none⟩), .int .i64 5] rfl mc ?_; (with_reducible refine (spec_l1Below.calls g104 t101 t102 t103 5 t108 t109 t110 w _ ?side1 ?side2 A3.out).mono ?_); (case side1 => repeat (first | (with_reducible first | exact HI104.out | apply IsS53.alloc | apply IsS53.drewN | apply IsS53.drew | apply IsS53.set_1 | apply IsS53.set_2) | exact HI104.out)); (case side2 => repeat (first | (with_reducible first | exact HB.out | apply below_alloc | apply pw_below_drewN | apply below_drew1 | refine below_set ?_ (IsS53.ge HI104.out)) | exact HB.out)); rintro e w23 ⟨rfl, hi, hb, hk⟩; refine ⟨_, rfl, ?_⟩; replace HO107 := Aside0.mk (Kd.R_mono (Kd.R_keep (IsS53.apart (show IsS53 w _ g104 t101 t102 t103 from by repeat (first | (with_reducible first | exact HI104.out | apply IsS53.alloc | apply IsS53.drewN | apply IsS53.drew | apply IsS53.set_1 | apply IsS53.set_2) | exact HI104.out)) (by (with_reducible repeat (first | apply Kd.R_alloc | apply Kd.R_drewN | apply Kd.R_drew)); exact HO107.out) (by decide)) hk (fun _ h => h.2)) (fun _ h => h.1)); replace HI104 := Aside0.mk (hi); replace HB := Aside0.mk (hb); (try clear hb); (try clear hb2); (try clear hk); (try clear hi); obtain ⟨Ao24, co24, eo24⟩ := Kd.R_slice HO107.out; subst eo24; have p111 : 0 ≤ (t108 : Int) := of_decide_eq_true (by first | (with_reducible assumption) | assumption); have q111 : t108 < (y105.length : Int) := of_decide_eq_true (by first | (with_reducible assumption) | assumption); obtain ⟨ad111, e111, hx111_0⟩ := Kd.at_string (Kd.R_reads' HO107.out).2.2 t108 p111 q111; cases e111; replace p111 := eq_true p111; replace q111 := eq_true q111) | ((with_reducible refine gate_callee (f := 28) rfl ?_); refine goesL_ (some 15) rfl rfl Tryz.func28 (by kernel_rfl) rfl #[.pointer (some ⟨g104, 0, none⟩)] rfl mc ?_; (with_reducible refine (spec_l3Draw.calls k g104 t101 t109 t110 t112 t113 t114 w _ ?side1 ?side2 A6.out).mono ?_); (case side1 => repeat (first | (with_reducible first | exact HI104.out | apply IsS53.alloc | apply IsS53.drewN | apply IsS53.drew | apply IsS53.set_1 | apply IsS53.set_2) | exact HI104.out)); (case side2 => repeat (first | (with_reducible first | exact HB.out | apply below_alloc | apply pw_below_drewN | apply below_drew1 | refine below_set ?_ (IsS53.ge HI104.out)) | exact HB.out)); rintro e w25 ⟨rfl, hi, hb, hk⟩; refine ⟨_, rfl, ?_⟩; replace HO107 := Aside0.mk (Kd.R_mono (Kd.R_keep (IsS53.apart (show IsS53 w _ g104 t101 t109 t110 from by repeat (first | (with_reducible first | exact HI104.out | apply IsS53.alloc | apply IsS53.drewN | apply IsS53.drew | apply IsS53.set_1 | apply IsS53.set_2) | exact HI104.out)) (by (with_reducible repeat (first | apply Kd.R_alloc | apply Kd.R_drewN | apply Kd.R_drew)); exact HO107.out) (by decide)) hk (fun _ h => h.2)) (fun _ h => h.1)); replace HI104 := Aside0.mk (hi); replace HB := Aside0.mk (hb); (try clear hb); (try clear hb2); (try clear hk); (try clear hi)) | ((with_reducible refine gate_callee (f := 29) rfl ?_); refine goesL_ (some 17) rfl rfl Tryz.func29 (by kernel_rfl) rfl #[.pointer (some ⟨g104, 0, none⟩), .int .i64 2] rfl mc ?_; (with_reducible refine (spec_l1Once.calls g104 t101 t113 t114 2 false t116 t117 w _ ?side1 ?side2 A7.out).mono ?_); (case side1 => repeat (first | (with_reducible first | exact HI104.out | apply IsS53.alloc | apply IsS53.drewN | apply IsS53.drew | apply IsS53.set_1 | apply IsS53.set_2) | exact HI104.out)); (case side2 => repeat (first | (with_reducible first | exact HB.out | apply below_alloc | apply pw_below_drewN | apply below_drew1 | refine below_set ?_ (IsS53.ge HI104.out)) | exact HB.out)); rintro e w26 ⟨rfl, hi, hb, hk⟩; refine ⟨_, rfl, ?_⟩; replace HO107 := Aside0.mk (Kd.R_mono (Kd.R_keep (IsS53.apart (show IsS53 w _ g104 t101 t113 t114 from by repeat (first | (with_reducible first | exact HI104.out | apply IsS53.alloc | apply IsS53.drewN | apply IsS53.drew | apply IsS53.set_1 | apply IsS53.set_2) | exact HI104.out)) (by (with_reducible repeat (first | apply Kd.R_alloc | apply Kd.R_drewN | apply Kd.R_drew)); exact HO107.out) (by decide)) hk (fun _ h => h.2)) (fun _ h => h.1)); replace HI104 := Aside0.mk (hi); replace HB := Aside0.mk (hb); (try clear hb); (try clear hb2); (try clear hk); (try clear hi)))
    go_ret2
    exact ⟨er, by repeat (first | (with_reducible first | exact HB.out | apply below_alloc | apply pw_below_drewN | apply below_drew1 | refine below_set ?_ (IsS53.ge HI104.out)) | exact HB.out)⟩
  ·
   rw [if_neg c5] at H
   exact absurd H (by simp)
 ·
  rw [if_neg c4] at H
  exact absurd H (by simp)
/-! ### spec_DrawSortedQuery: function 8 -/
def spec_DrawSortedQuery.f (k : Nat) (l0 : List Int) : Option (ByteArray) := (spec_l1New.f k l0).bind fun bt101 => ((spec_l1DrawText.f k bt101.1 bt101.2.1 bt101.2.2 (⟨#[97, 98, 61, 38, 38, 49, 50]⟩ : ByteArray) 12).bind fun bt105 => (some bt105.1))
theorem spec_DrawSortedQuery.mono : ∀ a0 k, LeO (spec_DrawSortedQuery.f k a0) (spec_DrawSortedQuery.f (k + 1) a0) := by
 intro a0 k
 unfold spec_DrawSortedQuery.f
 repeat' first
   | (with_reducible exact spec_l1DrawText.mono _ _ _ _ _ _)
   | (with_reducible exact spec_l1New.mono _ _)
   | (with_reducible exact LeO.refl _)
   | (with_reducible exact LeO.none _)
   | (with_reducible refine LeO.ite ?_ ?_)
   | (with_reducible refine LeO.bind ?_ (fun _ => ?_))
   | exact spec_l1DrawText.mono _ _ _ _ _ _
   | exact spec_l1New.mono _ _
   | exact LeO.none _
   | refine LeO.ite ?_ ?_
   | refine LeO.bind ?_ (fun _ => ?_)
set_option maxHeartbeats 8000000 in
set_option maxRecDepth 100000 in
theorem spec_DrawSortedQuery.calls (k : Nat) (A0 : Option Addr) (c0 : Nat) (l0 : List Int) (r : ByteArray) (w : World) (hr0 : Kd.C (Kd.int .u8) w A0 l0.length l0) (hc0 : l0.length ≤ c0) (h : spec_DrawSortedQuery.f k l0 = some r) :
  Calls Tryz.prog 8 #[.slice A0 l0.length c0] w fun e w' => e = .returned (.string r) ∧ Below w.heap.size w w' := by
 have HR0 := Aside0.mk hr0
 have HC0 := Aside0.mk hc0
 clear hr0 hc0
 have HB := Aside0.mk (Below.refl w.heap.size w)
 have H : ((spec_l1New.f k l0).bind fun bt101 => ((spec_l1DrawText.f k bt101.1 bt101.2.1 bt101.2.2 (⟨#[97, 98, 61, 38, 38, 49, 50]⟩ : ByteArray) 12).bind fun bt105 => (some bt105.1))) = some r := h
 clear h
 obtain ⟨⟨t101, t102, t103⟩, A20, H⟩ := Option.bind_eq_some_iff.mp H
 try dsimp only at H
 have A2 := Aside0.mk A20
 clear A20
 replace H := Option.bind_eq_some_iff.mp H
 obtain ⟨⟨t105, t106, t107⟩, A30, H⟩ := H
 replace H : (some t105) = some r := H
 have A3 := Aside0.mk A30
 clear A30
 obtain rfl := Option.some.inj H
 go_enter Tryz.func8, Tryz.ntmps8
 go_wp2_with (first | ((with_reducible refine gate_callee (f := 20) rfl ?_); refine goesL_ (some 5) rfl rfl Tryz.func20 (by kernel_rfl) rfl #[.slice A0 l0.length c0] rfl mc ?_; (with_reducible refine (spec_l1New.calls k _ _ l0 t101 t102 t103 w _ ?side1 ?side2 ?side3 A2.out).mono ?_); (case side1 => repeat (first | (with_reducible first | exact HB.out | apply below_alloc | apply pw_below_drewN | apply below_drew1) | exact HB.out)); (case side2 => exact HR0.out); (case side3 => exact HC0.out); rintro e w4 ⟨g104, rfl, hi, hb, hb2⟩; refine ⟨_, rfl, ?_⟩; have HI104 := Aside0.mk (hi); replace HB := Aside0.mk (hb); (try clear hb); (try clear hb2); (try clear hk); (try clear hi)) | ((with_reducible refine gate_callee (f := 21) rfl ?_); refine goesL_ (some 7) rfl rfl Tryz.func21 (by kernel_rfl) rfl #[.pointer (some ⟨g104, 0, none⟩), .string (⟨#[97, 98, 61, 38, 38, 49, 50]⟩ : ByteArray), .int .i64 12] rfl mc ?_; (with_reducible refine (spec_l1DrawText.calls k g104 t101 t102 t103 (⟨#[97, 98, 61, 38, 38, 49, 50]⟩ : ByteArray) 12 t105 t106 t107 w _ ?side1 ?side2 A3.out).mono ?_); (case side1 => repeat (first | (with_reducible first | exact HI104.out | apply IsS53.alloc | apply IsS53.drewN | apply IsS53.drew | apply IsS53.set_1 | apply IsS53.set_2) | exact HI104.out)); (case side2 => repeat (first | (with_reducible first | exact HB.out | apply below_alloc | apply pw_below_drewN | apply below_drew1 | refine below_set ?_ (IsS53.ge HI104.out)) | exact HB.out)); rintro e w5 ⟨rfl, hi, hb, hk⟩; refine ⟨_, rfl, ?_⟩; replace HI104 := Aside0.mk (hi); replace HB := Aside0.mk (hb); (try clear hb); (try clear hb2); (try clear hk); (try clear hi)))
 go_ret
 exact ⟨er, by repeat (first | (with_reducible first | exact HB.out | apply below_alloc | apply pw_below_drewN | apply below_drew1 | refine below_set ?_ (IsS53.ge HI104.out)) | exact HB.out)⟩
end Go.Proofs.YtonimccihcodnaaGreatDoor.P
namespace Go.Proofs.YtonimccihcodnaaGreatDoor.P
set_option linter.unusedVariables false
set_option linter.unusedSimpArgs false
open Go.RowKit Go.Lib Go.Proofs.YtonimccihcodnaaGreatDoorW.PrintWords Go.Proofs.YtonimccihcodnaaGreatDoorW.PrintLast Go.Proofs.YtonimccihcodnaaGreatDoorW.PrintMore

set_option maxHeartbeats 1000000 in
theorem spec_Lower_any (s : ByteArray) (w : World) (hs : s.size ≤ 9223372036854775807) :
    Calls Tryz.prog 15 #[.string s] w fun e w' => e = .returned (.string (strOfNums ((bytesOf s).map low8))) ∧ Below w.heap.size w w' := by
  have kc := fun W : World => Lib.run_convert_string_bytes (P := Tryz.prog) W 9 25 5 s Tryz.underlying9 Tryz.underlying25 Tryz.underlying5
  have hmap : ((bytesOf s).map low8).length = s.size := by rw [List.length_map, bytesOf_length]
  have H0 := Lib.hid hmap
  clear hmap
  have S0 := Lib.hid (LowCells.start w s)
  go_enter Tryz.func15, Tryz.ntmps15
  go_wp2
  go_loopw [4] (fun i wr => ∃ k : Nat, k ≤ s.size ∧ i = .int .i64 k ∧ Aside (LowCells w wr s k)) (fun i _ => s.size - (intOf i).toNat)
  case atStart => exact ⟨0, Nat.zero_le _, rfl, S0.out⟩
  case round =>
    obtain ⟨k, hk, rfl, A⟩ := hrel
    by_cases hlt : k < s.size
    · have hcell := A.out.1 k hlt
      rw [lowAt_now] at hcell
      have hfro := A.out.2.1 k hlt
      have hr := bt_range s k
      obtain ⟨c, hc⟩ : ∃ c, bt s k = c := ⟨_, rfl⟩
      rw [hc] at hcell hr
      have HC := Lib.hid hc
      clear hc
      obtain ⟨hr0, hr1⟩ := hr
      have hltz : (k : Int) < (s.size : Int) := by omega
      by_cases h1 : (65 : Int) ≤ c
      · by_cases h2 : c ≤ 90
        · go_wp2
          go_roundw
          case rel => exact ⟨k + 1, by omega, by go_num, show Aside _ from A.out.put hlt _ (by rw [HC.out]; unfold low8; rw [if_pos h1, if_pos h2])⟩
          case measure => simp [intOf]; omega
        · go_wp2
          go_roundw
          case rel => exact ⟨k + 1, by omega, by go_num, show Aside _ from A.out.skip hlt (by rw [HC.out]; unfold low8; rw [if_pos h1, if_neg h2])⟩
          case measure => simp [intOf]; omega
      · go_wp2
        go_roundw
        case rel => exact ⟨k + 1, by omega, by go_num, show Aside _ from A.out.skip hlt (by rw [HC.out]; unfold low8; rw [if_neg h1])⟩
        case measure => simp [intOf]; omega
    · have hltz : ¬ (k : Int) < (s.size : Int) := by omega
      have kb := fun cap => run_convert_bytes_arg (P := Tryz.prog) wr 25 5 Tryz.underlying25 Tryz.underlying5 w.heap.size 0 s.size cap ((bytesOf s).map low8) H0.out (A.out.done (by omega)) 9 Tryz.underlying9
      go_wp2
      go_ret
      exact ⟨rfl, A.out.2.2⟩

def spec_Lower.f (a0 : ByteArray) : Option ByteArray := if a0.size ≤ 9223372036854775807 then some (strOfNums ((bytesOf a0).map low8)) else none
theorem spec_Lower.calls (a0 : ByteArray) (r : ByteArray) (w : World) (h : spec_Lower.f a0 = some r) :
    Calls Tryz.prog 15 #[.string a0] w fun e w' => e = .returned (.string r) ∧ Below w.heap.size w w' := by
  unfold spec_Lower.f at h
  split at h
  · obtain rfl := Option.some.inj h
    exact spec_Lower_any a0 w (by assumption)
  · cases h
end Go.Proofs.YtonimccihcodnaaGreatDoor.P
namespace Go.Proofs.YtonimccihcodnaaGreatDoor.P
open Go.RowKit Go.Proofs.YtonimccihcodnaaGreatDoorW.PrintWords Go.Proofs.YtonimccihcodnaaGreatDoorW.PrintLast Go.Proofs.YtonimccihcodnaaGreatDoorW.PrintMore
attribute [local go_sem] max2_int min2_int max_two min_two max_three min_three max_four min_four   -- for this text's walks alone
set_option linter.unusedVariables false
set_option linter.unusedSimpArgs false

/-! ### spec_NormalPath: function 13 -/
def spec_NormalPath.j0 : Nat → ByteArray → Bool → Option (ByteArray × Bool)
 | 0, _, _ => none
 | k + 1, x4, x18 => if x18 = true then (some ((⟨#[]⟩ : ByteArray), false)) else ((spec_l3Coded.f k x4).bind fun t104 => ((spec_l3Path.f t104).bind fun t105 => (if t105 = true then ((spec_Dotless.f k t104).bind fun t106 => (some (t106, true))) else (some ((⟨#[]⟩ : ByteArray), false)))))
def spec_NormalPath.f (k : Nat) (a0 : ByteArray) : Option (ByteArray × Bool) := (spec_Uncoded.f k a0).bind fun bt101 => (if bt101.2 = true then ((spec_l3Path.f a0).bind fun t103 => (spec_NormalPath.j0 k bt101.1 (!t103))) else (spec_NormalPath.j0 k bt101.1 true))
theorem spec_NormalPath.mono_l : ∀ k, (∀ y0 y1, LeO (spec_NormalPath.j0 k y0 y1) (spec_NormalPath.j0 (k + 1) y0 y1))
 | 0 => fun _ _ r h => by simp [spec_NormalPath.j0] at h
 | k + 1 => by
  have ih0 := spec_NormalPath.mono_l k
  ·
   intro y0 y1
   unfold spec_NormalPath.j0
   repeat' first
   | (with_reducible exact ih0 _ _)
   | (with_reducible exact spec_Dotless.mono _ _)
   | (with_reducible exact spec_Uncoded.mono _ _)
   | (with_reducible exact spec_l3Coded.mono _ _)
   | (with_reducible exact LeO.refl _)
   | (with_reducible exact LeO.none _)
   | (with_reducible refine LeO.ite ?_ ?_)
   | (with_reducible refine LeO.bind ?_ (fun _ => ?_))
   | exact ih0 _ _
   | exact spec_Dotless.mono _ _
   | exact spec_Uncoded.mono _ _
   | exact spec_l3Coded.mono _ _
   | exact LeO.none _
   | refine LeO.ite ?_ ?_
   | refine LeO.bind ?_ (fun _ => ?_)
theorem spec_NormalPath.mono : ∀ a0 k, LeO (spec_NormalPath.f k a0) (spec_NormalPath.f (k + 1) a0) := by
 intro a0 k
 have ih0 := spec_NormalPath.mono_l k
 unfold spec_NormalPath.f
 repeat' first
   | (with_reducible exact ih0 _ _)
   | (with_reducible exact spec_Dotless.mono _ _)
   | (with_reducible exact spec_Uncoded.mono _ _)
   | (with_reducible exact spec_l3Coded.mono _ _)
   | (with_reducible exact LeO.refl _)
   | (with_reducible exact LeO.none _)
   | (with_reducible refine LeO.ite ?_ ?_)
   | (with_reducible refine LeO.bind ?_ (fun _ => ?_))
   | exact ih0 _ _
   | exact spec_Dotless.mono _ _
   | exact spec_Uncoded.mono _ _
   | exact spec_l3Coded.mono _ _
   | exact LeO.none _
   | refine LeO.ite ?_ ?_
   | refine LeO.bind ?_ (fun _ => ?_)
set_option maxHeartbeats 8000000 in
set_option maxRecDepth 100000 in
theorem spec_NormalPath.calls (k : Nat) (a0 : ByteArray) (r1 : ByteArray) (r2 : Bool) (w : World) (h : spec_NormalPath.f k a0 = some (r1, r2)) :
  Calls Tryz.prog 13 #[.string a0] w fun e w' => e = .returned (.tuple #[.string r1, .bool r2]) ∧ Below w.heap.size w w' := by
 have HB := Aside0.mk (Below.refl w.heap.size w)
 have H : ((spec_Uncoded.f k a0).bind fun bt101 => (if bt101.2 = true then ((spec_l3Path.f a0).bind fun t103 => (spec_NormalPath.j0 k bt101.1 (!t103))) else (spec_NormalPath.j0 k bt101.1 true))) = some (r1, r2) := h
 clear h
 obtain ⟨⟨t101, t102⟩, A20, H⟩ := Option.bind_eq_some_iff.mp H
 try dsimp only at H
 have A2 := Aside0.mk A20
 clear A20
 have HC3 := Aside0.mk H
 clear H
 go_enter Tryz.func13, Tryz.ntmps13
 go_upto_region 2 with (first | ((with_reducible refine gate_callee (f := 32) rfl ?_); refine goesL_ (some 9) rfl rfl Tryz.func32 (by kernel_rfl) rfl #[.string a0] rfl mc ?_; (with_reducible refine (spec_Uncoded.calls k a0 t101 t102 _ A2.out).mono ?_); rintro e w4 ⟨rfl, hb⟩; refine ⟨_, rfl, ?_⟩; replace HB := Aside0.mk (below_step bh hb); (try clear hb); (try clear hb2); (try clear hk); (try clear hi)))
 (try simp only [Act.put, List.setIfInBounds_toArray, List.set_cons_zero, List.set_cons_succ])
 go_cut [18] (fun v18 wc => ∃ (kq : Nat) (x18_2 : Bool), v18 = .bool x18_2 ∧ Aside0 (spec_NormalPath.j0 kq t101 x18_2 = some (r1, r2)) ∧ Aside0 (kq ≤ k) ∧ Aside0 (Below w.heap.size w wc))
 case first =>
  have H := HC3.out
  clear HC3
  by_cases c5 : t102 = true
  ·
   subst c5
   rw [if_pos rfl] at H
   replace H := Option.bind_eq_some_iff.mp H
   obtain ⟨t103, A60, H⟩ := H
   replace H : (spec_NormalPath.j0 k t101 (!t103)) = some (r1, r2) := H
   have A6 := Aside0.mk A60
   clear A60
   have H' := Aside0.mk H
   clear H
   go_wp2_with (first | (go_at_call 33; (with_reducible refine (spec_l3Path.calls a0 t103 _ A6.out).mono ?_); rintro e w' ⟨rfl, ⟨nd, rfl⟩⟩))
   go_meet
   case rel => exact ⟨_, (!t103), (by first | rfl | (simp; done) | (simp [*]; done)), H', ⟨by first | omega | exact Nat.le_refl _⟩, ⟨bh⟩⟩
  ·
   replace c5 := Bool.eq_false_iff.mpr c5
   subst c5
   have H1 : (spec_NormalPath.j0 k t101 true) = some (r1, r2) := by rw [if_neg (show ¬ (false = true) by decide)] at H; exact H
   clear H
   have H := H1
   clear H1
   have H' := Aside0.mk H
   clear H
   go_wp2
   go_meet
   case rel => exact ⟨_, (true), (by first | rfl | (simp; done) | (simp [*]; done)), H', ⟨by first | omega | exact Nat.le_refl _⟩, ⟨bh⟩⟩
 case rest =>
  clear HC3
  try clear c1
  try clear p2
  try clear c3
  try clear c5
  obtain ⟨kq, x18_2, rfl, HA, HJ2, HB⟩ := hcut
  cases kq with
  | zero => exact absurd HA.out (by simp [spec_NormalPath.j0])
  | succ kj2 =>
   have H := HA.out
   clear HA
   simp only [spec_NormalPath.j0] at H
   by_cases c7 : x18_2 = true
   ·
    subst c7
    have H1 : (some ((⟨#[]⟩ : ByteArray), false)) = some (r1, r2) := by rw [if_pos rfl] at H; exact H
    clear H
    have H := H1
    clear H1
    simp only [Option.some.injEq, Prod.mk.injEq] at H
    obtain ⟨rfl, rfl⟩ := H
    go_wp2
    go_ret2
    exact ⟨er, bh⟩
   ·
    replace c7 := Bool.eq_false_iff.mpr c7
    subst c7
    rw [if_neg (show ¬ (false = true) by decide)] at H
    obtain ⟨t104, A80, H⟩ := Option.bind_eq_some_iff.mp H
    try dsimp only at H
    have A8 := Aside0.mk A80
    clear A80
    obtain ⟨t105, A90, H⟩ := Option.bind_eq_some_iff.mp H
    try dsimp only at H
    have A9 := Aside0.mk A90
    clear A90
    by_cases c10 : t105 = true
    ·
     subst c10
     rw [if_pos rfl] at H
     replace H := Option.bind_eq_some_iff.mp H
     obtain ⟨t106, A110, H⟩ := H
     replace H : (some (t106, true)) = some (r1, r2) := H
     have A11 := Aside0.mk A110
     clear A110
     simp only [Option.some.injEq, Prod.mk.injEq] at H
     obtain ⟨rfl, rfl⟩ := H
     go_wp2_with (first | ((with_reducible refine gate_callee (f := 34) rfl ?_); refine goesL_ (some 20) rfl rfl Tryz.func34 (by kernel_rfl) rfl #[.string t101] rfl mc ?_; (with_reducible refine (spec_l3Coded.calls kj2 t101 t104 _ A8.out).mono ?_); rintro e w12 ⟨rfl, hb⟩; refine ⟨_, rfl, ?_⟩; replace HB := Aside0.mk (below_step bh hb); (try clear hb); (try clear hb2); (try clear hk); (try clear hi)) | ((with_reducible refine gate_callee (f := 33) rfl ?_); refine goesL_ (some 22) rfl rfl Tryz.func33 (by kernel_rfl) rfl #[.string t104] rfl mc ?_; (with_reducible refine (spec_l3Path.calls t104 true _ A9.out).mono ?_); rintro e w' ⟨rfl, ⟨nd, rfl⟩⟩; refine ⟨_, rfl, ?_⟩) | ((with_reducible refine gate_callee (f := 35) rfl ?_); refine goesL_ (some 25) rfl rfl Tryz.func35 (by kernel_rfl) rfl #[.string t104] rfl mc ?_; (with_reducible refine (spec_Dotless.calls kj2 t104 t106 _ A11.out).mono ?_); rintro e w13 ⟨rfl, hb⟩; refine ⟨_, rfl, ?_⟩; replace HB := Aside0.mk (below_step bh hb); (try clear hb); (try clear hb2); (try clear hk); (try clear hi)))
     go_ret2
     exact ⟨er, bh⟩
    ·
     replace c10 := Bool.eq_false_iff.mpr c10
     subst c10
     have H1 : (some ((⟨#[]⟩ : ByteArray), false)) = some (r1, r2) := by rw [if_neg (show ¬ (false = true) by decide)] at H; exact H
     clear H
     have H := H1
     clear H1
     simp only [Option.some.injEq, Prod.mk.injEq] at H
     obtain ⟨rfl, rfl⟩ := H
     go_wp2_with (first | ((with_reducible refine gate_callee (f := 34) rfl ?_); refine goesL_ (some 20) rfl rfl Tryz.func34 (by kernel_rfl) rfl #[.string t101] rfl mc ?_; (with_reducible refine (spec_l3Coded.calls kj2 t101 t104 _ A8.out).mono ?_); rintro e w14 ⟨rfl, hb⟩; refine ⟨_, rfl, ?_⟩; replace HB := Aside0.mk (below_step bh hb); (try clear hb); (try clear hb2); (try clear hk); (try clear hi)) | ((with_reducible refine gate_callee (f := 33) rfl ?_); refine goesL_ (some 22) rfl rfl Tryz.func33 (by kernel_rfl) rfl #[.string t104] rfl mc ?_; (with_reducible refine (spec_l3Path.calls t104 false _ A9.out).mono ?_); rintro e w' ⟨rfl, ⟨nd, rfl⟩⟩; refine ⟨_, rfl, ?_⟩))
     go_ret2
     exact ⟨er, bh⟩
/-! ### spec_SortedQuery: function 11 -/
mutual
def spec_SortedQuery.l0 : Nat → List ByteArray → List ByteArray → Int → Option (ByteArray)
 | 0, _, _, _ => none
 | k + 1, x3, x4, x5 => if x5 < (x4.length : Int) then (if 0 ≤ x5 then (if (rdOf ByteArray.empty x4 x5).toList = ([] : List UInt8) then (spec_SortedQuery.l0 k x3 x4 (wrap64 (x5 + 1))) else (if x3.length < 8796093022208 then (spec_SortedQuery.l0 k (x3 ++ [rdOf ByteArray.empty x4 x5]) x4 (wrap64 (x5 + 1))) else (none))) else (none)) else ((spec_l3Sorted.f k x3).bind fun t112 => (spec_SortedQuery.l1 k t112 (⟨#[]⟩ : ByteArray) 0))
def spec_SortedQuery.l1 : Nat → List ByteArray → ByteArray → Int → Option (ByteArray)
 | 0, _, _, _ => none
 | k + 1, x3, x6, x7 => if x7 < (x3.length : Int) then (if x7 > 0 then (if x6.size + 1 ≤ 9223372036854775807 then (if 0 ≤ x7 then (if (x6 ++ (⟨#[38]⟩ : ByteArray)).size + (rdOf ByteArray.empty x3 x7).size ≤ 9223372036854775807 then (spec_SortedQuery.l1 k x3 ((x6 ++ (⟨#[38]⟩ : ByteArray)) ++ (rdOf ByteArray.empty x3 x7)) (wrap64 (x7 + 1))) else (none)) else (none)) else (none)) else (if 0 ≤ x7 then (if x6.size + (rdOf ByteArray.empty x3 x7).size ≤ 9223372036854775807 then (spec_SortedQuery.l1 k x3 (x6 ++ (rdOf ByteArray.empty x3 x7)) (wrap64 (x7 + 1))) else (none)) else (none))) else (some x6)
end
def spec_SortedQuery.f (k : Nat) (a0 : ByteArray) : Option (ByteArray) := if (a0.size : Int) > 200 then (some (⟨#[]⟩ : ByteArray)) else ((spec_l3Split.f k a0 38).bind fun t104 => (spec_SortedQuery.l0 k (([] : List ByteArray)) t104 0))
theorem spec_SortedQuery.mono_l : ∀ k, (∀ y0 y1 y2, LeO (spec_SortedQuery.l0 k y0 y1 y2) (spec_SortedQuery.l0 (k + 1) y0 y1 y2)) ∧ (∀ y0 y1 y2, LeO (spec_SortedQuery.l1 k y0 y1 y2) (spec_SortedQuery.l1 (k + 1) y0 y1 y2))
 | 0 => ⟨fun _ _ _ r h => by simp [spec_SortedQuery.l0] at h, fun _ _ _ r h => by simp [spec_SortedQuery.l1] at h⟩
 | k + 1 => by
  obtain ⟨ih0, ih1⟩ := spec_SortedQuery.mono_l k
  refine ⟨?_, ?_⟩
  ·
   intro y0 y1 y2
   unfold spec_SortedQuery.l0
   repeat' first
   | (with_reducible exact ih0 _ _ _)
   | (with_reducible exact ih1 _ _ _)
   | (with_reducible exact spec_l3Sorted.mono _ _)
   | (with_reducible exact spec_l3Split.mono _ _ _)
   | (with_reducible exact LeO.refl _)
   | (with_reducible exact LeO.none _)
   | (with_reducible refine LeO.ite ?_ ?_)
   | (with_reducible refine LeO.bind ?_ (fun _ => ?_))
   | exact ih0 _ _ _
   | exact ih1 _ _ _
   | exact spec_l3Sorted.mono _ _
   | exact spec_l3Split.mono _ _ _
   | exact LeO.none _
   | refine LeO.ite ?_ ?_
   | refine LeO.bind ?_ (fun _ => ?_)
  ·
   intro y0 y1 y2
   unfold spec_SortedQuery.l1
   repeat' first
   | (with_reducible exact ih0 _ _ _)
   | (with_reducible exact ih1 _ _ _)
   | (with_reducible exact spec_l3Sorted.mono _ _)
   | (with_reducible exact spec_l3Split.mono _ _ _)
   | (with_reducible exact LeO.refl _)
   | (with_reducible exact LeO.none _)
   | (with_reducible refine LeO.ite ?_ ?_)
   | (with_reducible refine LeO.bind ?_ (fun _ => ?_))
   | exact ih0 _ _ _
   | exact ih1 _ _ _
   | exact spec_l3Sorted.mono _ _
   | exact spec_l3Split.mono _ _ _
   | exact LeO.none _
   | refine LeO.ite ?_ ?_
   | refine LeO.bind ?_ (fun _ => ?_)
theorem spec_SortedQuery.mono : ∀ a0 k, LeO (spec_SortedQuery.f k a0) (spec_SortedQuery.f (k + 1) a0) := by
 intro a0 k
 obtain ⟨ih0, ih1⟩ := spec_SortedQuery.mono_l k
 unfold spec_SortedQuery.f
 repeat' first
   | (with_reducible exact ih0 _ _ _)
   | (with_reducible exact ih1 _ _ _)
   | (with_reducible exact spec_l3Sorted.mono _ _)
   | (with_reducible exact spec_l3Split.mono _ _ _)
   | (with_reducible exact LeO.refl _)
   | (with_reducible exact LeO.none _)
   | (with_reducible refine LeO.ite ?_ ?_)
   | (with_reducible refine LeO.bind ?_ (fun _ => ?_))
   | exact ih0 _ _ _
   | exact ih1 _ _ _
   | exact spec_l3Sorted.mono _ _
   | exact spec_l3Split.mono _ _ _
   | exact LeO.none _
   | refine LeO.ite ?_ ?_
   | refine LeO.bind ?_ (fun _ => ?_)
set_option maxHeartbeats 8000000 in
set_option maxRecDepth 100000 in
theorem spec_SortedQuery.calls (k : Nat) (a0 : ByteArray) (r : ByteArray) (w : World) (h : spec_SortedQuery.f k a0 = some r) :
  Calls Tryz.prog 11 #[.string a0] w fun e w' => e = .returned (.string r) ∧ Below w.heap.size w w' := by
 have HB := Aside0.mk (Below.refl w.heap.size w)
 have H : (if (a0.size : Int) > 200 then (some (⟨#[]⟩ : ByteArray)) else ((spec_l3Split.f k a0 38).bind fun t104 => (spec_SortedQuery.l0 k (([] : List ByteArray)) t104 0))) = some r := h
 clear h
 by_cases c2 : (a0.size : Int) > 200
 ·
  rw [if_pos c2] at H
  have c2b0 : decide (200 < (a0.size : Int)) = true := decide_eq_true c2
  have c2b1 : decide (200 < a0.size) = true := decide_eq_true (by omega)
  clear c2
  obtain rfl := Option.some.inj H
  go_enter Tryz.func11, Tryz.ntmps11
  go_wp2
  go_ret
  exact ⟨er, bh⟩
 ·
  rw [if_neg c2] at H
  have c2b0 : decide (200 < (a0.size : Int)) = false := decide_eq_false c2
  have c2b1 : decide (200 < a0.size) = false := decide_eq_false (by omega)
  clear c2
  obtain ⟨y101, hy101⟩ : ∃ y_ : List ByteArray, y_ = (([] : List ByteArray)) := ⟨_, rfl⟩
  replace H : ((spec_l3Split.f k a0 38).bind fun t104 => (spec_SortedQuery.l0 k y101 t104 0)) = some r := by first | (rw [hy101]; with_reducible exact H) | (have H2_ := (Option.bind_some _ _).symm.trans H; rw [hy101]; with_reducible exact H2_) | (have H2_ := (Option.bind_some _ _).symm.trans H; with_reducible exact H2_) | with_reducible exact H | (rw [hy101]; exact H) | exact H
  have Ny101 := Aside0.mk hy101
  clear hy101
  replace H := Option.bind_eq_some_iff.mp H
  obtain ⟨t104, A30, H⟩ := H
  replace H : (spec_SortedQuery.l0 k y101 t104 0) = some r := H
  have A3 := Aside0.mk A30
  clear A30
  have H' := Aside0.mk H
  clear H
  go_enter Tryz.func11, Tryz.ntmps11
  go_wp2_with (first | ((with_reducible refine gate_dst (N := 11) rfl ?_); refine Kd.R_lit Kd.string _ 9 ?hg (N := 11) ?hd (xs := ([] : List ByteArray)) (inner := []) (ok := fun _ => True) (okp := fun _ => True) ?hr ?hp (fun _ hk => hk) trivial (Below.refl _ _) (Nat.le_refl _) (by simp) ?_; (case hd => rfl); (case hg => rfl); (case hr => first | (go_simp; done) | (go_simp; rfl)); (case hp => exact (Reps.none _ _)); intro v102 w4 ho5 hb hg_ hnew_; clear hg_ hnew_; (first | rw [← Ny101.out] at ho5 | (simp only [Int.reduceToNat] at ho5; rw [← Ny101.out] at ho5)); have HO103 := Aside0.mk (Kd.R_lower ho5 (below_size bh)); replace HB := Aside0.mk (below_step bh hb); clear hb ho5) | ((with_reducible refine gate_callee (f := 30) rfl ?_); refine goesL_ (some 13) rfl rfl Tryz.func30 (by kernel_rfl) rfl #[.string a0, .int .u8 38] rfl (by (try simp only [List.map_toArray, List.map_cons, List.map_nil]); first | done | rfl | (simp only [ne_nil_isEmpty]; rfl) | (simp only [List.length_drop, List.length_take]; rfl)) ?_; (with_reducible refine (spec_l3Split.calls k a0 38 t104 _ A3.out).mono ?_); rintro e w6 ⟨v105, rfl, ho0, hb⟩; refine ⟨_, rfl, ?_⟩; have HO106 := Aside0.mk (Kd.R_lower (Kd.R_new' ho0 (Kd.R_lt (by (with_reducible repeat (first | apply Kd.R_alloc | apply Kd.R_drewN | apply Kd.R_drew)); exact HO103.out))) (below_size bh)); replace HO103 := Aside0.mk (Kd.R_elder' (by (with_reducible repeat (first | apply Kd.R_alloc | apply Kd.R_drewN | apply Kd.R_drew)); exact HO103.out) (Kd.R_base ho0) hb); replace HB := Aside0.mk (below_step bh hb); (try clear hb); (try clear hb2); (try clear hk); (try clear hi); (try clear ho0)))
  go_loopg [3, 5] k (fun kq v3 v5 w' => ∃ (x3_1 : List ByteArray) (x5_1 : Int), v5 = .int .i64 x5_1 ∧ Aside0 (spec_SortedQuery.l0 kq x3_1 t104 x5_1 = some r) ∧ Aside0 (kq ≤ k) ∧ Aside0 (Kd.R Kd.string 9 w' w.heap.size (fun k_ => some k_ ≠ (v105 : Value).ownBlock) v3 x3_1) ∧ Aside0 (Kd.R Kd.string 9 w' w.heap.size (fun k_ => some k_ ≠ (v3 : Value).ownBlock) v105 t104) ∧ Aside0 (Below w.heap.size w w'))
  case atStart => exact ⟨(y101), (0), (by first | rfl | (simp; done) | (simp [*]; done)), H', ⟨Nat.le_refl _⟩, ⟨by (with_reducible repeat (first | apply Kd.R_alloc | apply Kd.R_drewN | apply Kd.R_drew)); exact Kd.R_mono HO103.out (fun _ hk => hk.2)⟩, ⟨by (with_reducible repeat (first | apply Kd.R_alloc | apply Kd.R_drewN | apply Kd.R_drew)); exact Kd.R_mono HO106.out (fun _ hk => hk.2)⟩, ⟨bh⟩⟩
  case round =>
   clear H'
   try clear c1
   try clear c2
   try clear c2b0
   try clear c2b1
   try clear p2
   try clear c3
   obtain ⟨x3_1, x5_1, rfl, HA, HK1, HO_3, HO_4, HB⟩ := hrel
   cases gk with
   | zero => exact absurd HA.out (by simp [spec_SortedQuery.l0])
   | succ k1 =>
    have H := HA.out
    clear HA
    simp only [spec_SortedQuery.l0] at H
    by_cases c7 : x5_1 < (t104.length : Int)
    ·
     rw [if_pos c7] at H
     have c7b0 : decide (x5_1 < (t104.length : Int)) = true := decide_eq_true c7
     clear c7
     by_cases c8 : 0 ≤ x5_1
     ·
      rw [if_pos c8] at H
      have c8b0 : decide (0 ≤ x5_1) = true := decide_eq_true c8
      clear c8
      by_cases c9 : (rdOf ByteArray.empty t104 x5_1).toList = ([] : List UInt8)
      ·
       rw [if_pos c9] at H
       have c9b0 : ((rdOf ByteArray.empty t104 x5_1).toList == ([] : List UInt8)) = true := beq_iff_eq.mpr c9
       have c9b1 : ((rdOf ByteArray.empty t104 x5_1).toList != ([] : List UInt8)) = false := bne_eq_false_iff_eq.mpr c9
       clear c9
       have H' := Aside0.mk H
       clear H
       obtain ⟨Ao10, co10, eo10⟩ := Kd.R_slice HO_4.out
       subst eo10
       have p107 : 0 ≤ (x5_1 : Int) := of_decide_eq_true (by first | (with_reducible assumption) | assumption)
       have q107 : x5_1 < (t104.length : Int) := of_decide_eq_true (by first | (with_reducible assumption) | assumption)
       obtain ⟨ad107, e107, hx107_0⟩ := Kd.at_string (Kd.R_reads' HO_4.out).2.2 x5_1 p107 q107
       cases e107
       replace p107 := eq_true p107
       replace q107 := eq_true q107
       go_wp2
       go_roundg k1
       case measure => have := HK1.out; omega
       case rel => exact ⟨(x3_1), (wrap64 (x5_1 + 1)), (by first | rfl | (simp; done) | (simp [*]; done)), H', ⟨by have := HK1.out; omega⟩, ⟨by (with_reducible repeat (first | apply Kd.R_alloc | apply Kd.R_drewN | apply Kd.R_drew)); exact HO_3.out⟩, ⟨by (with_reducible repeat (first | apply Kd.R_alloc | apply Kd.R_drewN | apply Kd.R_drew)); exact HO_4.out⟩, ⟨bh⟩⟩
      ·
       rw [if_neg c9] at H
       have c9b0 : ((rdOf ByteArray.empty t104 x5_1).toList == ([] : List UInt8)) = false := beq_eq_false_iff_ne.mpr c9
       have c9b1 : ((rdOf ByteArray.empty t104 x5_1).toList != ([] : List UInt8)) = true := bne_iff_ne.mpr c9
       by_cases c11 : x3_1.length < 8796093022208
       ·
        rw [if_pos c11] at H
        have LMc11 := Aside0.mk c11
        clear c11
        obtain ⟨y109, hy109⟩ : ∃ y_ : List ByteArray, y_ = (x3_1 ++ [rdOf ByteArray.empty t104 x5_1]) := ⟨_, rfl⟩
        replace H : (spec_SortedQuery.l0 k1 y109 t104 (wrap64 (x5_1 + 1))) = some r := by first | (rw [hy109]; with_reducible exact H) | (have H2_ := (Option.bind_some _ _).symm.trans H; rw [hy109]; with_reducible exact H2_) | (have H2_ := (Option.bind_some _ _).symm.trans H; with_reducible exact H2_) | with_reducible exact H | (rw [hy109]; exact H) | exact H
        have Ny109 := Aside0.mk hy109
        clear hy109
        have H' := Aside0.mk H
        clear H
        obtain ⟨Ao12, co12, eo12⟩ := Kd.R_slice HO_4.out
        subst eo12
        have p107 : 0 ≤ (x5_1 : Int) := of_decide_eq_true (by first | (with_reducible assumption) | assumption)
        have q107 : x5_1 < (t104.length : Int) := of_decide_eq_true (by first | (with_reducible assumption) | assumption)
        obtain ⟨ad107, e107, hx107_0⟩ := Kd.at_string (Kd.R_reads' HO_4.out).2.2 x5_1 p107 q107
        cases e107
        replace p107 := eq_true p107
        replace q107 := eq_true q107
        have p108 : 0 ≤ (x5_1 : Int) := of_decide_eq_true (by first | (with_reducible assumption) | assumption)
        have q108 : x5_1 < (t104.length : Int) := of_decide_eq_true (by first | (with_reducible assumption) | assumption)
        obtain ⟨ad108, e108, hx108_0⟩ := Kd.at_string (Kd.R_reads' HO_4.out).2.2 x5_1 p108 q108
        obtain rfl : ad107 = ad108 := (by injection e108)
        replace p108 := eq_true p108
        replace q108 := eq_true q108
        go_wp2_with (first | ((with_reducible refine gate_builtin (b := .append) (xs := #[.tmp 25, .tmp 30]) rfl ?_); at_builtin; refine Kd.R_append Kd.string (w0 := w) w.heap.size rfl (.tmp 25) (.tmp 30) 31 9 (.string ⟨#[]⟩) 16 rfl Tryz.underlying31 info9 rfl (by decide) (by omega) u3 x3_1 (rdOf ByteArray.empty t104 x5_1) [.string (rdOf ByteArray.empty t104 x5_1)] (fun k_ => some k_ ≠ (.slice (some ad107) t104.length co12 : Value).ownBlock) (fun _ => False) rfl rfl ?aP (fun _ hk => hk.elim) ?aF ?aO ?aB ?aS ?aL ?_; (case aP => exact rfl); (case aB => exact bh); (case aF => exact (fun k_ hk => Kd.fresh' (Kd.R_lt (by (with_reducible repeat (first | apply Kd.R_alloc | apply Kd.R_drewN | apply Kd.R_drew)); exact HO_4.out)) k_ hk)); (case aO => exact (by (with_reducible repeat (first | apply Kd.R_alloc | apply Kd.R_drewN | apply Kd.R_drew)); exact HO_3.out)); (case aS => exact (below_size bh)); (case aL => have := LMc11.out; omega); intro v110 w13 ho hb hg hat; rw [← Ny109.out] at ho; have n0_ := Aside0.mk (Kd.R_after (ok := (fun _ => True)) (by (with_reducible repeat (first | apply Kd.R_alloc | apply Kd.R_drewN | apply Kd.R_drew)); exact Kd.R_mono HO_4.out (fun _ hk => ⟨trivial, hk⟩)) hg hat); have n1_ := Aside0.mk (hb); have n2_ := Aside0.mk (ho); clear HO_4; clear HB; clear HO_3; have HO_4 := n0_; have HB := n1_; have HO111 := n2_; clear n0_ n1_ n2_; clear ho hb hg hat))
        go_roundg k1
        case measure => have := HK1.out; omega
        case rel => exact ⟨(y109), (wrap64 (x5_1 + 1)), (by first | rfl | (simp; done) | (simp [*]; done)), H', ⟨by have := HK1.out; omega⟩, ⟨by (with_reducible repeat (first | apply Kd.R_alloc | apply Kd.R_drewN | apply Kd.R_drew)); exact HO111.out⟩, ⟨by (with_reducible repeat (first | apply Kd.R_alloc | apply Kd.R_drewN | apply Kd.R_drew)); exact Kd.R_mono HO_4.out (fun _ hk => hk.2)⟩, ⟨bh⟩⟩
       ·
        rw [if_neg c11] at H
        exact absurd H (by simp)
     ·
      rw [if_neg c8] at H
      exact absurd H (by simp)
    ·
     rw [if_neg c7] at H
     have c7b0 : decide (x5_1 < (t104.length : Int)) = false := decide_eq_false c7
     clear c7
     obtain ⟨t112, A140, H⟩ := Option.bind_eq_some_iff.mp H
     try dsimp only at H
     have A14 := Aside0.mk A140
     clear A140
     have H' := Aside0.mk H
     clear H
     obtain ⟨Ao15, co15, eo15⟩ := Kd.R_slice HO_4.out
     subst eo15
     obtain ⟨Ao16, co16, eo16⟩ := Kd.R_slice HO_3.out
     subst eo16
     go_wp2_with (first | ((with_reducible refine gate_callee (f := 31) rfl ?_); refine goesL_ (some 33) rfl rfl Tryz.func31 (by kernel_rfl) rfl #[.slice Ao16 x3_1.length co16] rfl (by (try simp only [List.map_toArray, List.map_cons, List.map_nil]); first | done | rfl | (simp only [ne_nil_isEmpty]; rfl) | (simp only [List.length_drop, List.length_take]; rfl)) ?_; (with_reducible refine (spec_l3Sorted.calls k1 _ _ x3_1 t112 _ ?side1 ?side2 A14.out).mono ?_); (case side1 => repeat (first | exact (Kd.R_reads' HO_3.out).2.2 | (with_reducible refine Kd.C_alloc ?_ _) | (with_reducible refine Kd.C_drewN ?_ _) | (with_reducible refine Kd.C_drew ?_))); (case side2 => exact (Kd.R_reads' HO_3.out).2.1); rintro e w17 ⟨v113, rfl, ho0, hb⟩; refine ⟨_, rfl, ?_⟩; have HO114 := Aside0.mk (Kd.R_lower (Kd.R_new' (Kd.R_new' ho0 (Kd.R_lt (by (with_reducible repeat (first | apply Kd.R_alloc | apply Kd.R_drewN | apply Kd.R_drew)); exact HO_3.out))) (Kd.R_lt (by (with_reducible repeat (first | apply Kd.R_alloc | apply Kd.R_drewN | apply Kd.R_drew)); exact HO_4.out))) (below_size bh)); replace HO_3 := Aside0.mk (Kd.R_elder' (by (with_reducible repeat (first | apply Kd.R_alloc | apply Kd.R_drewN | apply Kd.R_drew)); exact HO_3.out) (Kd.R_base ho0) hb); replace HO_4 := Aside0.mk (Kd.R_elder' (by (with_reducible repeat (first | apply Kd.R_alloc | apply Kd.R_drewN | apply Kd.R_drew)); exact HO_4.out) (Kd.R_base ho0) hb); replace HB := Aside0.mk (below_step bh hb); (try clear hb); (try clear hb2); (try clear hk); (try clear hi); (try clear ho0)))
     go_loopg [6, 7] k1 (fun kq v6 v7 w' => ∃ (x6_2 : ByteArray) (x7_2 : Int), v6 = .string x6_2 ∧ v7 = .int .i64 x7_2 ∧ Aside0 (spec_SortedQuery.l1 kq t112 x6_2 x7_2 = some r) ∧ Aside0 (kq ≤ k1) ∧ Aside0 (Kd.R Kd.string 9 w' w.heap.size (fun _ => True) v113 t112) ∧ Aside0 (Below w.heap.size w w'))
     case atStart => exact ⟨((⟨#[]⟩ : ByteArray)), (0), (by first | rfl | (simp; done) | (simp [*]; done)), (by first | rfl | (simp; done) | (simp [*]; done)), H', ⟨Nat.le_refl _⟩, ⟨by (with_reducible repeat (first | apply Kd.R_alloc | apply Kd.R_drewN | apply Kd.R_drew)); exact Kd.R_mono HO114.out (fun _ hk => trivial)⟩, ⟨bh⟩⟩
     case round =>
      clear H'
      try clear c1
      try clear p1
      try clear q1
      try clear hx1
      try clear c2
      try clear c2b0
      try clear c2b1
      try clear p2
      try clear c3
      try clear p6
      try clear c7
      try clear c7b0
      try clear c8
      try clear c8b0
      try clear c9
      try clear c9b0
      try clear c9b1
      try clear p10
      try clear q10
      try clear hx10
      try clear c11
      try clear hx107_0
      try clear hx108_0
      try clear p107
      try clear p108
      try clear p2
      try clear q107
      try clear q108
      obtain ⟨x6_2, x7_2, rfl, rfl, HA, HK2, HO_3, HB⟩ := hrel
      cases gk with
      | zero => exact absurd HA.out (by simp [spec_SortedQuery.l1])
      | succ k2 =>
       have H := HA.out
       clear HA
       simp only [spec_SortedQuery.l1] at H
       by_cases c18 : x7_2 < (t112.length : Int)
       ·
        rw [if_pos c18] at H
        have c18b0 : decide (x7_2 < (t112.length : Int)) = true := decide_eq_true c18
        clear c18
        by_cases c19 : x7_2 > 0
        ·
         rw [if_pos c19] at H
         have c19b0 : decide (0 < x7_2) = true := decide_eq_true c19
         clear c19
         by_cases c20 : x6_2.size + 1 ≤ 9223372036854775807
         ·
          rw [if_pos c20] at H
          have c20b0 := eq_true c20
          have c20b1 : decide (x6_2.size + 1 ≤ 9223372036854775807) = true := decide_eq_true c20
          try have c20b2 : (9223372036854775807 < x6_2.size + 1) = False := eq_false (Nat.not_lt.2 c20)
          by_cases c21 : 0 ≤ x7_2
          ·
           rw [if_pos c21] at H
           have c21b0 : decide (0 ≤ x7_2) = true := decide_eq_true c21
           clear c21
           by_cases c22 : (x6_2 ++ (⟨#[38]⟩ : ByteArray)).size + (rdOf ByteArray.empty t112 x7_2).size ≤ 9223372036854775807
           ·
            rw [if_pos c22] at H
            have c22b0 := eq_true c22
            have c22b1 : decide ((x6_2 ++ (⟨#[38]⟩ : ByteArray)).size + (rdOf ByteArray.empty t112 x7_2).size ≤ 9223372036854775807) = true := decide_eq_true c22
            try have c22b2 : (9223372036854775807 < (x6_2 ++ (⟨#[38]⟩ : ByteArray)).size + (rdOf ByteArray.empty t112 x7_2).size) = False := eq_false (Nat.not_lt.2 c22)
            try have c22n3 := by have z_ := c22b2; simp only [ByteArray.size_append', ByteArray.size_mk', List.size_toArray, List.length_cons, List.length_nil, Nat.zero_add, Nat.reduceAdd] at z_; exact z_
            have H' := Aside0.mk H
            clear H
            obtain ⟨Ao23, co23, eo23⟩ := Kd.R_slice HO_3.out
            subst eo23
            have p115 : 0 ≤ (x7_2 : Int) := of_decide_eq_true (by first | (with_reducible assumption) | assumption)
            have q115 : x7_2 < (t112.length : Int) := of_decide_eq_true (by first | (with_reducible assumption) | assumption)
            obtain ⟨ad115, e115, hx115_0⟩ := Kd.at_string (Kd.R_reads' HO_3.out).2.2 x7_2 p115 q115
            cases e115
            replace p115 := eq_true p115
            replace q115 := eq_true q115
            go_wp2
            go_roundg k2
            case measure => have := HK1.out; have := HK2.out; omega
            case rel => exact ⟨((x6_2 ++ (⟨#[38]⟩ : ByteArray)) ++ (rdOf ByteArray.empty t112 x7_2)), (wrap64 (x7_2 + 1)), (by first | rfl | (simp; done) | (simp [*]; done)), (by first | rfl | (simp; done) | (simp [*]; done)), H', ⟨by have := HK1.out; have := HK2.out; omega⟩, ⟨by (with_reducible repeat (first | apply Kd.R_alloc | apply Kd.R_drewN | apply Kd.R_drew)); exact HO_3.out⟩, ⟨bh⟩⟩
           ·
            rw [if_neg c22] at H
            exact absurd H (by simp)
          ·
           rw [if_neg c21] at H
           exact absurd H (by simp)
         ·
          rw [if_neg c20] at H
          exact absurd H (by simp)
        ·
         rw [if_neg c19] at H
         have c19b0 : decide (0 < x7_2) = false := decide_eq_false c19
         clear c19
         by_cases c24 : 0 ≤ x7_2
         ·
          rw [if_pos c24] at H
          have c24b0 : decide (0 ≤ x7_2) = true := decide_eq_true c24
          clear c24
          by_cases c25 : x6_2.size + (rdOf ByteArray.empty t112 x7_2).size ≤ 9223372036854775807
          ·
           rw [if_pos c25] at H
           have c25b0 := eq_true c25
           have c25b1 : decide (x6_2.size + (rdOf ByteArray.empty t112 x7_2).size ≤ 9223372036854775807) = true := decide_eq_true c25
           try have c25b2 : (9223372036854775807 < x6_2.size + (rdOf ByteArray.empty t112 x7_2).size) = False := eq_false (Nat.not_lt.2 c25)
           have H' := Aside0.mk H
           clear H
           obtain ⟨Ao26, co26, eo26⟩ := Kd.R_slice HO_3.out
           subst eo26
           have p116 : 0 ≤ (x7_2 : Int) := of_decide_eq_true (by first | (with_reducible assumption) | assumption)
           have q116 : x7_2 < (t112.length : Int) := of_decide_eq_true (by first | (with_reducible assumption) | assumption)
           obtain ⟨ad116, e116, hx116_0⟩ := Kd.at_string (Kd.R_reads' HO_3.out).2.2 x7_2 p116 q116
           cases e116
           replace p116 := eq_true p116
           replace q116 := eq_true q116
           go_wp2
           go_roundg k2
           case measure => have := HK1.out; have := HK2.out; omega
           case rel => exact ⟨(x6_2 ++ (rdOf ByteArray.empty t112 x7_2)), (wrap64 (x7_2 + 1)), (by first | rfl | (simp; done) | (simp [*]; done)), (by first | rfl | (simp; done) | (simp [*]; done)), H', ⟨by have := HK1.out; have := HK2.out; omega⟩, ⟨by (with_reducible repeat (first | apply Kd.R_alloc | apply Kd.R_drewN | apply Kd.R_drew)); exact HO_3.out⟩, ⟨bh⟩⟩
          ·
           rw [if_neg c25] at H
           exact absurd H (by simp)
         ·
          rw [if_neg c24] at H
          exact absurd H (by simp)
       ·
        rw [if_neg c18] at H
        have c18b0 : decide (x7_2 < (t112.length : Int)) = false := decide_eq_false c18
        clear c18
        obtain rfl := Option.some.inj H
        obtain ⟨Ao27, co27, eo27⟩ := Kd.R_slice HO_3.out
        subst eo27
        go_wp2
        go_ret
        exact ⟨er, bh⟩
end Go.Proofs.YtonimccihcodnaaGreatDoor.P
namespace Go.Proofs.YtonimccihcodnaaGreatDoor.P
set_option linter.unusedVariables false
set_option linter.unusedSimpArgs false
open Go.RowKit Go.Lib Go.Proofs.YtonimccihcodnaaGreatDoorW.PrintWords Go.Proofs.YtonimccihcodnaaGreatDoorW.PrintLast Go.Proofs.YtonimccihcodnaaGreatDoorW.PrintMore

def tokTab : List Int := [33, 35, 36, 37, 38, 39, 42, 43, 45, 46, 94, 95, 124, 126, 96]
theorem tokTab_cell (w : World) (k : Nat) (h : k < 15) : (w.alloc (.cells #[.int .u8 33, .int .u8 35, .int .u8 36, .int .u8 37, .int .u8 38, .int .u8 39, .int .u8 42, .int .u8 43, .int .u8 45, .int .u8 46, .int .u8 94, .int .u8 95, .int .u8 124, .int .u8 126, .int .u8 96] 5 (15, 16))).cell? ⟨w.heap.size, k, none⟩ = some (.int .u8 (tokTab.getD k 0)) := by
  rw [World.cell?_alloc_mark]
  have hl : k < tokTab.length := h
  have e : (#[.int .u8 33, .int .u8 35, .int .u8 36, .int .u8 37, .int .u8 38, .int .u8 39, .int .u8 42, .int .u8 43, .int .u8 45, .int .u8 46, .int .u8 94, .int .u8 95, .int .u8 124, .int .u8 126, .int .u8 96] : Array Value) = (tokTab.map (Value.int .u8)).toArray := rfl
  rw [e, List.getElem?_toArray, List.getElem?_map, List.getD_eq_getElem?_getD, List.getElem?_eq_getElem hl]
  rfl

set_option maxHeartbeats 2000000 in
theorem spec_l1Token_loop (c : Int) (w : World) (hc : c < 48 ∨ (57 < c ∧ c < 65) ∨ (90 < c ∧ c < 97) ∨ 122 < c) :
    Calls Tryz.prog 36 #[.int .u8 c] w fun e w' => e = .returned (.bool (tokTab.any fun x => x == c)) ∧ Below w.heap.size w w' := by
  have kc := fun (w : World) (C : Array Value) (n c : Nat) => Lib.run_convert_bytes_const (P := Tryz.prog) w 25 5 C n c Tryz.underlying25 Tryz.underlying5
  rcases hc with h | ⟨h, h'⟩ | ⟨h, h'⟩ | h
  all_goals
    go_enter Tryz.func36, Tryz.ntmps36
    go_wp2
    go_loop [31] (fun i => ∃ k : Nat, k ≤ 15 ∧ i = .int .i64 k ∧ Aside ((tokTab.take k).any (fun x => x == c) = false)) (fun i => 15 - (intOf i).toNat)
    case atStart => exact ⟨0, Nat.zero_le _, rfl, rfl⟩
    case round =>
      obtain ⟨k, hk, rfl, A⟩ := hrel
      by_cases hlt : k < 15
      · have hcell := tokTab_cell w k hlt
        have hltz : (k : Int) < 15 := by omega
        have hnext : tokTab.take (k + 1) = tokTab.take k ++ [tokTab.getD k 0] := by
          have h1 : k < tokTab.length := hlt
          rw [List.take_succ_eq_append_getElem h1, List.getD_eq_getElem?_getD, List.getElem?_eq_getElem h1]; rfl
        have N := Lib.hid hnext
        clear hnext
        obtain ⟨x, hx⟩ : ∃ x, tokTab.getD k 0 = x := ⟨_, rfl⟩
        rw [hx] at hcell
        have X := Lib.hid hx
        clear hx
        by_cases e : x = c
        · have eb : (x == c) = true := by simpa using e
          clear e
          go_wp2
          go_ret
          refine ⟨?_, by first | exact (Below.refl _ w).alloc (Nat.le_refl _) _ | (repeat (first | exact Below.refl _ _ | apply below_alloc))⟩
          have : tokTab.any (fun x => x == c) = true := by
            rw [← List.take_append_drop (k + 1) tokTab, List.any_append, N.out, List.any_append, X.out]
            simp [eb]
          rw [this]; rfl
        · have eb : (x == c) = false := by simpa using e
          clear e
          go_wp2
          go_round
          case rel => exact ⟨k + 1, by omega, by go_num, show Aside _ from (show ((tokTab.take (k + 1)).any fun x => x == c) = false by
            rw [N.out, List.any_append, A.out, X.out]
            simp [eb])⟩
          case measure => simp [intOf]; omega
      · have hltz : ¬ (k : Int) < 15 := by omega
        go_wp2
        go_ret
        refine ⟨?_, by first | exact (Below.refl _ w).alloc (Nat.le_refl _) _ | (repeat (first | exact Below.refl _ _ | apply below_alloc))⟩
        have : tokTab.any (fun x => x == c) = false := by
          have h2 := A.out
          rw [List.take_of_length_le (by show 15 ≤ k; omega)] at h2
          exact h2
        rw [this]; rfl

set_option maxHeartbeats 1000000 in
theorem spec_l1Token_sure (c : Int) (w : World) (hc : (48 ≤ c ∧ c ≤ 57) ∨ (65 ≤ c ∧ c ≤ 90) ∨ (97 ≤ c ∧ c ≤ 122)) :
    Calls Tryz.prog 36 #[.int .u8 c] w fun e w' => e = .returned (.bool true) ∧ Below w.heap.size w w' := by
  rcases hc with ⟨h, h'⟩ | ⟨h, h'⟩ | ⟨h, h'⟩
  all_goals
    go_enter Tryz.func36, Tryz.ntmps36
    go_wp2
    go_ret
    exact ⟨rfl, Below.refl _ _⟩

def spec_l1Token.f (a0 : Int) : Option Bool :=
  some (decide (48 ≤ a0 ∧ a0 ≤ 57) || decide (65 ≤ a0 ∧ a0 ≤ 90) || decide (97 ≤ a0 ∧ a0 ≤ 122) || tokTab.any fun x => x == a0)
theorem spec_l1Token.calls (a0 : Int) (r : Bool) (w : World) (h : spec_l1Token.f a0 = some r) :
    Calls Tryz.prog 36 #[.int .u8 a0] w fun e w' => e = .returned (.bool r) ∧ Below w.heap.size w w' := by
  obtain rfl := Option.some.inj h
  by_cases hc : (48 ≤ a0 ∧ a0 ≤ 57) ∨ (65 ≤ a0 ∧ a0 ≤ 90) ∨ (97 ≤ a0 ∧ a0 ≤ 122)
  · have : (decide (48 ≤ a0 ∧ a0 ≤ 57) || decide (65 ≤ a0 ∧ a0 ≤ 90) || decide (97 ≤ a0 ∧ a0 ≤ 122) || tokTab.any fun x => x == a0) = true := by
      rcases hc with h | h | h <;> simp [h]
    rw [this]
    exact spec_l1Token_sure a0 w hc
  · have : (decide (48 ≤ a0 ∧ a0 ≤ 57) || decide (65 ≤ a0 ∧ a0 ≤ 90) || decide (97 ≤ a0 ∧ a0 ≤ 122) || tokTab.any fun x => x == a0) = (tokTab.any fun x => x == a0) := by
      rw [decide_eq_false (fun h => hc (.inl h)), decide_eq_false (fun h => hc (.inr (.inl h))), decide_eq_false (fun h => hc (.inr (.inr h)))]
      rfl
    rw [this]
    exact spec_l1Token_loop a0 w (by omega)
end Go.Proofs.YtonimccihcodnaaGreatDoor.P
namespace Go.Proofs.YtonimccihcodnaaGreatDoor.P
open Go.RowKit Go.Proofs.YtonimccihcodnaaGreatDoorW.PrintWords Go.Proofs.YtonimccihcodnaaGreatDoorW.PrintLast Go.Proofs.YtonimccihcodnaaGreatDoorW.PrintMore
attribute [local go_sem] max2_int min2_int max_two min_two max_three min_three max_four min_four   -- for this text's walks alone
set_option linter.unusedVariables false
set_option linter.unusedSimpArgs false

/-! ### spec_TokenOk: function 14 -/
mutual
def spec_TokenOk.j0 : Nat → ByteArray → Bool → Option (Bool)
 | 0, _, _ => none
 | k + 1, x0, x11 => if x11 = true then (some false) else (spec_TokenOk.l0 k x0 0)
def spec_TokenOk.l0 : Nat → ByteArray → Int → Option (Bool)
 | 0, _, _ => none
 | k + 1, x0, x3 => if x3 < (x0.size : Int) then (if 0 ≤ x3 then ((spec_l1Token.f (bt x0 x3)).bind fun t101 => (if t101 = true then (spec_TokenOk.l0 k x0 (wrap64 (x3 + 1))) else (some false))) else (none)) else (some true)
end
def spec_TokenOk.f (k : Nat) (a0 : ByteArray) : Option (Bool) := if (a0.size : Int) < 1 then (spec_TokenOk.j0 k a0 true) else (spec_TokenOk.j0 k a0 (decide ((a0.size : Int) > 64)))
theorem spec_TokenOk.mono_l : ∀ k, (∀ y0 y1, LeO (spec_TokenOk.j0 k y0 y1) (spec_TokenOk.j0 (k + 1) y0 y1)) ∧ (∀ y0 y1, LeO (spec_TokenOk.l0 k y0 y1) (spec_TokenOk.l0 (k + 1) y0 y1))
 | 0 => ⟨fun _ _ r h => by simp [spec_TokenOk.j0] at h, fun _ _ r h => by simp [spec_TokenOk.l0] at h⟩
 | k + 1 => by
  obtain ⟨ih0, ih1⟩ := spec_TokenOk.mono_l k
  refine ⟨?_, ?_⟩
  ·
   intro y0 y1
   unfold spec_TokenOk.j0
   repeat' first
   | (with_reducible exact ih0 _ _)
   | (with_reducible exact ih1 _ _)
   | (with_reducible exact LeO.refl _)
   | (with_reducible exact LeO.none _)
   | (with_reducible refine LeO.ite ?_ ?_)
   | (with_reducible refine LeO.bind ?_ (fun _ => ?_))
   | exact ih0 _ _
   | exact ih1 _ _
   | exact LeO.none _
   | refine LeO.ite ?_ ?_
   | refine LeO.bind ?_ (fun _ => ?_)
  ·
   intro y0 y1
   unfold spec_TokenOk.l0
   repeat' first
   | (with_reducible exact ih0 _ _)
   | (with_reducible exact ih1 _ _)
   | (with_reducible exact LeO.refl _)
   | (with_reducible exact LeO.none _)
   | (with_reducible refine LeO.ite ?_ ?_)
   | (with_reducible refine LeO.bind ?_ (fun _ => ?_))
   | exact ih0 _ _
   | exact ih1 _ _
   | exact LeO.none _
   | refine LeO.ite ?_ ?_
   | refine LeO.bind ?_ (fun _ => ?_)
theorem spec_TokenOk.mono : ∀ a0 k, LeO (spec_TokenOk.f k a0) (spec_TokenOk.f (k + 1) a0) := by
 intro a0 k
 obtain ⟨ih0, ih1⟩ := spec_TokenOk.mono_l k
 unfold spec_TokenOk.f
 repeat' first
   | (with_reducible exact ih0 _ _)
   | (with_reducible exact ih1 _ _)
   | (with_reducible exact LeO.refl _)
   | (with_reducible exact LeO.none _)
   | (with_reducible refine LeO.ite ?_ ?_)
   | (with_reducible refine LeO.bind ?_ (fun _ => ?_))
   | exact ih0 _ _
   | exact ih1 _ _
   | exact LeO.none _
   | refine LeO.ite ?_ ?_
   | refine LeO.bind ?_ (fun _ => ?_)
set_option maxHeartbeats 8000000 in
set_option maxRecDepth 100000 in
theorem spec_TokenOk.calls (k : Nat) (a0 : ByteArray) (r : Bool) (w : World) (h : spec_TokenOk.f k a0 = some r) :
  Calls Tryz.prog 14 #[.string a0] w fun e w' => e = .returned (.bool r) ∧ Below w.heap.size w w' := by
 have HB := Aside0.mk (Below.refl w.heap.size w)
 have H : (if (a0.size : Int) < 1 then (spec_TokenOk.j0 k a0 true) else (spec_TokenOk.j0 k a0 (decide ((a0.size : Int) > 64)))) = some r := h
 clear h
 have HC2 := Aside0.mk H
 clear H
 go_enter Tryz.func14, Tryz.ntmps14
 go_upto_region 1 with (fail)
 go_cut [11] (fun v11 wc => ∃ (kq : Nat) (x11_1 : Bool), v11 = .bool x11_1 ∧ Aside0 (spec_TokenOk.j0 kq a0 x11_1 = some r) ∧ Aside0 (kq ≤ k) ∧ Aside0 (Below w.heap.size w wc))
 case first =>
  have H := HC2.out
  clear HC2
  by_cases c3 : (a0.size : Int) < 1
  ·
   rw [if_pos c3] at H
   have c3b0 : decide ((a0.size : Int) < 1) = true := decide_eq_true c3
   have c3b1 : decide (a0.size < 1) = true := decide_eq_true (by omega)
   clear c3
   (first | rw [c3b0] | (simp only [i64_w, i32_w]; rw [c3b0]) | skip)
   have H' := Aside0.mk H
   clear H
   go_wp2
   go_meet
   case rel => exact ⟨_, (true), (by first | rfl | (simp; done) | (simp [*]; done)), H', ⟨by first | omega | exact Nat.le_refl _⟩, ⟨bh⟩⟩
  ·
   rw [if_neg c3] at H
   have c3b0 : decide ((a0.size : Int) < 1) = false := decide_eq_false c3
   have c3b1 : decide (a0.size < 1) = false := decide_eq_false (by omega)
   clear c3
   (first | rw [c3b0] | (simp only [i64_w, i32_w]; rw [c3b0]) | skip)
   have H' := Aside0.mk H
   clear H
   go_wp2
   go_meet
   case rel => exact ⟨_, (decide ((a0.size : Int) > 64)), (by first | rfl | (simp; done) | (simp [*]; done)), H', ⟨by first | omega | exact Nat.le_refl _⟩, ⟨bh⟩⟩
 case rest =>
  clear HC2
  try clear c1
  try clear p2
  try clear c3
  try clear c3b0
  try clear c3b1
  obtain ⟨kq, x11_1, rfl, HA, HJ1, HB⟩ := hcut
  cases kq with
  | zero => exact absurd HA.out (by simp [spec_TokenOk.j0])
  | succ kj1 =>
   have H := HA.out
   clear HA
   simp only [spec_TokenOk.j0] at H
   by_cases c4 : x11_1 = true
   ·
    subst c4
    have H1 : (some false) = some r := by rw [if_pos rfl] at H; exact H
    clear H
    have H := H1
    clear H1
    obtain rfl := Option.some.inj H
    go_wp2
    go_ret
    exact ⟨er, bh⟩
   ·
    replace c4 := Bool.eq_false_iff.mpr c4
    subst c4
    have H1 : (spec_TokenOk.l0 kj1 a0 0) = some r := by rw [if_neg (show ¬ (false = true) by decide)] at H; exact H
    clear H
    have H := H1
    clear H1
    have H' := Aside0.mk H
    clear H
    go_wp2
    go_loopg [3] kj1 (fun kq v3 w' => ∃ (x3_2 : Int), v3 = .int .i64 x3_2 ∧ Aside0 (spec_TokenOk.l0 kq a0 x3_2 = some r) ∧ Aside0 (kq ≤ kj1) ∧ Aside0 (Below w.heap.size w w'))
    case atStart => exact ⟨(0), (by first | rfl | (simp; done) | (simp [*]; done)), H', ⟨Nat.le_refl _⟩, ⟨bh⟩⟩
    case round =>
     clear H'
     try clear c1
     try clear p2
     try clear c3
     try clear c3b0
     try clear c3b1
     try clear c4
     try clear p2
     obtain ⟨x3_2, rfl, HA, HK2, HB⟩ := hrel
     cases gk with
     | zero => exact absurd HA.out (by simp [spec_TokenOk.l0])
     | succ k2 =>
      have H := HA.out
      clear HA
      simp only [spec_TokenOk.l0] at H
      by_cases c5 : x3_2 < (a0.size : Int)
      ·
       rw [if_pos c5] at H
       have c5b0 : decide (x3_2 < (a0.size : Int)) = true := decide_eq_true c5
       clear c5
       by_cases c6 : 0 ≤ x3_2
       ·
        rw [if_pos c6] at H
        have c6b0 : decide (0 ≤ x3_2) = true := decide_eq_true c6
        clear c6
        obtain ⟨t101, A80, H⟩ := Option.bind_eq_some_iff.mp H
        try dsimp only at H
        have A8 := Aside0.mk A80
        clear A80
        by_cases c9 : t101 = true
        ·
         subst c9
         have H1 : (spec_TokenOk.l0 k2 a0 (wrap64 (x3_2 + 1))) = some r := by rw [if_pos rfl] at H; exact H
         clear H
         have H := H1
         clear H1
         have H' := Aside0.mk H
         clear H
         have p7 : 0 ≤ (x3_2 : Int) := of_decide_eq_true (by first | (with_reducible assumption) | assumption)
         have q7 : x3_2 < (a0.size : Int) := of_decide_eq_true (by first | (with_reducible assumption) | assumption)
         have hx7 := bt_at a0 x3_2
         replace p7 := eq_true p7
         replace q7 := eq_true q7
         go_wp2_with (first | ((with_reducible refine gate_callee (f := 36) rfl ?_); refine goesL_ (some 21) rfl rfl Tryz.func36 (by kernel_rfl) rfl #[.int .u8 (bt a0 x3_2)] rfl mc ?_; (with_reducible refine (spec_l1Token.calls (bt a0 x3_2) true _ A8.out).mono ?_); rintro e w10 ⟨rfl, hb⟩; refine ⟨_, rfl, ?_⟩; replace HB := Aside0.mk (below_step bh hb); (try clear hb); (try clear hb2); (try clear hk); (try clear hi)))
         go_roundg k2
         case measure => have := HJ1.out; have := HK2.out; omega
         case rel => exact ⟨(wrap64 (x3_2 + 1)), (by first | rfl | (simp; done) | (simp [*]; done)), H', ⟨by have := HJ1.out; have := HK2.out; omega⟩, ⟨bh⟩⟩
        ·
         replace c9 := Bool.eq_false_iff.mpr c9
         subst c9
         have H1 : (some false) = some r := by rw [if_neg (show ¬ (false = true) by decide)] at H; exact H
         clear H
         have H := H1
         clear H1
         obtain rfl := Option.some.inj H
         have p7 : 0 ≤ (x3_2 : Int) := of_decide_eq_true (by first | (with_reducible assumption) | assumption)
         have q7 : x3_2 < (a0.size : Int) := of_decide_eq_true (by first | (with_reducible assumption) | assumption)
         have hx7 := bt_at a0 x3_2
         replace p7 := eq_true p7
         replace q7 := eq_true q7
         go_wp2_with (first | ((with_reducible refine gate_callee (f := 36) rfl ?_); refine goesL_ (some 21) rfl rfl Tryz.func36 (by kernel_rfl) rfl #[.int .u8 (bt a0 x3_2)] rfl mc ?_; (with_reducible refine (spec_l1Token.calls (bt a0 x3_2) false _ A8.out).mono ?_); rintro e w11 ⟨rfl, hb⟩; refine ⟨_, rfl, ?_⟩; replace HB := Aside0.mk (below_step bh hb); (try clear hb); (try clear hb2); (try clear hk); (try clear hi)))
         go_ret
         exact ⟨er, bh⟩
       ·
        rw [if_neg c6] at H
        exact absurd H (by simp)
      ·
       rw [if_neg c5] at H
       have c5b0 : decide (x3_2 < (a0.size : Int)) = false := decide_eq_false c5
       clear c5
       obtain rfl := Option.some.inj H
       go_wp2
       go_ret
       exact ⟨er, bh⟩
/-! ### spec_Key: function 5 -/
mutual
def spec_Key.j1 : Nat → ByteArray → ByteArray → ByteArray → Option (ByteArray × Bool)
 | 0, _, _, _ => none
 | k + 1, x0, x6, x7 => (spec_NormalPath.f k x6).bind fun bt101 => (if bt101.2 = true then ((spec_TokenOk.f k x0).bind fun t103 => (spec_Key.j2 k x0 x7 bt101.1 (!t103))) else (spec_Key.j2 k x0 x7 bt101.1 true))
def spec_Key.j2 : Nat → ByteArray → ByteArray → ByteArray → Bool → Option (ByteArray × Bool)
 | 0, _, _, _, _ => none
 | k + 1, x0, x7, x9, x41 => if x41 = true then (some ((⟨#[]⟩ : ByteArray), false)) else ((spec_SortedQuery.f k x7).bind fun t104 => (if t104.toList = ([] : List UInt8) then ((spec_Lower.f x0).bind fun t105 => (if t105.size + x9.size ≤ 9223372036854775807 then (some (t105 ++ x9, true)) else (none))) else (if x9.size + 1 ≤ 9223372036854775807 then (if (x9 ++ (⟨#[63]⟩ : ByteArray)).size + t104.size ≤ 9223372036854775807 then ((spec_Lower.f x0).bind fun t106 => (if t106.size + ((x9 ++ (⟨#[63]⟩ : ByteArray)) ++ t104).size ≤ 9223372036854775807 then (some (t106 ++ ((x9 ++ (⟨#[63]⟩ : ByteArray)) ++ t104), true)) else (none))) else (none)) else (none))))
def spec_Key.l0 : Nat → ByteArray → ByteArray → ByteArray → ByteArray → Int → Option (ByteArray × Bool)
 | 0, _, _, _, _, _ => none
 | k + 1, x0, x1, x6, x7, x8 => if x8 < (x1.size : Int) then (if 0 ≤ x8 then (if (bt x1 x8) = 63 then (if x8 ≤ (x1.size : Int) then (if 0 ≤ (wrap64 (x8 + 1)) then (if (wrap64 (x8 + 1)) ≤ (x1.size : Int) then (spec_Key.j1 k x0 (x1.extract 0 (x8 : Int).toNat) (x1.extract ((wrap64 (x8 + 1)) : Int).toNat x1.size)) else (none)) else (none)) else (none)) else (spec_Key.l0 k x0 x1 x6 x7 (wrap64 (x8 + 1)))) else (none)) else (spec_Key.j1 k x0 x6 x7)
end
def spec_Key.f (k : Nat) (a0 : ByteArray) (a1 : ByteArray) : Option (ByteArray × Bool) := spec_Key.l0 k a0 a1 a1 (⟨#[]⟩ : ByteArray) 0
theorem spec_Key.mono_l : ∀ k, (∀ y0 y1 y2, LeO (spec_Key.j1 k y0 y1 y2) (spec_Key.j1 (k + 1) y0 y1 y2)) ∧ (∀ y0 y1 y2 y3, LeO (spec_Key.j2 k y0 y1 y2 y3) (spec_Key.j2 (k + 1) y0 y1 y2 y3)) ∧ (∀ y0 y1 y2 y3 y4, LeO (spec_Key.l0 k y0 y1 y2 y3 y4) (spec_Key.l0 (k + 1) y0 y1 y2 y3 y4))
 | 0 => ⟨fun _ _ _ r h => by simp [spec_Key.j1] at h, fun _ _ _ _ r h => by simp [spec_Key.j2] at h, fun _ _ _ _ _ r h => by simp [spec_Key.l0] at h⟩
 | k + 1 => by
  obtain ⟨ih0, ih1, ih2⟩ := spec_Key.mono_l k
  refine ⟨?_, ?_, ?_⟩
  ·
   intro y0 y1 y2
   unfold spec_Key.j1
   repeat' first
   | (with_reducible exact ih0 _ _ _)
   | (with_reducible exact ih1 _ _ _ _)
   | (with_reducible exact ih2 _ _ _ _ _)
   | (with_reducible exact spec_NormalPath.mono _ _)
   | (with_reducible exact spec_SortedQuery.mono _ _)
   | (with_reducible exact spec_TokenOk.mono _ _)
   | (with_reducible exact LeO.refl _)
   | (with_reducible exact LeO.none _)
   | (with_reducible refine LeO.ite ?_ ?_)
   | (with_reducible refine LeO.bind ?_ (fun _ => ?_))
   | exact ih0 _ _ _
   | exact ih1 _ _ _ _
   | exact ih2 _ _ _ _ _
   | exact spec_NormalPath.mono _ _
   | exact spec_SortedQuery.mono _ _
   | exact spec_TokenOk.mono _ _
   | exact LeO.none _
   | refine LeO.ite ?_ ?_
   | refine LeO.bind ?_ (fun _ => ?_)
  ·
   intro y0 y1 y2 y3
   unfold spec_Key.j2
   repeat' first
   | (with_reducible exact ih0 _ _ _)
   | (with_reducible exact ih1 _ _ _ _)
   | (with_reducible exact ih2 _ _ _ _ _)
   | (with_reducible exact spec_NormalPath.mono _ _)
   | (with_reducible exact spec_SortedQuery.mono _ _)
   | (with_reducible exact spec_TokenOk.mono _ _)
   | (with_reducible exact LeO.refl _)
   | (with_reducible exact LeO.none _)
   | (with_reducible refine LeO.ite ?_ ?_)
   | (with_reducible refine LeO.bind ?_ (fun _ => ?_))
   | exact ih0 _ _ _
   | exact ih1 _ _ _ _
   | exact ih2 _ _ _ _ _
   | exact spec_NormalPath.mono _ _
   | exact spec_SortedQuery.mono _ _
   | exact spec_TokenOk.mono _ _
   | exact LeO.none _
   | refine LeO.ite ?_ ?_
   | refine LeO.bind ?_ (fun _ => ?_)
  ·
   intro y0 y1 y2 y3 y4
   unfold spec_Key.l0
   repeat' first
   | (with_reducible exact ih0 _ _ _)
   | (with_reducible exact ih1 _ _ _ _)
   | (with_reducible exact ih2 _ _ _ _ _)
   | (with_reducible exact spec_NormalPath.mono _ _)
   | (with_reducible exact spec_SortedQuery.mono _ _)
   | (with_reducible exact spec_TokenOk.mono _ _)
   | (with_reducible exact LeO.refl _)
   | (with_reducible exact LeO.none _)
   | (with_reducible refine LeO.ite ?_ ?_)
   | (with_reducible refine LeO.bind ?_ (fun _ => ?_))
   | exact ih0 _ _ _
   | exact ih1 _ _ _ _
   | exact ih2 _ _ _ _ _
   | exact spec_NormalPath.mono _ _
   | exact spec_SortedQuery.mono _ _
   | exact spec_TokenOk.mono _ _
   | exact LeO.none _
   | refine LeO.ite ?_ ?_
   | refine LeO.bind ?_ (fun _ => ?_)
theorem spec_Key.mono : ∀ a0 a1 k, LeO (spec_Key.f k a0 a1) (spec_Key.f (k + 1) a0 a1) := by
 intro a0 a1 k
 obtain ⟨ih0, ih1, ih2⟩ := spec_Key.mono_l k
 unfold spec_Key.f
 repeat' first
   | (with_reducible exact ih0 _ _ _)
   | (with_reducible exact ih1 _ _ _ _)
   | (with_reducible exact ih2 _ _ _ _ _)
   | (with_reducible exact spec_NormalPath.mono _ _)
   | (with_reducible exact spec_SortedQuery.mono _ _)
   | (with_reducible exact spec_TokenOk.mono _ _)
   | (with_reducible exact LeO.refl _)
   | (with_reducible exact LeO.none _)
   | (with_reducible refine LeO.ite ?_ ?_)
   | (with_reducible refine LeO.bind ?_ (fun _ => ?_))
   | exact ih0 _ _ _
   | exact ih1 _ _ _ _
   | exact ih2 _ _ _ _ _
   | exact spec_NormalPath.mono _ _
   | exact spec_SortedQuery.mono _ _
   | exact spec_TokenOk.mono _ _
   | exact LeO.none _
   | refine LeO.ite ?_ ?_
   | refine LeO.bind ?_ (fun _ => ?_)
set_option maxHeartbeats 8000000 in
set_option maxRecDepth 100000 in
theorem spec_Key.calls (k : Nat) (a0 : ByteArray) (a1 : ByteArray) (r1 : ByteArray) (r2 : Bool) (w : World) (h : spec_Key.f k a0 a1 = some (r1, r2)) :
  Calls Tryz.prog 5 #[.string a0, .string a1] w fun e w' => e = .returned (.tuple #[.string r1, .bool r2]) ∧ Below w.heap.size w w' := by
 have HB := Aside0.mk (Below.refl w.heap.size w)
 have H : (spec_Key.l0 k a0 a1 a1 (⟨#[]⟩ : ByteArray) 0) = some (r1, r2) := h
 clear h
 have HC3 := Aside0.mk H
 clear H
 go_enter Tryz.func5, Tryz.ntmps5
 go_upto_block 0 with (fail)
 go_cut [6, 7] (fun v6 v7 wc => ∃ (kq : Nat) (x6_2 : ByteArray) (x7_2 : ByteArray), v6 = .string x6_2 ∧ v7 = .string x7_2 ∧ Aside0 (spec_Key.j1 kq a0 x6_2 x7_2 = some (r1, r2)) ∧ Aside0 (kq ≤ k) ∧ Aside0 (Below w.heap.size w wc))
 case first =>
  have H := HC3.out
  clear HC3
  have H' := Aside0.mk H
  clear H
  go_wp2
  go_loopg [6, 7, 8] k (fun kq v6 v7 v8 w' => ∃ (x6_1 : ByteArray) (x7_1 : ByteArray) (x8_1 : Int), v6 = .string x6_1 ∧ v7 = .string x7_1 ∧ v8 = .int .i64 x8_1 ∧ Aside0 (spec_Key.l0 kq a0 a1 x6_1 x7_1 x8_1 = some (r1, r2)) ∧ Aside0 (kq ≤ k) ∧ Aside0 (Below w.heap.size w w'))
  case atStart => exact ⟨(a1), ((⟨#[]⟩ : ByteArray)), (0), (by first | rfl | (simp; done) | (simp [*]; done)), (by first | rfl | (simp; done) | (simp [*]; done)), (by first | rfl | (simp; done) | (simp [*]; done)), H', ⟨Nat.le_refl _⟩, ⟨bh⟩⟩
  case round =>
   clear H'
   try clear p2
   obtain ⟨x6_1, x7_1, x8_1, rfl, rfl, rfl, HA, HK1, HB⟩ := hrel
   cases gk with
   | zero => exact absurd HA.out (by simp [spec_Key.l0])
   | succ k1 =>
    have H := HA.out
    clear HA
    simp only [spec_Key.l0] at H
    by_cases c4 : x8_1 < (a1.size : Int)
    ·
     rw [if_pos c4] at H
     have c4b0 : decide (x8_1 < (a1.size : Int)) = true := decide_eq_true c4
     clear c4
     (first | rw [c4b0] | (simp only [i64_w, i32_w]; rw [c4b0]) | skip)
     by_cases c5 : 0 ≤ x8_1
     ·
      rw [if_pos c5] at H
      have c5b0 : decide (0 ≤ x8_1) = true := decide_eq_true c5
      clear c5
      by_cases c7 : (bt a1 x8_1) = 63
      ·
       rw [if_pos c7] at H
       have c7b0 : ((bt a1 x8_1) == 63) = true := beq_iff_eq.mpr c7
       have c7b1 : ((bt a1 x8_1) != 63) = false := bne_eq_false_iff_eq.mpr c7
       clear c7
       have c8b0 := eq_true (of_decide_eq_true (by first | (with_reducible assumption) | assumption) : 0 ≤ x8_1)
       by_cases c9 : x8_1 ≤ (a1.size : Int)
       ·
        rw [if_pos c9] at H
        have c9b0 := eq_true c9
        have c9b1 : decide (x8_1 ≤ (a1.size : Int)) = true := decide_eq_true c9
        clear c9
        obtain ⟨ji10, hji10⟩ : ∃ j_ : Int, (wrap64 (x8_1 + 1)) = j_ := ⟨_, rfl⟩
        replace H : (if 0 ≤ (ji10) then (if (ji10) ≤ (a1.size : Int) then (spec_Key.j1 k1 a0 (a1.extract 0 (x8_1 : Int).toNat) (a1.extract ((ji10) : Int).toNat a1.size)) else (none)) else (none)) = some (r1, r2) := by first | (rw [hji10] at H; exact H) | (simp only [hji10] at H ⊢; exact H)
        have hji10w : (IntKind.i64.wrap (x8_1 + 1)) = ji10 := (i64_w _).trans hji10
        by_cases c11 : 0 ≤ (ji10)
        ·
         rw [if_pos c11] at H
         have c11b0 := eq_true c11
         have c11b1 : decide (0 ≤ (ji10)) = true := decide_eq_true c11
         clear c11
         by_cases c12 : (ji10) ≤ (a1.size : Int)
         ·
          rw [if_pos c12] at H
          have c12b0 := eq_true c12
          have c12b1 : decide ((ji10) ≤ (a1.size : Int)) = true := decide_eq_true c12
          clear c12
          have H' := Aside0.mk H
          clear H
          have p6 : 0 ≤ (x8_1 : Int) := of_decide_eq_true (by first | (with_reducible assumption) | assumption)
          have q6 : x8_1 < (a1.size : Int) := of_decide_eq_true (by first | (with_reducible assumption) | assumption)
          have hx6 := bt_at a1 x8_1
          replace p6 := eq_true p6
          replace q6 := eq_true q6
          go_wp2
          go_meet
          case rel => exact ⟨_, (a1.extract 0 (x8_1 : Int).toNat), (a1.extract ((ji10) : Int).toNat a1.size), (by first | rfl | (simp; done) | (simp [*]; done)), (by first | rfl | (simp; done) | (simp only [← hji10] <;> (first | rfl | simp)) | (simp [*]; done)), H', ⟨by have := HK1.out; first | omega | exact Nat.le_refl _⟩, ⟨bh⟩⟩
         ·
          rw [if_neg c12] at H
          exact absurd H (by simp)
        ·
         rw [if_neg c11] at H
         exact absurd H (by simp)
       ·
        rw [if_neg c9] at H
        exact absurd H (by simp)
      ·
       rw [if_neg c7] at H
       have c7b0 : ((bt a1 x8_1) == 63) = false := beq_eq_false_iff_ne.mpr c7
       have c7b1 : ((bt a1 x8_1) != 63) = true := bne_iff_ne.mpr c7
       have H' := Aside0.mk H
       clear H
       have p6 : 0 ≤ (x8_1 : Int) := of_decide_eq_true (by first | (with_reducible assumption) | assumption)
       have q6 : x8_1 < (a1.size : Int) := of_decide_eq_true (by first | (with_reducible assumption) | assumption)
       have hx6 := bt_at a1 x8_1
       replace p6 := eq_true p6
       replace q6 := eq_true q6
       go_wp2
       go_roundg k1
       case measure => have := HK1.out; omega
       case rel => exact ⟨(x6_1), (x7_1), (wrap64 (x8_1 + 1)), (by first | rfl | (simp; done) | (simp [*]; done)), (by first | rfl | (simp; done) | (simp [*]; done)), (by first | rfl | (simp; done) | (simp [*]; done)), H', ⟨by have := HK1.out; omega⟩, ⟨bh⟩⟩
     ·
      rw [if_neg c5] at H
      exact absurd H (by simp)
    ·
     rw [if_neg c4] at H
     have c4b0 : decide (x8_1 < (a1.size : Int)) = false := decide_eq_false c4
     clear c4
     (first | rw [c4b0] | (simp only [i64_w, i32_w]; rw [c4b0]) | skip)
     have H' := Aside0.mk H
     clear H
     go_wp2
     go_meet
     case rel => exact ⟨_, (x6_1), (x7_1), (by first | rfl | (simp; done) | (simp [*]; done)), (by first | rfl | (simp; done) | (simp [*]; done)), H', ⟨by have := HK1.out; first | omega | exact Nat.le_refl _⟩, ⟨bh⟩⟩
 case rest =>
  clear HC3
  try clear c1
  try clear p2
  try clear c4
  try clear c4b0
  try clear c5
  try clear c5b0
  try clear p6
  try clear q6
  try clear hx6
  try clear c7
  try clear c7b0
  try clear c7b1
  try clear c8
  try clear c8b0
  try clear c9
  try clear c9b0
  try clear c9b1
  try clear c11
  try clear c11b0
  try clear c11b1
  try clear c12
  try clear c12b0
  try clear c12b1
  try clear p2
  try clear p6
  try clear q6
  obtain ⟨kq, x6_2, x7_2, rfl, rfl, HA, HJ2, HB⟩ := hcut
  cases kq with
  | zero => exact absurd HA.out (by simp [spec_Key.j1])
  | succ kj2 =>
   have H := HA.out
   clear HA
   simp only [spec_Key.j1] at H
   obtain ⟨⟨t101, t102⟩, A130, H⟩ := Option.bind_eq_some_iff.mp H
   try dsimp only at H
   have A13 := Aside0.mk A130
   clear A130
   have HC14 := Aside0.mk H
   clear H
   go_upto_region 10 with (first | ((with_reducible refine gate_callee (f := 13) rfl ?_); refine goesL_ (some 32) rfl rfl Tryz.func13 (by kernel_rfl) rfl #[.string x6_2] rfl (by (try simp only [List.map_toArray, List.map_cons, List.map_nil]); first | done | rfl | (simp only [ne_nil_isEmpty]; rfl) | (simp only [List.length_drop, List.length_take]; rfl)) ?_; (with_reducible refine (spec_NormalPath.calls kj2 x6_2 t101 t102 _ A13.out).mono ?_); rintro e w15 ⟨rfl, hb⟩; refine ⟨_, rfl, ?_⟩; replace HB := Aside0.mk (below_step bh hb); (try clear hb); (try clear hb2); (try clear hk); (try clear hi)))
   (try simp only [Act.put, List.setIfInBounds_toArray, List.set_cons_zero, List.set_cons_succ])
   go_cut [41] (fun v41 wc => ∃ (kq : Nat) (x41_13 : Bool), v41 = .bool x41_13 ∧ Aside0 (spec_Key.j2 kq a0 x7_2 t101 x41_13 = some (r1, r2)) ∧ Aside0 (kq ≤ kj2) ∧ Aside0 (Below w.heap.size w wc))
   case first =>
    have H := HC14.out
    clear HC14
    by_cases c16 : t102 = true
    ·
     subst c16
     rw [if_pos rfl] at H
     replace H := Option.bind_eq_some_iff.mp H
     obtain ⟨t103, A170, H⟩ := H
     replace H : (spec_Key.j2 kj2 a0 x7_2 t101 (!t103)) = some (r1, r2) := H
     have A17 := Aside0.mk A170
     clear A170
     have H' := Aside0.mk H
     clear H
     go_wp2_with (first | (go_at_call 14; (with_reducible refine (spec_TokenOk.calls kj2 a0 t103 _ A17.out).mono ?_); rintro e w18 ⟨rfl, hb⟩; replace HB := Aside0.mk (below_step bh hb); (try clear hb); (try clear hb2); (try clear hk); (try clear hi)))
     go_meet
     case rel => exact ⟨_, (!t103), (by first | rfl | (simp; done) | (simp [*]; done)), H', ⟨by have := HJ2.out; first | omega | exact Nat.le_refl _⟩, ⟨bh⟩⟩
    ·
     replace c16 := Bool.eq_false_iff.mpr c16
     subst c16
     have H1 : (spec_Key.j2 kj2 a0 x7_2 t101 true) = some (r1, r2) := by rw [if_neg (show ¬ (false = true) by decide)] at H; exact H
     clear H
     have H := H1
     clear H1
     have H' := Aside0.mk H
     clear H
     go_wp2
     go_meet
     case rel => exact ⟨_, (true), (by first | rfl | (simp; done) | (simp [*]; done)), H', ⟨by have := HJ2.out; first | omega | exact Nat.le_refl _⟩, ⟨bh⟩⟩
   case rest =>
    clear HC14
    try clear c1
    try clear p2
    try clear c4
    try clear c4b0
    try clear c5
    try clear c5b0
    try clear p6
    try clear q6
    try clear hx6
    try clear c7
    try clear c7b0
    try clear c7b1
    try clear c8
    try clear c8b0
    try clear c9
    try clear c9b0
    try clear c9b1
    try clear c11
    try clear c11b0
    try clear c11b1
    try clear c12
    try clear c12b0
    try clear c12b1
    try clear c13
    try clear c16
    try clear p2
    try clear p6
    try clear q6
    obtain ⟨kq, x41_13, rfl, HA, HJ13, HB⟩ := hcut
    cases kq with
    | zero => exact absurd HA.out (by simp [spec_Key.j2])
    | succ kj13 =>
     have H := HA.out
     clear HA
     simp only [spec_Key.j2] at H
     by_cases c19 : x41_13 = true
     ·
      subst c19
      have H1 : (some ((⟨#[]⟩ : ByteArray), false)) = some (r1, r2) := by rw [if_pos rfl] at H; exact H
      clear H
      have H := H1
      clear H1
      simp only [Option.some.injEq, Prod.mk.injEq] at H
      obtain ⟨rfl, rfl⟩ := H
      go_wp2
      go_ret2
      exact ⟨er, bh⟩
     ·
      replace c19 := Bool.eq_false_iff.mpr c19
      subst c19
      rw [if_neg (show ¬ (false = true) by decide)] at H
      obtain ⟨t104, A200, H⟩ := Option.bind_eq_some_iff.mp H
      try dsimp only at H
      have A20 := Aside0.mk A200
      clear A200
      by_cases c21 : t104.toList = ([] : List UInt8)
      ·
       rw [if_pos c21] at H
       have c21b0 : (t104.toList == ([] : List UInt8)) = true := beq_iff_eq.mpr c21
       have c21b1 : (t104.toList != ([] : List UInt8)) = false := bne_eq_false_iff_eq.mpr c21
       clear c21
       obtain ⟨t105, A220, H⟩ := Option.bind_eq_some_iff.mp H
       try dsimp only at H
       have A22 := Aside0.mk A220
       clear A220
       by_cases c23 : t105.size + t101.size ≤ 9223372036854775807
       ·
        rw [if_pos c23] at H
        have c23b0 := eq_true c23
        have c23b1 : decide (t105.size + t101.size ≤ 9223372036854775807) = true := decide_eq_true c23
        try have c23b2 : (9223372036854775807 < t105.size + t101.size) = False := eq_false (Nat.not_lt.2 c23)
        simp only [Option.some.injEq, Prod.mk.injEq] at H
        obtain ⟨rfl, rfl⟩ := H
        go_wp2_with (first | ((with_reducible refine gate_callee (f := 11) rfl ?_); refine goesL_ (some 43) rfl rfl Tryz.func11 (by kernel_rfl) rfl #[.string x7_2] rfl (by (try simp only [List.map_toArray, List.map_cons, List.map_nil]); first | done | rfl | (simp only [ne_nil_isEmpty]; rfl) | (simp only [List.length_drop, List.length_take]; rfl)) ?_; (with_reducible refine (spec_SortedQuery.calls kj13 x7_2 t104 _ A20.out).mono ?_); rintro e w24 ⟨rfl, hb⟩; refine ⟨_, rfl, ?_⟩; replace HB := Aside0.mk (below_step bh hb); (try clear hb); (try clear hb2); (try clear hk); (try clear hi)) | ((with_reducible refine gate_callee (f := 15) rfl ?_); refine goesL_ (some 51) rfl rfl Tryz.func15 (by kernel_rfl) rfl #[.string a0] rfl (by (try simp only [List.map_toArray, List.map_cons, List.map_nil]); first | done | rfl | (simp only [ne_nil_isEmpty]; rfl) | (simp only [List.length_drop, List.length_take]; rfl)) ?_; (with_reducible refine (spec_Lower.calls a0 t105 _ A22.out).mono ?_); rintro e w25 ⟨rfl, hb⟩; refine ⟨_, rfl, ?_⟩; replace HB := Aside0.mk (below_step bh hb); (try clear hb); (try clear hb2); (try clear hk); (try clear hi)))
        go_ret2
        exact ⟨er, bh⟩
       ·
        rw [if_neg c23] at H
        exact absurd H (by simp)
      ·
       rw [if_neg c21] at H
       have c21b0 : (t104.toList == ([] : List UInt8)) = false := beq_eq_false_iff_ne.mpr c21
       have c21b1 : (t104.toList != ([] : List UInt8)) = true := bne_iff_ne.mpr c21
       by_cases c26 : t101.size + 1 ≤ 9223372036854775807
       ·
        rw [if_pos c26] at H
        have c26b0 := eq_true c26
        have c26b1 : decide (t101.size + 1 ≤ 9223372036854775807) = true := decide_eq_true c26
        try have c26b2 : (9223372036854775807 < t101.size + 1) = False := eq_false (Nat.not_lt.2 c26)
        by_cases c27 : (t101 ++ (⟨#[63]⟩ : ByteArray)).size + t104.size ≤ 9223372036854775807
        ·
         rw [if_pos c27] at H
         have c27b0 := eq_true c27
         have c27b1 : decide ((t101 ++ (⟨#[63]⟩ : ByteArray)).size + t104.size ≤ 9223372036854775807) = true := decide_eq_true c27
         try have c27b2 : (9223372036854775807 < (t101 ++ (⟨#[63]⟩ : ByteArray)).size + t104.size) = False := eq_false (Nat.not_lt.2 c27)
         try have c27n3 := by have z_ := c27b2; simp only [ByteArray.size_append', ByteArray.size_mk', List.size_toArray, List.length_cons, List.length_nil, Nat.zero_add, Nat.reduceAdd] at z_; exact z_
         obtain ⟨t106, A280, H⟩ := Option.bind_eq_some_iff.mp H
         try dsimp only at H
         have A28 := Aside0.mk A280
         clear A280
         by_cases c29 : t106.size + ((t101 ++ (⟨#[63]⟩ : ByteArray)) ++ t104).size ≤ 9223372036854775807
         ·
          rw [if_pos c29] at H
          have c29b0 := eq_true c29
          have c29b1 : decide (t106.size + ((t101 ++ (⟨#[63]⟩ : ByteArray)) ++ t104).size ≤ 9223372036854775807) = true := decide_eq_true c29
          try have c29b2 : (9223372036854775807 < t106.size + ((t101 ++ (⟨#[63]⟩ : ByteArray)) ++ t104).size) = False := eq_false (Nat.not_lt.2 c29)
          try have c29n3 := by have z_ := c29b2; simp only [ByteArray.size_append', ByteArray.size_mk', List.size_toArray, List.length_cons, List.length_nil, Nat.zero_add, Nat.reduceAdd] at z_; exact z_
          simp only [Option.some.injEq, Prod.mk.injEq] at H
          obtain ⟨rfl, rfl⟩ := H
          go_wp2_with (first | ((with_reducible refine gate_callee (f := 11) rfl ?_); refine goesL_ (some 43) rfl rfl Tryz.func11 (by kernel_rfl) rfl #[.string x7_2] rfl (by (try simp only [List.map_toArray, List.map_cons, List.map_nil]); first | done | rfl | (simp only [ne_nil_isEmpty]; rfl) | (simp only [List.length_drop, List.length_take]; rfl)) ?_; (with_reducible refine (spec_SortedQuery.calls kj13 x7_2 t104 _ A20.out).mono ?_); rintro e w30 ⟨rfl, hb⟩; refine ⟨_, rfl, ?_⟩; replace HB := Aside0.mk (below_step bh hb); (try clear hb); (try clear hb2); (try clear hk); (try clear hi)) | ((with_reducible refine gate_callee (f := 15) rfl ?_); refine goesL_ (some 51) rfl rfl Tryz.func15 (by kernel_rfl) rfl #[.string a0] rfl (by (try simp only [List.map_toArray, List.map_cons, List.map_nil]); first | done | rfl | (simp only [ne_nil_isEmpty]; rfl) | (simp only [List.length_drop, List.length_take]; rfl)) ?_; (with_reducible refine (spec_Lower.calls a0 t106 _ A28.out).mono ?_); rintro e w31 ⟨rfl, hb⟩; refine ⟨_, rfl, ?_⟩; replace HB := Aside0.mk (below_step bh hb); (try clear hb); (try clear hb2); (try clear hk); (try clear hi)))
          go_ret2
          exact ⟨er, bh⟩
         ·
          rw [if_neg c29] at H
          exact absurd H (by simp)
        ·
         rw [if_neg c27] at H
         exact absurd H (by simp)
       ·
        rw [if_neg c26] at H
        exact absurd H (by simp)
end Go.Proofs.YtonimccihcodnaaGreatDoor.P
