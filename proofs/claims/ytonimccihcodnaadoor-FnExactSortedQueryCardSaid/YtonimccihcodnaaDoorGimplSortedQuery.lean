/-
  impl.SortedQuery: a query's parts that are not empty, in order. Condition: the library's MaxLen holds some number.
-/
import Derived.Test.YtonimccihcodnaaDoorShelf
import Derived.Shelf.SlicesE.DeleteFunc
import Derived.Shelf.Sort.Plain
import Derived.Test.YtonimccihcodnaaDoorP0
import Derived.Test.YtonimccihcodnaaDoorGSplit
import Derived.Test.YtonimccihcodnaaDoorXW
namespace Go.Proofs.YtonimccihcodnaaDoor.P
set_option linter.unusedVariables false
set_option linter.unusedSimpArgs false
open Go.RowKit Go.Lib Go.Sort Go.Proofs.YtonimccihcodnaaDoorW.PrintWords Go.Proofs.YtonimccihcodnaaDoorW.PrintLast Go.Proofs.YtonimccihcodnaaDoorW.PrintMore
attribute [local go_sem] max2_int min2_int max_two min_two max_three min_three max_four min_four

def keptL (s : ByteArray) : List (List UInt8) := ((Lib.splitB ⟨#[38]⟩ 0 (Lib.countB s ⟨#[38]⟩) s).map (·.data.toList)).filter fun x => !(x == [])
def sortedL (s : ByteArray) : List (List UInt8) := (keptL s).mergeSort fun x y => decide (x ≤ y)
def impl_SortedQuery.f (a0 : ByteArray) : Option ByteArray := if a0.size > 200 then some ⟨#[]⟩ else some ⟨(Lib.join (sortedL a0) [38]).toArray⟩
theorem query_empty (l : List UInt8) (w : World) : Calls Tryd.prog 38 #[.string ⟨l.toArray⟩] w fun e w' => e = .returned (.bool (l == [])) ∧ w' = w := by
  cases l with
  | nil =>
    have h : (⟨([] : List UInt8).toArray⟩ : ByteArray).toList.isEmpty = true := by rw [ByteArray.toList_eq]; rfl
    go_enter Tryd.func38, Tryd.ntmps38
    go_wp2
    go_ret
    exact ⟨rfl, rfl⟩
  | cons b l =>
    have h : (⟨(b :: l).toArray⟩ : ByteArray).toList.isEmpty = false := by rw [ByteArray.toList_eq]; rfl
    have h2 : ((⟨(b :: l).toArray⟩ : ByteArray).toList == ([] : List UInt8)) = false := by rw [ByteArray.toList_eq]; rfl
    go_enter Tryd.func38, Tryd.ntmps38
    go_wp2
    go_ret
    exact ⟨by simp_all, rfl⟩
theorem query_gives (l : List UInt8) (W : World) : FnGives Tryd.prog 38 #[] #[encStr l] (.bool (l == [])) W := by
  refine (query_empty l W).mono ?_
  rintro e w' ⟨rfl, rfl⟩
  exact ⟨rfl, 0, rfl⟩
theorem join_len_le (l : List (List UInt8)) (sep : List UInt8) : (Lib.join l sep).length ≤ (l.map fun x => x.length + sep.length).sum := by
  cases l with
  | nil => exact Nat.zero_le _
  | cons a l =>
    rw [Lib.join_cons, List.length_append, List.map_cons, List.sum_cons]
    have : (Lib.joinTail sep l).length = (l.map fun x => x.length + sep.length).sum := by
      unfold Lib.joinTail
      induction l with
      | nil => rfl
      | cons b l ih => rw [List.map_cons, List.flatten_cons, List.length_append, ih, List.map_cons, List.sum_cons, List.length_append]; omega
    omega
theorem sum_filter_le (p : List UInt8 → Bool) (g : List UInt8 → Nat) (l : List (List UInt8)) : ((l.filter p).map g).sum ≤ (l.map g).sum := by
  induction l with
  | nil => exact Nat.le_refl _
  | cons a l ih =>
    rw [List.filter_cons]
    split
    · simp only [List.map_cons, List.sum_cons]; omega
    · simp only [List.map_cons, List.sum_cons]; omega
theorem splitK_sum (sep : List UInt8) : ∀ (k : Nat) (s : List UInt8), ((Lib.splitK sep 0 k s).map List.length).sum ≤ s.length
  | 0, s => by simp [Lib.splitK]
  | k + 1, s => by
    unfold Lib.splitK
    split
    · simp
    · simp only [List.map_cons, List.sum_cons, List.length_take]
      have := splitK_sum sep k (s.drop ((Lib.index s sep).toNat + sep.length))
      rw [List.length_drop] at this
      omega
theorem sum_one (l : List (List UInt8)) : (l.map fun x => x.length + 1).sum = (l.map List.length).sum + l.length := by
  induction l with
  | nil => rfl
  | cons a l ih => simp only [List.map_cons, List.sum_cons, List.length_cons, ih]; omega
theorem sorted_len (s : ByteArray) (hs : s.size ≤ 200) : (Lib.join (sortedL s) [38]).length ≤ 401 := by
  have h1 := join_len_le (sortedL s) [38]
  have h2 : ((sortedL s).map fun x => x.length + ([38] : List UInt8).length).sum = ((keptL s).map fun x => x.length + 1).sum := ((List.mergeSort_perm _ _).map _).sum_nat
  have h3 := sum_filter_le (fun x => !(x == [])) (fun x => x.length + 1) ((Lib.splitB ⟨#[38]⟩ 0 (Lib.countB s ⟨#[38]⟩) s).map (·.data.toList))
  rw [sum_one ((Lib.splitB ⟨#[38]⟩ 0 (Lib.countB s ⟨#[38]⟩) s).map (·.data.toList)), List.length_map, Lib.splitB_data] at h3
  have h4 := splitK_sum (⟨#[38]⟩ : ByteArray).data.toList (Lib.countB s ⟨#[38]⟩) s.data.toList
  have h5 := Lib.splitB_length_le ⟨#[38]⟩ 0 (Lib.countB s ⟨#[38]⟩) s
  have h6 := Lib.countB_le ⟨#[38]⟩ (by decide) s.size s (Nat.le_refl _)
  have h7 : s.data.toList.length = s.size := Array.length_toList
  unfold keptL at h2
  rw [Lib.splitB_data] at h2
  omega
theorem below_put {w W : World} (h : Below w.heap.size w W) (enc : List UInt8 → Value) (n b off : Nat) (d : Array (List UInt8)) (hb : w.heap.size ≤ b) : Below w.heap.size w (putRow enc (Go.Sort.ahead W n) b off d) := by
  refine ⟨h.os, h.tape, h.output, by rw [size_putRow]; exact h.size, fun j hj => ?_⟩
  rw [← h.block j hj]
  show (W.heap.modify b _)[j]? = _
  rw [Array.getElem?_modify, if_neg (by omega)]
theorem below_growS {w W : World} (h : Below w.heap.size w W) (os : Array Obj) : Below w.heap.size w (grow W os) := by
  refine ⟨h.os, h.tape, h.output, by rw [size_grow]; exact Nat.le_trans h.size (Nat.le_add_right _ _), fun j hj => ?_⟩
  rw [← h.block j hj]
  exact heap_grow_old W os (Nat.lt_of_lt_of_le hj h.size)
theorem arr_get (l : List (List UInt8)) (j : Nat) (h : j < l.length) : l.toArray[j]! = l[j] := by
  rw [getElem!_pos l.toArray j (by simpa using h)]
  simp
theorem holds_prefix {W : World} {b : Nat} {a r : List (List UInt8)} (h : Holds encStr W b 0 (a ++ r).toArray) : Holds encStr W b 0 a.toArray := by
  intro j hj
  have hj1 : j < a.length := by simpa using hj
  have h2 := h j (by rw [List.size_toArray, List.length_append]; omega)
  rw [arr_get _ _ (by rw [List.length_append]; omega), List.getElem_append_left hj1] at h2
  rw [arr_get _ _ hj1]
  exact h2
theorem cells_of_holds {W : World} {b : Nat} {l : List (List UInt8)} (h : Holds encStr W b 0 l.toArray) (j : Nat) (x : ByteArray) (hx : (l.map fun l => (⟨l.toArray⟩ : ByteArray))[j]? = some x) : W.cell? ⟨b, 0 + j, none⟩ = some (.string x) := by
  rw [List.getElem?_map] at hx
  obtain ⟨y, hy, rfl⟩ := Option.map_eq_some_iff.1 hx
  have hj : j < l.length := (List.getElem?_eq_some_iff.1 hy).1
  rw [(h j (by simpa using hj)).1, arr_get _ _ hj, (List.getElem?_eq_some_iff.1 hy).2]
set_option maxHeartbeats 4000000 in
set_option maxRecDepth 100000 in
theorem impl_SortedQuery.calls (a0 : ByteArray) (r : ByteArray) (w : World) (hX : XW 1 w) (h : impl_SortedQuery.f a0 = some r) :
    Calls Tryd.prog 13 #[.string a0] w fun e w' => e = .returned (.string r) ∧ Below w.heap.size w w' := by
  unfold impl_SortedQuery.f at h
  by_cases hz : a0.size > 200
  · rw [if_pos hz] at h
    obtain rfl := Option.some.inj h
    have hz1 : decide ((200 : Int) < (a0.size : Int)) = true := decide_eq_true (by omega)
    have hz2 : decide (200 < a0.size) = true := decide_eq_true hz
    go_enter Tryd.func13, Tryd.ntmps13
    go_wp2
    go_ret
    exact ⟨rfl, Below.refl _ _⟩
  · rw [if_neg hz] at h
    obtain rfl := Option.some.inj h
    have hz1 : decide ((200 : Int) < (a0.size : Int)) = false := decide_eq_false (by omega)
    have hz2 : decide (200 < a0.size) = false := decide_eq_false hz
    have hlen := sorted_len a0 (by omega)
    obtain ⟨v, hv⟩ := hX.maxLen rfl
    have CS := Tryd.strings_Split a0 ⟨#[38]⟩ v w (by omega) hv (by decide)
    have hl := split_len a0 ⟨#[38]⟩ (by decide)
    have h6 := Lib.countB_le ⟨#[38]⟩ (by decide) a0.size a0 (Nat.le_refl _)
    rw [← hl] at CS
    have hkeep : keptL a0 = ((Lib.splitB ⟨#[38]⟩ 0 (Lib.countB a0 ⟨#[38]⟩) a0).map (·.data.toList)).filter fun x => !(x == []) := rfl
    have hlen2 : (Lib.splitB ⟨#[38]⟩ 0 (Lib.countB a0 ⟨#[38]⟩) a0).length ≤ 201 := by omega
    generalize Lib.splitB ⟨#[38]⟩ 0 (Lib.countB a0 ⟨#[38]⟩) a0 = ps at CS hkeep hlen2
    clear hl
    have hmap : (ps.map Value.string).toArray = (((ps.map (·.data.toList)).map encStr).toArray) := by
      rw [List.map_map]
      congr 1
    obtain ⟨d, hd⟩ : ∃ d : Array (List UInt8), d = (ps.map (·.data.toList)).toArray := ⟨_, rfl⟩
    have hdl : d.toList = ps.map (·.data.toList) := by rw [hd]
    have hds : d.size = ps.length := by rw [hd]; simp
    have H1 : Holds encStr (w.alloc (.cells (ps.map Value.string).toArray 9)) w.heap.size 0 d := by
      intro j hj
      have hb := blk_new w (.cells (ps.map Value.string).toArray 9 (0, 0))
      refine ⟨?_, blk_frozen hb _⟩
      rw [blk_cell hb, hmap, hd, Nat.zero_add]
      have hj2 : j < (ps.map (·.data.toList)).length := by rw [List.length_map]; omega
      rw [List.getElem?_toArray, List.getElem?_map, List.getElem?_eq_getElem hj2, Option.map_some]
      congr 2
      rw [getElem!_pos _ _ (by simpa using hj2)]
      rfl
    have CD := fun W (hW : Holds encStr W w.heap.size 0 d) => Tryd.slices_DeleteFunc (α := List UInt8) encStr (fun _ => rfl) (fun l => l == []) 38 #[] (enters_ Tryd.func38 (by kernel_rfl) rfl) [] (fun _ => by kernel_rfl) w.heap.size 0 d.size d W (fun W' x _ => query_gives x W') (fun n os dk x _ => query_gives x _) hW (by omega) (Nat.le_refl _)
    rw [hdl, ← hkeep, hds] at CD
    have hkl : (keptL a0).length ≤ ps.length := by
      rw [hkeep]
      have := List.length_filter_le (fun x => !(x == [])) (ps.map (·.data.toList))
      rwa [List.length_map] at this
    have CD1 := (CD _ H1).mono (R' := fun e w2 => e = .returned (.slice (some ⟨w.heap.size, 0, none⟩) (keptL a0).length ps.length) ∧ (Holds encStr w2 w.heap.size 0 (keptL a0).toArray ∧ Below w.heap.size w w2 ∧ w.heap.size < w2.heap.size)) (by
      rintro e w2 ⟨rfl, q, rfl⟩
      have hsz : ((keptL a0) ++ List.replicate (ps.length - (keptL a0).length) []).toArray.size = d.size := by rw [hds]; simp; omega
      have HP := holds_putRow encStr (Go.Sort.ahead (w.alloc (.cells (ps.map Value.string).toArray 9)) q) w.heap.size 0 d ((keptL a0) ++ List.replicate (ps.length - (keptL a0).length) []).toArray H1 hsz
      exact ⟨rfl, holds_prefix HP, below_put (below_alloc (Below.refl _ _) _) _ _ _ _ _ (Nat.le_refl _), by rw [size_putRow]; show _ < (w.alloc _).heap.size; simp⟩)
    have hsl : (sortedL a0).length = (keptL a0).length := (List.mergeSort_perm _ _).length_eq
    have CO := fun W (hW : Holds encStr W w.heap.size 0 (keptL a0).toArray) (hB : Below w.heap.size w W) (hb : w.heap.size < W.heap.size) => (Tryd.slices_Sort_string w.heap.size 0 ps.length (keptL a0) W hW hb (by omega)).mono (R' := fun e w3 => e = .returned (.tuple #[]) ∧ ((∀ (j : Nat) x, ((sortedL a0).map fun l => (⟨l.toArray⟩ : ByteArray))[j]? = some x → w3.cell? ⟨w.heap.size, 0 + j, none⟩ = some (.string x)) ∧ Below w.heap.size w w3 ∧ w.heap.size < w3.heap.size)) (by
      rintro e w3 ⟨rfl, n, os, rfl⟩
      have hsz : ((keptL a0).mergeSort (fun x y => decide (x ≤ y))).toArray.size = (keptL a0).toArray.size := by simp
      have HP := holds_putRow encStr (Go.Sort.ahead W n) w.heap.size 0 (keptL a0).toArray ((keptL a0).mergeSort (fun x y => decide (x ≤ y))).toArray hW hsz
      have HG := holds_grow encStr _ os w.heap.size 0 _ (by rw [size_putRow]; exact hb) HP
      exact ⟨rfl, cells_of_holds HG, below_growS (below_put hB _ _ _ _ _ (Nat.le_refl _)) _, by rw [size_grow, size_putRow]; show _ < W.heap.size + _; omega⟩)
    have CJ := fun W (hc : ∀ (j : Nat) x, ((sortedL a0).map fun l => (⟨l.toArray⟩ : ByteArray))[j]? = some x → W.cell? ⟨w.heap.size, 0 + j, none⟩ = some (.string x)) (hb : w.heap.size < W.heap.size) => Tryd.strings_Join w.heap.size 0 ps.length ((sortedL a0).map fun l => (⟨l.toArray⟩ : ByteArray)) ⟨#[38]⟩ W hc hb (by rw [List.length_map]; omega) (by rw [List.length_map]; omega) (by
      rw [List.map_map]
      have : (List.map ((fun x => x.data.toList) ∘ fun l => (⟨l.toArray⟩ : ByteArray)) (sortedL a0)) = sortedL a0 := (List.map_congr_left fun _ _ => rfl).trans (List.map_id _)
      rw [this]
      show (Lib.join (sortedL a0) [38]).length ≤ _
      omega)
    have hjm : (((sortedL a0).map fun l => (⟨l.toArray⟩ : ByteArray)).map (·.data.toList)) = sortedL a0 := by
      rw [List.map_map]
      exact (List.map_congr_left fun _ _ => rfl).trans (List.map_id _)
    have hjl : ((sortedL a0).map fun l => (⟨l.toArray⟩ : ByteArray)).length = (keptL a0).length := by rw [List.length_map, hsl]
    rw [hjl, hjm] at CJ
    have hj3 : (⟨#[38]⟩ : ByteArray).data.toList = [38] := rfl
    rw [hj3] at CJ
    generalize ((sortedL a0).map fun l => (⟨l.toArray⟩ : ByteArray)) = sl at CO CJ
    generalize (keptL a0).length = kn at CD1 CO CJ
    have XD := Aside0.mk CD1
    have XO := Aside0.mk CO
    have XJ := Aside0.mk CJ
    have XS := Aside0.mk CS
    clear CD CD1 CO CJ CS hjm hjl hj3 hsl hkl H1 hdl hds hmap hkeep hlen hlen2 h6 hv
    go_enter Tryd.func13, Tryd.ntmps13
    go_wp2_with (first
      | (go_at_call 33; refine XS.out.mono ?_; rintro e w1 ⟨rfl, rfl⟩)
      | (go_at_call 37; refine XD.out.mono ?_; rintro e w2 ⟨rfl, hh2, hb2, hs2⟩; have K2 := Aside0.mk (And.intro hh2 (And.intro hb2 hs2)); clear hh2 hb2 hs2)
      | (go_at_call 39; refine (XO.out _ K2.out.1 K2.out.2.1 K2.out.2.2).mono ?_; rintro e w3 ⟨rfl, hh3, hb3, hs3⟩; have K3 := Aside0.mk (And.intro hh3 (And.intro hb3 hs3)); clear hh3 hb3 hs3)
      | (go_at_call 34; refine (XJ.out _ K3.out.1 K3.out.2.2).mono ?_; rintro e w4 ⟨rfl, hb4⟩))
    go_ret
    exact ⟨rfl, below_then K3.out.2.1 K3.out.2.1.size hb4⟩
end Go.Proofs.YtonimccihcodnaaDoor.P
