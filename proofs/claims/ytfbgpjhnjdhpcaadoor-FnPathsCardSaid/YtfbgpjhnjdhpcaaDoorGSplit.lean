/-
  strings.Split, as the printed callers take it. Conditions: a text shorter than the model's bound, a separator that is not empty; the library's MaxLen holds some number.
-/
import Derived.Test.YtfbgpjhnjdhpcaaDoorShelf
import Derived.Lib.SplitLaws
import Derived.Test.YtfbgpjhnjdhpcaaDoorP0
import Derived.Test.YtfbgpjhnjdhpcaaDoorXW
namespace Go.Proofs.YtfbgpjhnjdhpcaaDoor.P
set_option linter.unusedVariables false
open Go.RowKit Go.Proofs.YtfbgpjhnjdhpcaaDoorW.PrintWords Go.Proofs.YtfbgpjhnjdhpcaaDoorW.PrintLast Go.Proofs.YtfbgpjhnjdhpcaaDoorW.PrintMore

theorem reps_strings (w : World) (base : Nat) (ok : Nat → Prop) (xs : List ByteArray) : Reps (Kd.string.M w base ok) 1 xs (xs.map Value.string) := by
  refine ⟨by rw [List.length_map, Nat.mul_one], fun j p hp => ?_⟩
  show ((xs.map Value.string).drop (j * 1)).take 1 = [.string p]
  rw [Nat.mul_one, ← List.map_drop, ← List.map_take]
  have hlt : j < xs.length := (List.getElem?_eq_some_iff.1 hp).1
  rw [List.drop_eq_getElem_cons hlt, (List.getElem?_eq_some_iff.1 hp).2]
  rfl
/-- A row of texts of the call's own, as the world holds it. -/
theorem own_strings {w : World} {base b c : Nat} {e : TypeId} {cur : Array Value} {xs : List ByteArray} (hb : base ≤ b) (hh : w.heap[b]? = some (.cells cur e (0, 0))) (hn : xs.length ≤ c) (hc : c ≤ 9223372036854775807) (hs : cur.size = c) (ht : cur.toList.take xs.length = xs.map Value.string) :
    Kd.R Kd.string e w base (fun _ => True) (.slice (some ⟨b, 0, none⟩) xs.length c) xs :=
  ⟨fun _ _ => trivial, xs.map Value.string, ⟨by show (xs.map Value.string).length = xs.length * 1; rw [List.length_map, Nat.mul_one], .inr ⟨b, c, cur, rfl, hb, hh, hn, hc, by show cur.size = c * 1; rw [hs, Nat.mul_one], by show cur.toList.take (xs.length * 1) = _; rw [Nat.mul_one, ht]⟩⟩, reps_strings _ _ _ _⟩
def strings_Split.f (a0 a1 : ByteArray) : Option (List ByteArray) :=
  if a0.size < 4294967281 ∧ 1 ≤ a1.size then some (Lib.splitB a1 0 (Lib.countB a0 a1) a0) else none
theorem split_len (s sep : ByteArray) (h1 : 1 ≤ sep.size) : (Lib.splitB sep 0 (Lib.countB s sep) s).length = Lib.countB s sep + 1 := Lib.splitB_all sep h1 0 _ s rfl
theorem strings_Split.calls (a0 a1 : ByteArray) (r : List ByteArray) (w : World) (hX : XW 1 w) (h : strings_Split.f a0 a1 = some r) :
    Calls Tryd.prog 45 #[.string a0, .string a1] w fun e w' => ∃ v0_ : Value, e = .returned (v0_) ∧ Kd.R Kd.string 9 w' w.heap.size (fun _ => True) v0_ r ∧ Below w.heap.size w w' := by
  unfold strings_Split.f at h
  split at h
  · rename_i hs
    obtain rfl := Option.some.inj h
    obtain ⟨v, hv⟩ := hX.maxLen rfl
    refine (Tryd.strings_Split a0 a1 v w hs.1 hv hs.2).mono ?_
    rintro e w' ⟨rfl, rfl⟩
    have hl := split_len a0 a1 hs.2
    refine ⟨_, rfl, ?_, below_alloc (Below.refl _ _) _⟩
    rw [← hl]
    exact own_strings (Nat.le_refl _) (blk_new w _) (Nat.le_refl _) (by rw [hl]; have := Lib.countB_le a1 hs.2 a0.size a0 (Nat.le_refl _); omega) (by simp) (by rw [List.toList_toArray, List.take_of_length_le (by simp)])
  · cases h
end Go.Proofs.YtfbgpjhnjdhpcaaDoor.P
