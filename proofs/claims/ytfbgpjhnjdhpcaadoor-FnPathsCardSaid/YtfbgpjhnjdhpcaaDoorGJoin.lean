/-
  strings.Join, as the printed callers take it. Condition: at most 2^46 elements, and bytes in all.
-/
import Derived.Test.YtfbgpjhnjdhpcaaDoorShelf
import Derived.Test.YtfbgpjhnjdhpcaaDoorP0
namespace Go.Proofs.YtfbgpjhnjdhpcaaDoor.P
set_option linter.unusedVariables false
open Go.RowKit Go.Proofs.YtfbgpjhnjdhpcaaDoorW.PrintWords Go.Proofs.YtfbgpjhnjdhpcaaDoorW.PrintLast Go.Proofs.YtfbgpjhnjdhpcaaDoorW.PrintMore

def joinB (l : List ByteArray) (sep : ByteArray) : List UInt8 := Lib.join (l.map (·.data.toList)) sep.data.toList
def strings_Join.f (l0 : List ByteArray) (a1 : ByteArray) : Option ByteArray :=
  if l0.length ≤ 70368744177664 ∧ (joinB l0 a1).length ≤ 70368744177664 then some ⟨(joinB l0 a1).toArray⟩ else none
theorem strings_Join.calls (A0 : Option Addr) (c0 : Nat) (l0 : List ByteArray) (a1 : ByteArray) (r : ByteArray) (w : World) (hr0 : Kd.C Kd.string w A0 l0.length l0) (hc0 : l0.length ≤ c0) (h : strings_Join.f l0 a1 = some r) :
    Calls Tryd.prog 46 #[.slice A0 l0.length c0, .string a1] w fun e w' => e = .returned (.string r) ∧ Below w.heap.size w w' := by
  unfold strings_Join.f at h
  split at h
  case isFalse => cases h
  rename_i hs
  obtain rfl := Option.some.inj h
  by_cases h0 : l0.length = 0
  · obtain rfl : l0 = [] := List.eq_nil_of_length_eq_zero h0
    refine (Tryd.strings_Join_none A0 c0 a1 w).mono ?_
    rintro e w' ⟨rfl, rfl⟩
    exact ⟨rfl, Below.refl _ _⟩
  · have hat : ∀ (j : Nat) x, l0[j]? = some x → ∃ ad, A0 = some ad ∧ w.cell? (ad.add j) = some (.string x) := by
      intro j x hx
      have hlt : j < l0.length := (List.getElem?_eq_some_iff.1 hx).1
      obtain ⟨ad, e, hc⟩ := Kd.at_string hr0 (j : Int) (by omega) (by omega)
      refine ⟨ad, e, ?_⟩
      rw [Int.toNat_natCast] at hc
      rw [hc]
      simp [rdOf, List.getD_eq_getElem?_getD, hx]
    obtain ⟨x, hx⟩ : ∃ x, l0[0]? = some x := ⟨l0[0]'(by omega), List.getElem?_eq_getElem (by omega)⟩
    obtain ⟨ad, rfl, hc⟩ := hat 0 x hx
    obtain ⟨b, o, s⟩ := ad
    have hs0 : s = none := by
      cases s with
      | none => rfl
      | some s => simp [World.cell?, Addr.add] at hc; split at hc <;> simp at hc
    subst hs0
    refine (Tryd.strings_Join b o c0 l0 a1 w ?_ (World.block_lt_of_cell? w _ hc) (by omega) hc0 (by have := hs.2; unfold joinB at this; omega)).mono ?_
    · intro j y hy
      obtain ⟨ad, e, hc⟩ := hat j y hy
      obtain rfl := Option.some.inj e
      by_cases hj : j = 0
      · subst hj; exact hc
      · have e : (({ block := b, off := o, spot := none } : Addr).add j) = ⟨b, o + j, none⟩ := by unfold Addr.add; rw [if_neg hj]
        rw [e] at hc
        exact hc
    rintro e w' ⟨rfl, hb⟩
    exact ⟨rfl, hb⟩
end Go.Proofs.YtfbgpjhnjdhpcaaDoor.P
