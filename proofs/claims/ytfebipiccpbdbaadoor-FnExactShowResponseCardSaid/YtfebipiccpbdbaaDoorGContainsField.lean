/-
  slices.ContainsFunc over fields, at the predicate that the program hands it: does one of the fields meet it? No condition.
-/
import Derived.Test.YtfebipiccpbdbaaDoorShelf
import Derived.Shelf.SlicesQ.IndexFunc
import Derived.Test.YtfebipiccpbdbaaDoorP0
import Derived.Test.YtfebipiccpbdbaaDoorPimplFieldsOk1
namespace Go.Proofs.YtfebipiccpbdbaaDoor.P
set_option linter.unusedVariables false
set_option linter.unusedSimpArgs false
open Go.RowKit Go.Lib Go.Shelf Go.Proofs.YtfebipiccpbdbaaDoorW.PrintWords Go.Proofs.YtfebipiccpbdbaaDoorW.PrintLast Go.Proofs.YtfebipiccpbdbaaDoorW.PrintMore

theorem ifField_empty (A0 : Option Addr) (c0 : Nat) (fv : Value) (w : World) : Calls Tryd.prog 86 #[.slice A0 0 c0, fv] w fun e w' => e = .returned (.int .i64 (-1)) ∧ w' = w := by
  go_enter Tryd.func86, Tryd.ntmps86
  go_wp2
  go_loopg [5, 8] 0 (fun _ _ s8 wr => s8 = .int .i64 0 ∧ wr = w)
  case atStart => exact ⟨rfl, rfl⟩
  case round =>
    obtain ⟨rfl, rfl⟩ := hrel
    go_wp2
    go_ret
    exact ⟨rfl, rfl⟩
theorem cfField_empty (A0 : Option Addr) (c0 : Nat) (fv : Value) (w : World) : Calls Tryd.prog 50 #[.slice A0 0 c0, fv] w fun e w' => e = .returned (.bool false) ∧ w' = w := by
  have h := ifField_empty A0 c0 fv w
  go_enter Tryd.func50, Tryd.ntmps50
  go_wp2_with (go_at_call 86; refine h.mono ?_; rintro e w' ⟨rfl, rfl⟩)
  go_ret
  exact ⟨rfl, rfl⟩
/-- A predicate over fields, told at those fields at which its function answers. -/
theorem cfField_any (g : Nat) (f : S67 → Option Bool) (eg : ∀ args w, (callFunc g args).run Tryd.prog w = .ok (.enter g args) w)
    (hf : ∀ (x : S67) (r : Bool) (w : World), f x = some r → Calls Tryd.prog g #[.agg #[.string x.f0, .string x.f1]] w fun e w' => e = .returned (.bool r) ∧ Below w.heap.size w w')
    (A0 : Option Addr) (c0 : Nat) (l0 : List S67) (w : World) (hr0 : Kd.C k67 w A0 l0.length l0) (hall : ∀ x ∈ l0, (f x).isSome = true) :
    Calls Tryd.prog 50 #[.slice A0 l0.length c0, .func (.func g) #[] #[]] w fun e w' => e = .returned (.bool (l0.any fun x => f x == some true)) ∧ Below w.heap.size w w' := by
  by_cases h0 : l0 = []
  · subst h0
    refine (cfField_empty A0 c0 _ w).mono ?_
    rintro e w' ⟨rfl, rfl⟩
    exact ⟨rfl, Below.refl _ _⟩
  · obtain ⟨_, hbig, hcells⟩ := hr0
    have hpos : 0 < l0.length := List.length_pos_iff.2 h0
    obtain ⟨ad, rfl, hc⟩ := hcells hpos
    let α := (x : S67) ×' (f x).isSome = true
    let zs : List α := l0.attach.map fun x => ⟨x.1, hall x.1 x.2⟩
    have hzl : zs.length = l0.length := by simp [zs]
    have hzat : ∀ j (hj : j < zs.length), (zs[j]'hj).1 = l0[j]'(by rw [← hzl]; exact hj) := by
      intro j hj
      simp [zs]
    haveI : Inhabited α := ⟨zs[0]'(by rw [hzl]; exact hpos)⟩
    have hcell : ∀ j (hj : j < l0.length), w.cell? (ad.add (j * 2)) = some (.string (l0[j]'hj).f0) ∧ w.cell? (ad.add (j * 2 + 1)) = some (.string (l0[j]'hj).f1) := by
      intro j hj
      obtain ⟨c, hl, hK, hi⟩ := hc j _ (List.getElem?_eq_getElem hj)
      obtain rfl := k67_open hK
      exact ⟨hi 0 _ rfl, hi 1 _ rfl⟩
    have hsp : ad.spot = none ∧ ad.block < w.heap.size := by
      have h := (hcell 0 hpos).1
      unfold World.cell? at h
      have hb : (ad.add (0 * 2)).block = ad.block := rfl
      rw [hb] at h
      cases hh : w.heap[ad.block]? with
      | none => rw [hh] at h; cases h
      | some o =>
        refine ⟨?_, (Array.getElem?_eq_some_iff.1 hh).1⟩
        rw [hh] at h
        cases o with
        | cells c t z =>
          have hs : (ad.add (0 * 2)).spot = ad.spot := rfl
          rw [hs] at h
          cases hq : ad.spot with
          | none => rfl
          | some q => rw [hq] at h; simp at h
        | _ => cases h
    obtain ⟨b, off, sp⟩ := ad
    obtain ⟨rfl, hlt⟩ : sp = none ∧ b < w.heap.size := hsp
    have hcon := AnyQ.slices_ContainsFunc Tryd.layCFf 2 (by intro w; kernel_rfl) (by intro w; kernel_rfl) (fun x : α => [.string x.1.f0, .string x.1.f1]) (fun _ => rfl) (fun x : α => (f x.1) == some true) g #[] eg b off l0.length c0 zs w
      (fun W x hb => by
        obtain ⟨x, hx⟩ := x
        obtain ⟨r, hr⟩ := Option.isSome_iff_exists.1 hx
        refine (hf x r W hr).mono ?_
        rintro e w' ⟨rfl, hd⟩
        refine ⟨?_, hb.trans (hd.mono hb.size)⟩
        show _ = Ending.returned (Value.bool (f x == some true))
        rw [hr]
        cases r <;> rfl)
      (by rw [hzl]; exact Nat.le_refl _) hbig hlt
      (fun j hj i v hv => by
        have hj' : j < l0.length := by rw [← hzl]; exact hj
        have e : zs[j]! = zs[j]'hj := getElem!_pos zs j hj
        rw [e, hzat j hj] at hv
        obtain ⟨h1, h2⟩ := hcell j hj'
        match i, hv with
        | 0, hv =>
          obtain rfl := Option.some.inj hv
          rw [Go.Lib.add_plain] at h1
          exact h1
        | 1, hv =>
          obtain rfl := Option.some.inj hv
          rw [Go.Lib.add_plain] at h2
          exact h2)
    refine hcon.mono ?_
    rintro e w' ⟨rfl, hd⟩
    refine ⟨?_, hd⟩
    congr 2
    rw [List.take_of_length_le (by rw [hzl]; exact Nat.le_refl _)]
    simp [zs, List.any_map, Function.comp_def]
def impl_Field.f (l0 : List S67) (a1 : Nat) : Option Bool :=
  if a1 = 51 ∧ l0.all (fun x => (impl_FieldsOk_1.f x.f0 x.f1).isSome) = true then some (l0.any fun x => impl_FieldsOk_1.f x.f0 x.f1 == some true) else none
theorem impl_Field.calls (A0 : Option Addr) (c0 : Nat) (l0 : List S67) (a1 : Nat) (r : Bool) (w : World) (hr0 : Kd.C k67 w A0 l0.length l0) (hc0 : l0.length ≤ c0) (h : impl_Field.f l0 a1 = some r) :
    Calls Tryd.prog 50 #[.slice A0 l0.length c0, .func (.func a1) #[] #[]] w fun e w' => e = .returned (.bool r) ∧ Below w.heap.size w w' := by
  unfold impl_Field.f at h
  split at h
  · rename_i hc
    obtain ⟨rfl, ha⟩ := hc
    obtain rfl := Option.some.inj h
    exact cfField_any 51 (fun x => impl_FieldsOk_1.f x.f0 x.f1) (enters_of Tryd.func51 (by kernel_rfl) rfl) (fun x r w h => impl_FieldsOk_1.calls x.f0 x.f1 r w h) A0 c0 l0 w hr0 (List.all_eq_true.1 ha)
  · cases h
end Go.Proofs.YtfebipiccpbdbaaDoor.P
