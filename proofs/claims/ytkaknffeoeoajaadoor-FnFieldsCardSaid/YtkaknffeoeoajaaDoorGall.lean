/-
  impl.all, at each predicate that the program hands it: do all bytes of a text meet it? No condition.
-/
import Derived.Test.YtkaknffeoeoajaaDoorShelf
import Derived.Shelf.SlicesE.IndexFunc
import Derived.Lib.ConvBytes
import Derived.Lib.Hide
import Derived.Test.YtkaknffeoeoajaaDoorP0
import Derived.Test.YtkaknffeoeoajaaDoorGIndexByte
import Derived.Test.YtkaknffeoeoajaaDoorPimplTokenOk1
import Derived.Test.YtkaknffeoeoajaaDoorPimplisDigit
import Derived.Test.YtkaknffeoeoajaaDoorPimplisLetter
import Derived.Test.YtkaknffeoeoajaaDoorPimplisVisible
namespace Go.Proofs.YtkaknffeoeoajaaDoor.P
set_option linter.unusedVariables false
set_option linter.unusedSimpArgs false
open Go.RowKit Go.Lib Go.Shelf Go.Proofs.YtkaknffeoeoajaaDoorW.PrintWords Go.Proofs.YtkaknffeoeoajaaDoorW.PrintLast Go.Proofs.YtkaknffeoeoajaaDoorW.PrintMore

/-- The function that 'all' makes out of a predicate g: 'not g'. -/
theorem all_pred (g : Nat) (p : Int → Bool) (B : Nat) (w : World) (hB : B < w.heap.size) (hcell : w.cell? ⟨B, 0, none⟩ = some (.func (.func g) #[] #[]))
    (eg : ∀ args w, (callFunc g args).run Tryd.prog w = .ok (.enter g args) w) (hp : PredAt Tryd.prog g #[] (Value.int .u8) p w) :
    PredAt Tryd.prog 101 #[.pointer (some ⟨B, 0, none⟩)] (Value.int .u8) (fun x => !p x) w := fun W x hb => by
  have hc : W.cell? ⟨B, 0, none⟩ = some (.func (.func g) #[] #[]) := (hb.cell (p := ⟨B, 0, none⟩) hB).trans hcell
  have hcall := hp W x hb
  show Calls Tryd.prog 101 #[.int .u8 x, .pointer (some ⟨B, 0, none⟩)] W _
  unfold FnGives at hcall
  obtain ⟨y, hy⟩ : ∃ y, p x = y := ⟨_, rfl⟩
  rw [hy] at hcall
  have Hy := Lib.hid hy
  clear hy
  go_enter Tryd.func101, Tryd.ntmps101
  go_wp2_with (go_at_fn g; refine hcall.mono ?_; rintro e w' ⟨rfl, q, rfl⟩)
  go_ret
  exact ⟨by rw [Hy.out]; rfl, _, rfl⟩

theorem any_not (l : List Int) (p : Int → Bool) : l.any (fun x => !p x) = !(l.all p) := by
  induction l with
  | nil => rfl
  | cons a l ih => simp [List.any_cons, List.all_cons, ih]
theorem below_bytesWorld {w W : World} (h : Below w.heap.size w W) (hle : w.heap.size ≤ W.heap.size) (e : TypeId) (s : ByteArray) : Below w.heap.size w (bytesWorld W e s) :=
  ⟨h.os, h.tape, h.output, by rw [bytesWorld_size]; omega, fun j hj => (bytesWorld_at_old W e s j (by omega)).trans (h.block j hj)⟩

set_option maxHeartbeats 1000000 in
/-- 'all', of whatever predicate that only reads. -/
theorem all_any (g : Nat) (p : Int → Bool) (s : ByteArray) (w : World)
    (eg : ∀ args w, (callFunc g args).run Tryd.prog w = .ok (.enter g args) w) (hp : PredAt Tryd.prog g #[] (Value.int .u8) p w) (hs : s.size ≤ 9223372036854775807) :
    Calls Tryd.prog 74 #[.string s, .func (.func g) #[] #[]] w fun e w' => e = .returned (.bool ((bytesOf s).all p)) ∧ Below w.heap.size w w' := by
  have eg1 : ∀ args w, (callFunc 101 args).run Tryd.prog w = .ok (.enter 101 args) w := enters_of Tryd.func101 (by kernel_rfl) rfl
  have kc := fun W : World => Lib.run_convert_string_bytes (P := Tryd.prog) W 9 22 5 s Tryd.underlying9 Tryd.underlying22 Tryd.underlying5
  have hB0 : Below w.heap.size w (bytesWorld (w.alloc (.cells #[.func (.func g) #[] #[]] 83)) 5 s) := below_bytesWorld ((Below.refl _ w).alloc (Nat.le_refl _) _) (by simp) 5 s
  have hcon := fun c => AnyE.slices_ContainsFunc Tryd.layCFb (Value.int .u8) (fun x => !p x) 101 #[.pointer (some ⟨w.heap.size, 0, none⟩)] eg1 (w.heap.size + 1) 0 s.size c (bytesOf s) (bytesWorld (w.alloc (.cells #[.func (.func g) #[] #[]] 83)) 5 s)
    (all_pred g p w.heap.size _ (by rw [bytesWorld_size]; simp; omega) (by rw [bytesWorld_old _ _ _ _ (by simp)]; simp) eg (hp.later hB0)) (by rw [bytesOf_length]; exact Nat.le_refl _) hs
    (fun j hj => by
      have hj' : j < s.size := by rw [bytesOf_length] at hj; exact hj
      have h1 := bytesWorld_cell (w.alloc (.cells #[.func (.func g) #[] #[]] 83)) 5 s j hj'
      rw [Nat.zero_add]
      have h2 : (w.alloc (.cells #[.func (.func g) #[] #[]] 83)).heap.size = w.heap.size + 1 := by simp
      rw [h2] at h1
      rw [h1]
      simp [bytesOf, hj'])
  change ∀ c, Calls Tryd.prog 100 _ _ _ at hcon
  have hany : ((bytesOf s).take s.size).any (fun x => !p x) = !((bytesOf s).all p) := by
    rw [List.take_of_length_le (by rw [bytesOf_length]; exact Nat.le_refl _)]
    exact any_not _ _
  rw [hany] at hcon
  have HB := Lib.hid (fun q => below_drewN' hB0 q)
  clear hany hB0
  obtain ⟨y, hy⟩ : ∃ y, (bytesOf s).all p = y := ⟨_, rfl⟩
  rw [hy] at hcon
  have H1 := Lib.hid hy
  clear hy
  go_enter Tryd.func74, Tryd.ntmps74
  go_wp2_with fail
  refine (hcon _).mono ?_
  rintro e w' ⟨rfl, q, rfl⟩
  go_wp2_with fail
  go_ret
  exact ⟨by rw [H1.out]; rfl, HB.out _⟩

theorem tot_ite {α : Type} {c : Prop} [Decidable c] {x y : Option α} (hx : ∃ b, x = some b) (hy : ∃ b, y = some b) : ∃ b, (if c then x else y) = some b := by
  split
  · exact hx
  · exact hy
theorem tot_bind {α β : Type} {x : Option α} {f : α → Option β} (hx : ∃ a, x = some a) (hf : ∀ a, ∃ b, f a = some b) : ∃ b, x.bind f = some b := by
  obtain ⟨a, rfl⟩ := hx
  exact hf a

/-- A printed predicate, as 'PredAt' asks it. -/
theorem predAt_of (g : Nat) (f : Int → Option Bool) (w : World) (ht : ∀ x, ∃ b, f x = some b)
    (hc : ∀ (x : Int) (r : Bool) (W : World), f x = some r → Calls Tryd.prog g #[.int .u8 x] W fun e w' => e = .returned (.bool r) ∧ Drawn0 W w') :
    PredAt Tryd.prog g #[] (Value.int .u8) (fun x => f x == some true) w := fun W x _ => by
  obtain ⟨b, hb⟩ := ht x
  unfold FnGives
  refine (hc x b W hb).mono ?_
  rintro e w' ⟨rfl, q, rfl⟩
  refine ⟨?_, q, rfl⟩
  simp only [hb]
  cases b <;> rfl

theorem total_impl_isVisible (x : Int) : ∃ b, impl_isVisible.f x = some b := by unfold impl_isVisible.f; (repeat' first | exact ⟨_, rfl⟩ | refine tot_ite ?_ ?_ | refine tot_bind ?_ ?_ | intro _ | unfold impl_isDigit.f | unfold impl_isLetter.f | unfold strings_IndexByte.f)
theorem total_impl_isDigit (x : Int) : ∃ b, impl_isDigit.f x = some b := by unfold impl_isDigit.f; (repeat' first | exact ⟨_, rfl⟩ | refine tot_ite ?_ ?_ | refine tot_bind ?_ ?_ | intro _ | unfold impl_isDigit.f | unfold impl_isLetter.f | unfold strings_IndexByte.f)
theorem total_impl_TokenOk_1 (x : Int) : ∃ b, impl_TokenOk_1.f x = some b := by unfold impl_TokenOk_1.f; (repeat' first | exact ⟨_, rfl⟩ | refine tot_ite ?_ ?_ | refine tot_bind ?_ ?_ | intro _ | unfold impl_isDigit.f | unfold impl_isLetter.f | unfold strings_IndexByte.f)

/-- 'all' at the function number a1. -/
def impl_all.f (a0 : ByteArray) (a1 : Nat) : Option Bool :=
  if a0.size ≤ 9223372036854775807 then
    if a1 = 84 then some ((bytesOf a0).all fun c => impl_isVisible.f c == some true) else
    if a1 = 75 then some ((bytesOf a0).all fun c => impl_isDigit.f c == some true) else
    if a1 = 81 then some ((bytesOf a0).all fun c => impl_TokenOk_1.f c == some true) else
    none
  else none
theorem impl_all.calls (a0 : ByteArray) (a1 : Nat) (r : Bool) (w : World) (h : impl_all.f a0 a1 = some r) :
    Calls Tryd.prog 74 #[.string a0, .func (.func a1) #[] #[]] w fun e w' => e = .returned (.bool r) ∧ Below w.heap.size w w' := by
  unfold impl_all.f at h
  split at h
  · rename_i hs
    split at h
    · rename_i e
      subst e
      obtain rfl := Option.some.inj h
      exact all_any _ _ a0 w (enters_of Tryd.func84 (by kernel_rfl) rfl) (predAt_of _ _ w total_impl_isVisible fun x r W hx => impl_isVisible.calls x r W hx) hs
    split at h
    · rename_i e
      subst e
      obtain rfl := Option.some.inj h
      exact all_any _ _ a0 w (enters_of Tryd.func75 (by kernel_rfl) rfl) (predAt_of _ _ w total_impl_isDigit fun x r W hx => impl_isDigit.calls x r W hx) hs
    split at h
    · rename_i e
      subst e
      obtain rfl := Option.some.inj h
      exact all_any _ _ a0 w (enters_of Tryd.func81 (by kernel_rfl) rfl) (predAt_of _ _ w total_impl_TokenOk_1 fun x r W hx => impl_TokenOk_1.calls x r W hx) hs
    · cases h
  · cases h
end Go.Proofs.YtkaknffeoeoajaaDoor.P
