/-
  slices.IndexFunc and slices.ContainsFunc over texts, at a predicate that may make memory. Condition: the predicate answers at each text of the list.
-/
import Derived.Test.YtfebipiccpbdbaaDoorProg
import Derived.Below
import Derived.WalkKit
import Derived.BigCall
import Derived.Shelf.SlicesQ.IndexFunc
import Derived.Lib.Hide
import Derived.Test.YtfebipiccpbdbaaDoorP0
namespace Go.Proofs.YtfebipiccpbdbaaDoor.P
set_option linter.unusedVariables false
set_option linter.unusedSimpArgs false
open Go.RowKit Go.Proofs.YtfebipiccpbdbaaDoorW.PrintWords Go.Proofs.YtfebipiccpbdbaaDoorW.PrintLast Go.Proofs.YtfebipiccpbdbaaDoorW.PrintMore

set_option maxHeartbeats 2000000 in
theorem ifString (g : Nat) (lb : Array Value) (p : ByteArray → Bool) (eg : ∀ args w, (callFunc g args).run Tryd.prog w = .ok (.enter g args) w) (A0 : Option Addr) (c0 : Nat) (l0 : List ByteArray) (w : World)
    (hr0 : Kd.C Kd.string w A0 l0.length l0)
    (hp : ∀ (W : World) (x : ByteArray), x ∈ l0 → Below w.heap.size w W → Calls Tryd.prog g (#[.string x] ++ lb) W fun e w' => e = .returned (.bool (p x)) ∧ Below w.heap.size w w') :
    Calls Tryd.prog 116 #[.slice A0 l0.length c0, .func (.func g) #[] lb] w fun e w' => (∃ i : Int, e = .returned (.int .i64 i) ∧ (decide (i ≥ 0) = l0.any p)) ∧ Below w.heap.size w w' := by
  obtain ⟨_, hbig, hcells⟩ := hr0
  have hcell : Aside (∀ j (hj : j < l0.length), ∃ ad, A0 = some ad ∧ ∀ W, Below w.heap.size w W → W.cell? (ad.add (j * 1)) = some (.string (l0[j]'hj))) := by
    intro j hj
    obtain ⟨ad, e, hc⟩ := hcells (by omega)
    obtain ⟨c, hl, hK, hi⟩ := hc j _ (List.getElem?_eq_getElem hj)
    obtain rfl : c = [.string (l0[j]'hj)] := hK
    have h0 := hi 0 _ rfl
    refine ⟨ad, e, fun W hW => (hW.cell (World.block_lt_of_cell? w _ h0)).trans h0⟩
  clear hcells
  have HP : Aside (∀ (W : World) (x : ByteArray), x ∈ l0 → Below w.heap.size w W → Calls Tryd.prog g (#[.string x] ++ lb) W fun e w' => e = .returned (.bool (p x)) ∧ Below w.heap.size w w') := hp
  clear hp
  go_enter Tryd.func116, Tryd.ntmps116
  go_wp2
  go_loopg [5, 8] l0.length (fun gg _ s8 wr => ∃ kk : Nat, kk ≤ l0.length ∧ l0.length - kk ≤ gg ∧ s8 = .int .i64 kk ∧ Aside (Below w.heap.size w wr) ∧ Aside ((l0.take kk).any p = false))
  case atStart => exact ⟨0, Nat.zero_le _, by omega, rfl, Below.refl _ w, by show (l0.take 0).any p = false; rfl⟩
  case round =>
    obtain ⟨kk, hkk, hg, rfl, BW, A⟩ := hrel
    by_cases hlt : kk < l0.length
    · have hltz : (kk : Int) < (l0.length : Int) := by omega
      obtain ⟨ad, e, hc⟩ := hcell.out kk hlt
      subst e
      have l2 := hc wr BW.out
      rw [Nat.mul_one] at l2
      have hcall := HP.out wr (l0[kk]'hlt) (List.getElem_mem hlt) BW.out
      have htk : Aside ((l0.take (kk + 1)).any p = p (l0[kk]'hlt)) := by
        show (l0.take (kk + 1)).any p = p (l0[kk]'hlt)
        rw [List.take_add_one, List.getElem?_eq_getElem hlt, List.any_append, A.out]
        simp
      have hall : Aside (p (l0[kk]'hlt) = true → l0.any p = true) := fun h => List.any_eq_true.2 ⟨_, List.getElem_mem hlt, h⟩
      clear hc hcell HP
      generalize l0[kk]'hlt = y at l2 hcall htk hall
      cases hq : p y with
      | true =>
        rw [hq] at hcall
        go_wp2_with (go_at_fn g; refine hcall.mono ?_; rintro e w' ⟨rfl, hb'⟩)
        go_ret
        exact ⟨⟨_, rfl, by rw [hall.out hq]; exact decide_eq_true (by omega)⟩, hb'⟩
      | false =>
        rw [hq] at hcall
        go_wp2_with (go_at_fn g; refine hcall.mono ?_; rintro e w' ⟨rfl, hb'⟩)
        go_roundg (l0.length - (kk + 1))
        case measure => omega
        case rel => exact ⟨kk + 1, by omega, by omega, by go_num, hb', (show Aside _ from by rw [htk.out]; exact hq)⟩
    · have hltz : ¬ (kk : Int) < (l0.length : Int) := by omega
      have : kk = l0.length := by omega
      subst this
      have hA := A.out
      rw [List.take_length] at hA
      go_wp2
      go_ret
      exact ⟨⟨_, rfl, by first | omega | (rw [hA]; rfl)⟩, BW.out⟩
set_option maxHeartbeats 2000000 in
theorem cfString (g : Nat) (lb : Array Value) (p : ByteArray → Bool) (eg : ∀ args w, (callFunc g args).run Tryd.prog w = .ok (.enter g args) w) (A0 : Option Addr) (c0 : Nat) (l0 : List ByteArray) (w : World)
    (hr0 : Kd.C Kd.string w A0 l0.length l0)
    (hp : ∀ (W : World) (x : ByteArray), x ∈ l0 → Below w.heap.size w W → Calls Tryd.prog g (#[.string x] ++ lb) W fun e w' => e = .returned (.bool (p x)) ∧ Below w.heap.size w w') :
    Calls Tryd.prog 97 #[.slice A0 l0.length c0, .func (.func g) #[] lb] w fun e w' => e = .returned (.bool (l0.any p)) ∧ Below w.heap.size w w' := by
  have hI := ifString g lb p eg A0 c0 l0 w hr0 hp
  clear hp hr0
  go_enter Tryd.func97, Tryd.ntmps97
  go_wp2_with (go_at_call 116; refine hI.mono ?_; rintro e w' ⟨⟨i, rfl, hi⟩, hd⟩)
  go_ret
  exact ⟨by first | rw [hi] | simp [hi] | simp [← hi], hd⟩
end Go.Proofs.YtfebipiccpbdbaaDoor.P
