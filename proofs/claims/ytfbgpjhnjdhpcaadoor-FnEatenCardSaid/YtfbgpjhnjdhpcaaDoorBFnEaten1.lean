/- Functions of the Go program as Lean functions, and proofs about them, merged out of this session's texts by its program bundle.py; conditions: those that each theorem states. -/
import Derived.Handed
import Derived.HandedShaped
import Derived.Lib.ConvBytes
import Derived.Lib.Hide
import Derived.Shelf.SlicesE.IndexFunc
import Derived.Test.YtfbgpjhnjdhpcaaDoorGParseInt
import Derived.Test.YtfbgpjhnjdhpcaaDoorP0
import Derived.Test.YtfbgpjhnjdhpcaaDoorPimplisDigit
import Derived.Test.YtfbgpjhnjdhpcaaDoorPimplisHex
import Derived.Test.YtfbgpjhnjdhpcaaDoorPimplisLetter
import Derived.Test.YtfbgpjhnjdhpcaaDoorPspecChunkerOk
import Derived.Test.YtfbgpjhnjdhpcaaDoorPspecDrawEat
import Derived.Test.YtfbgpjhnjdhpcaaDoorPspecEatAll
import Derived.Test.YtfbgpjhnjdhpcaaDoorPspecl1New
import Derived.Test.YtfbgpjhnjdhpcaaDoorPspecl1Once
import Derived.Test.YtfbgpjhnjdhpcaaDoorPspecl5DrawAny
import Derived.Test.YtfbgpjhnjdhpcaaDoorPspecl5DrawText
import Derived.Test.YtfbgpjhnjdhpcaaDoorPspecl5Eat
import Derived.Test.YtfbgpjhnjdhpcaaDoorShelf
import Derived.Test.YtfbgpjhnjdhpcaaDoorXA
import Derived.Test.YtfbgpjhnjdhpcaaDoorXB
import Derived.Test.YtfbgpjhnjdhpcaaDoorXW
namespace Go.Proofs.YtfbgpjhnjdhpcaaDoor.RowAid
open Go
variable {H : Type} {enc : TypeId × Value → H}
theorem handed_both {a : Assume} {C : Checked} {os : Os} {f : FuncId} {fn : Func} {s : ChangeSpec} {conds : List PathCond} {apart fresh handsOn again : Bool} {X : World → Array Value → Prop}
    (hX : ∀ (w w' : World) (args : Array Value), w.heap = w'.heap → X w args → X w' args)
    (own : ownKnob C.prog.godebug = none) (started : os.Started) (noInit : C.prog.inits.idxOf? f = none) (hfn : C.prog.funcs[f]? = some fn)
    (witness : ∃ (w : World) (tape : Tape) (i : Input), w.os = os ∧ (w.forCall tape i).Shaped C.prog ∧ i.vars = [] ∧ Input.okWide C.prog (w.forCall tape i) .any w.heap.size f i ∧
      ((s.pre enc C.prog fn conds apart (w.forCall tape i).memory i.args ∧ X (w.forCall tape i).memory i.args) ∧ sizedMet enc C.prog fn (OpenSpec.ofChange s) apart (w.forCall tape i).memory i.args) ∧ a.holds C.prog (lone (Frame.enter C.prog f i.args .normal) [] (w.forCall tape i)))
    (contract : ∀ (W : World) (base : Nat) (args : Array Value) (ds gs : List (DataW H)) (before : List MemPlace),
      (∀ (j : Nat) t v, fn.params[j]? = some t → args[j]? = some v → Value.okWide C.prog W .any base t v) →
      DataW.Whole enc C.prog fn.params.toList s.vars apart W args.toList ds gs before →
      conds.all (PathCond.test C.prog ⟨fn.params.toList, ds, s.plain.varTypes C.prog, gs⟩) = true →
      (DataW.weightsEach C.prog (fn.params.toList ++ s.plain.varTypes C.prog) (ds ++ gs)).all (· ≤ reachBytes) = true → X W args → W.ShapedOpen C.prog →
      a.holds C.prog (lone (Frame.enter C.prog f args .normal) [] W) →
      Calls C.prog f args W fun e W' => ∃ v, e = .returned v ∧ s.post enc C.prog fn apart fresh handsOn again W args v W') :
    ReturnsInHanded a C os f .any (fun w args => (s.pre enc C.prog fn conds apart w args ∧ X w args) ∧ sizedMet enc C.prog fn (OpenSpec.ofChange s) apart w args) (s.post enc C.prog fn apart fresh handsOn again) := by
  refine returnsInHanded_of_calls own started noInit witness ?_
  intro w tape i _ hsh _ hok hpre hholds
  obtain ⟨_, _, _, fn', hfn', _, _, _, _, hval⟩ := hok
  have e : fn' = fn := Option.some.inj (hfn'.symm.trans hfn)
  subst e
  obtain ⟨⟨⟨ds, gs, before, hw, hc⟩, hx⟩, hz⟩ := hpre
  have hw' := DataW.Whole.of_heap (w' := w.forCall tape i) (by rfl) hw
  refine (contract (w.forCall tape i) w.heap.size i.args ds gs before hval hw' hc (hz.weights hw) (hX _ _ _ (by rfl) hx) hsh hholds).mono fun e W' ⟨v, he, hp⟩ => ?_
  subst he
  exact ChangeSpec.post_blind hp
end Go.Proofs.YtfbgpjhnjdhpcaaDoor.RowAid
namespace Go.Proofs.YtfbgpjhnjdhpcaaDoor.P
open Go.RowKit Go.Proofs.YtfbgpjhnjdhpcaaDoorW.PrintWords Go.Proofs.YtfbgpjhnjdhpcaaDoorW.PrintLast Go.Proofs.YtfbgpjhnjdhpcaaDoorW.PrintMore
attribute [local go_sem] max2_int min2_int max_two min_two max_three min_three max_four min_four   -- for this text's walks alone
set_option linter.unusedVariables false
set_option linter.unusedSimpArgs false

theorem eqA35 (d : Nat) (w : World) (x0 y0 : Int) (x1 y1 : Int) (x2 y2 : ByteArray) (x3 y3 : ByteArray) :
    (Op.equalIn (d + 2) 35 (.agg #[.int .i64 x0, .int .i64 x1, .string x2, .string x3]) (.agg #[.int .i64 y0, .int .i64 y1, .string y2, .string y3])).run Tryd.prog w = .ok (x0 == y0 && (x1 == y1 && (x2.toList == y2.toList && (x3.toList == y3.toList)))) w := by
  refine eqA_of Tryd.underlying35 (by kernel_rfl) ?_
  refine eqf_cons (by rfl) (by go_simp; rfl) (by go_simp; rfl) (by go_simp) ?_
  refine eqf_cons (by rfl) (by go_simp; rfl) (by go_simp; rfl) (by go_simp) ?_
  refine eqf_cons (by rfl) (by go_simp; rfl) (by go_simp; rfl) (by go_simp) ?_
  exact eqf_last (by rfl) (by go_simp; rfl) (by go_simp; rfl) (by go_simp)
end Go.Proofs.YtfbgpjhnjdhpcaaDoor.P
namespace Go.Proofs.YtfbgpjhnjdhpcaaDoor.P
open Go.RowKit Go.Proofs.YtfbgpjhnjdhpcaaDoorW.PrintWords Go.Proofs.YtfbgpjhnjdhpcaaDoorW.PrintLast Go.Proofs.YtfbgpjhnjdhpcaaDoorW.PrintMore

def strings_IndexByte.f (a0 : ByteArray) (a1 : Int) : Option Int := some (Lib.indexByte a0.data.toList a1.toNat.toUInt8)
theorem strings_IndexByte.calls (a0 : ByteArray) (a1 : Int) (r : Int) (w : World) (h : strings_IndexByte.f a0 a1 = some r) :
    Calls Tryd.prog 66 #[.string a0, .int .u8 a1] w fun e w' => e = .returned (.int .i64 r) ∧ Drawn0 w w' := by
  obtain rfl := Option.some.inj h
  refine (Go.Proofs.Tryd.strings_IndexByte a0 a1 w).mono ?_
  rintro e w' ⟨rfl, rfl⟩
  exact ⟨rfl, Drawn0.refl _⟩
end Go.Proofs.YtfbgpjhnjdhpcaaDoor.P
namespace Go.Proofs.YtfbgpjhnjdhpcaaDoor.P
set_option linter.unusedVariables false
set_option linter.unusedSimpArgs false
open Go.RowKit Go.Lib Go.Shelf Go.Proofs.YtfbgpjhnjdhpcaaDoorW.PrintWords Go.Proofs.YtfbgpjhnjdhpcaaDoorW.PrintLast Go.Proofs.YtfbgpjhnjdhpcaaDoorW.PrintMore

/-- The function that 'all' makes out of a predicate g: 'not g'. -/
theorem all_pred (g : Nat) (p : Int → Bool) (B : Nat) (w : World) (hB : B < w.heap.size) (hcell : w.cell? ⟨B, 0, none⟩ = some (.func (.func g) #[] #[]))
    (eg : ∀ args w, (callFunc g args).run Tryd.prog w = .ok (.enter g args) w) (hp : PredAt Tryd.prog g #[] (Value.int .u8) p w) :
    PredAt Tryd.prog 79 #[.pointer (some ⟨B, 0, none⟩)] (Value.int .u8) (fun x => !p x) w := fun W x hb => by
  have hc : W.cell? ⟨B, 0, none⟩ = some (.func (.func g) #[] #[]) := (hb.cell (p := ⟨B, 0, none⟩) hB).trans hcell
  have hcall := hp W x hb
  show Calls Tryd.prog 79 #[.int .u8 x, .pointer (some ⟨B, 0, none⟩)] W _
  unfold FnGives at hcall
  obtain ⟨y, hy⟩ : ∃ y, p x = y := ⟨_, rfl⟩
  rw [hy] at hcall
  have Hy := Lib.hid hy
  clear hy
  go_enter Tryd.func79, Tryd.ntmps79
  go_wp2_with (go_at_fn g; refine hcall.mono ?_; rintro e w' ⟨rfl, q, rfl⟩)
  go_ret
  exact ⟨by rw [Hy.out]; rfl, _, rfl⟩

theorem any_not (l : List Int) (p : Int → Bool) : l.any (fun x => !p x) = !(l.all p) := by
  induction l with
  | nil => rfl
  | cons a l ih => simp [List.any_cons, List.all_cons, ih]
theorem below_bytesWorld {w W : World} (h : Below w.heap.size w W) (hle : w.heap.size ≤ W.heap.size) (e : TypeId) (s : ByteArray) : Below w.heap.size w (bytesWorld W e s) :=
  ⟨h.os, h.tape, h.output, by rw [bytesWorld_size]; omega, fun j hj => (bytesWorld_at_old W e s j (by omega)).trans (h.block j hj)⟩

set_option maxHeartbeats 1000000 in
/-- 'all', of whatever predicate that only reads. -/
theorem all_any (g : Nat) (p : Int → Bool) (s : ByteArray) (w : World)
    (eg : ∀ args w, (callFunc g args).run Tryd.prog w = .ok (.enter g args) w) (hp : PredAt Tryd.prog g #[] (Value.int .u8) p w) (hs : s.size ≤ 9223372036854775807) :
    Calls Tryd.prog 61 #[.string s, .func (.func g) #[] #[]] w fun e w' => e = .returned (.bool ((bytesOf s).all p)) ∧ Below w.heap.size w w' := by
  have eg1 : ∀ args w, (callFunc 79 args).run Tryd.prog w = .ok (.enter 79 args) w := enters_of Tryd.func79 (by kernel_rfl) rfl
  have kc := fun W : World => Lib.run_convert_string_bytes (P := Tryd.prog) W 9 22 5 s Tryd.underlying9 Tryd.underlying22 Tryd.underlying5
  have hB0 : Below w.heap.size w (bytesWorld (w.alloc (.cells #[.func (.func g) #[] #[]] 49)) 5 s) := below_bytesWorld ((Below.refl _ w).alloc (Nat.le_refl _) _) (by simp) 5 s
  have hcon := fun c => AnyE.slices_ContainsFunc Tryd.layCFb (Value.int .u8) (fun x => !p x) 79 #[.pointer (some ⟨w.heap.size, 0, none⟩)] eg1 (w.heap.size + 1) 0 s.size c (bytesOf s) (bytesWorld (w.alloc (.cells #[.func (.func g) #[] #[]] 49)) 5 s)
    (all_pred g p w.heap.size _ (by rw [bytesWorld_size]; simp; omega) (by rw [bytesWorld_old _ _ _ _ (by simp)]; simp) eg (hp.later hB0)) (by rw [bytesOf_length]; exact Nat.le_refl _) hs
    (fun j hj => by
      have hj' : j < s.size := by rw [bytesOf_length] at hj; exact hj
      have h1 := bytesWorld_cell (w.alloc (.cells #[.func (.func g) #[] #[]] 49)) 5 s j hj'
      rw [Nat.zero_add]
      have h2 : (w.alloc (.cells #[.func (.func g) #[] #[]] 49)).heap.size = w.heap.size + 1 := by simp
      rw [h2] at h1
      rw [h1]
      simp [bytesOf, hj'])
  change ∀ c, Calls Tryd.prog 78 _ _ _ at hcon
  have hany : ((bytesOf s).take s.size).any (fun x => !p x) = !((bytesOf s).all p) := by
    rw [List.take_of_length_le (by rw [bytesOf_length]; exact Nat.le_refl _)]
    exact any_not _ _
  rw [hany] at hcon
  have HB := Lib.hid (fun q => below_drewN' hB0 q)
  clear hany hB0
  obtain ⟨y, hy⟩ : ∃ y, (bytesOf s).all p = y := ⟨_, rfl⟩
  rw [hy] at hcon
  have H1 := Lib.hid hy
  clear hy
  go_enter Tryd.func61, Tryd.ntmps61
  go_wp2_with fail
  refine (hcon _).mono ?_
  rintro e w' ⟨rfl, q, rfl⟩
  go_wp2_with fail
  go_ret
  exact ⟨by rw [H1.out]; rfl, HB.out _⟩

theorem tot_ite {α : Type} {c : Prop} [Decidable c] {x y : Option α} (hx : ∃ b, x = some b) (hy : ∃ b, y = some b) : ∃ b, (if c then x else y) = some b := by
  split
  · exact hx
  · exact hy
theorem tot_bind {α β : Type} {x : Option α} {f : α → Option β} (hx : ∃ a, x = some a) (hf : ∀ a, ∃ b, f a = some b) : ∃ b, x.bind f = some b := by
  obtain ⟨a, rfl⟩ := hx
  exact hf a

/-- A printed predicate, as 'PredAt' asks it. -/
theorem predAt_of (g : Nat) (f : Int → Option Bool) (w : World) (ht : ∀ x, ∃ b, f x = some b)
    (hc : ∀ (x : Int) (r : Bool) (W : World), f x = some r → Calls Tryd.prog g #[.int .u8 x] W fun e w' => e = .returned (.bool r) ∧ Drawn0 W w') :
    PredAt Tryd.prog g #[] (Value.int .u8) (fun x => f x == some true) w := fun W x _ => by
  obtain ⟨b, hb⟩ := ht x
  unfold FnGives
  refine (hc x b W hb).mono ?_
  rintro e w' ⟨rfl, q, rfl⟩
  refine ⟨?_, q, rfl⟩
  simp only [hb]
  cases b <;> rfl

theorem total_impl_isHex (x : Int) : ∃ b, impl_isHex.f x = some b := by unfold impl_isHex.f; (repeat' first | exact ⟨_, rfl⟩ | refine tot_ite ?_ ?_ | refine tot_bind ?_ ?_ | intro _ | unfold impl_isDigit.f | unfold impl_isLetter.f | unfold strings_IndexByte.f)
theorem total_impl_isDigit (x : Int) : ∃ b, impl_isDigit.f x = some b := by unfold impl_isDigit.f; (repeat' first | exact ⟨_, rfl⟩ | refine tot_ite ?_ ?_ | refine tot_bind ?_ ?_ | intro _ | unfold impl_isDigit.f | unfold impl_isLetter.f | unfold strings_IndexByte.f)

/-- 'all' at the function number a1. -/
def impl_all.f (a0 : ByteArray) (a1 : Nat) : Option Bool :=
  if a0.size ≤ 9223372036854775807 then
    if a1 = 62 then some ((bytesOf a0).all fun c => impl_isHex.f c == some true) else
    if a1 = 65 then some ((bytesOf a0).all fun c => impl_isDigit.f c == some true) else
    none
  else none
theorem impl_all.calls (a0 : ByteArray) (a1 : Nat) (r : Bool) (w : World) (h : impl_all.f a0 a1 = some r) :
    Calls Tryd.prog 61 #[.string a0, .func (.func a1) #[] #[]] w fun e w' => e = .returned (.bool r) ∧ Below w.heap.size w w' := by
  unfold impl_all.f at h
  split at h
  · rename_i hs
    split at h
    · rename_i e
      subst e
      obtain rfl := Option.some.inj h
      exact all_any _ _ a0 w (enters_of Tryd.func62 (by kernel_rfl) rfl) (predAt_of _ _ w total_impl_isHex fun x r W hx => impl_isHex.calls x r W hx) hs
    split at h
    · rename_i e
      subst e
      obtain rfl := Option.some.inj h
      exact all_any _ _ a0 w (enters_of Tryd.func65 (by kernel_rfl) rfl) (predAt_of _ _ w total_impl_isDigit fun x r W hx => impl_isDigit.calls x r W hx) hs
    · cases h
  · cases h
end Go.Proofs.YtfbgpjhnjdhpcaaDoor.P
namespace Go.Proofs.YtfbgpjhnjdhpcaaDoor.P
open Go.RowKit Go.Proofs.YtfbgpjhnjdhpcaaDoorW.PrintWords Go.Proofs.YtfbgpjhnjdhpcaaDoorW.PrintLast Go.Proofs.YtfbgpjhnjdhpcaaDoorW.PrintMore
attribute [local go_sem] max2_int min2_int max_two min_two max_three min_three max_four min_four   -- for this text's walks alone
set_option linter.unusedVariables false
set_option linter.unusedSimpArgs false

/-! ### impl_within: function 60 -/
def impl_within.f (a0 : Int) (a1 : Int) (a2 : Int) : Option (Bool) := if a0 ≥ a1 then (some (decide (a0 ≤ a2))) else (some false)
set_option maxHeartbeats 8000000 in
set_option maxRecDepth 100000 in
theorem impl_within.calls (a0 : Int) (a1 : Int) (a2 : Int) (r : Bool) (w : World) (h : impl_within.f a0 a1 a2 = some r) :
  Calls Tryd.prog 60 #[.int .i64 a0, .int .i64 a1, .int .i64 a2] w fun e w' => e = .returned (.bool r) ∧ Drawn0 w w' := by
 have H : (if a0 ≥ a1 then (some (decide (a0 ≤ a2))) else (some false)) = some r := h
 clear h
 by_cases c4 : a0 ≥ a1
 ·
  rw [if_pos c4] at H
  have c4b0 : decide (a1 ≤ a0) = true := decide_eq_true c4
  clear c4
  obtain rfl := Option.some.inj H
  go_enter Tryd.func60, Tryd.ntmps60
  go_wp2
  go_ret
  exact ⟨by first | rfl | (simp; done) | (simp [*]; done), by repeat (first | exact Drawn0.refl _ | apply Drawn0.step)⟩
 ·
  rw [if_neg c4] at H
  have c4b0 : decide (a1 ≤ a0) = false := decide_eq_false c4
  clear c4
  obtain rfl := Option.some.inj H
  go_enter Tryd.func60, Tryd.ntmps60
  go_wp2
  go_ret
  exact ⟨by first | rfl | (simp; done) | (simp [*]; done), by repeat (first | exact Drawn0.refl _ | apply Drawn0.step)⟩
/-! ### impl_ChunkerOk: function 29 -/
def impl_ChunkerOk.j0 : Nat → Bool → Int → Int → ByteArray → ByteArray → Option (Bool)
 | 0, _, _, _, _, _ => none
 | k + 1, x39, x102000, x102001, x102002, x102003 => if x39 = true then (some false) else (if x102001 > 0 then (if x102000 = 2 then (if x102001 = 0 then (if x102000 = 3 then (some false) else (if x102002.toList = ([] : List UInt8) then (some true) else (some (x102000 == 1)))) else (if x102002.toList = ([] : List UInt8) then (some true) else (some (x102000 == 1)))) else (if x102000 = 3 then (if x102001 = 0 then (some false) else (if x102002.toList = ([] : List UInt8) then (some true) else (some (x102000 == 1)))) else (some false))) else (if x102001 = 0 then (if x102000 = 3 then (some false) else (if x102002.toList = ([] : List UInt8) then (some true) else (some (x102000 == 1)))) else (if x102002.toList = ([] : List UInt8) then (some true) else (some (x102000 == 1)))))
def impl_ChunkerOk.f (k : Nat) (a0_0 : Int) (a0_1 : Int) (a0_2 : ByteArray) (a0_3 : ByteArray) : Option (Bool) := (impl_within.f a0_0 1 9).bind fun t102 => (if t102 = true then ((impl_within.f a0_1 0 4000).bind fun t103 => (if t103 = true then (if (a0_2.size : Int) > 13 then (impl_ChunkerOk.j0 k true a0_0 a0_1 a0_2 a0_3) else ((impl_all.f a0_2 62).bind fun t104 => (if t104 = true then (if (a0_3.size : Int) > 4000 then (impl_ChunkerOk.j0 k true a0_0 a0_1 a0_2 a0_3) else (impl_ChunkerOk.j0 k (decide ((wrap64 (a0_1 + (a0_3.size : Int))) > 4000)) a0_0 a0_1 a0_2 a0_3)) else (impl_ChunkerOk.j0 k true a0_0 a0_1 a0_2 a0_3)))) else (impl_ChunkerOk.j0 k true a0_0 a0_1 a0_2 a0_3))) else (impl_ChunkerOk.j0 k true a0_0 a0_1 a0_2 a0_3))
theorem impl_ChunkerOk.mono_l : ∀ k, (∀ y0 y1 y2 y3 y4, LeO (impl_ChunkerOk.j0 k y0 y1 y2 y3 y4) (impl_ChunkerOk.j0 (k + 1) y0 y1 y2 y3 y4))
 | 0 => fun _ _ _ _ _ r h => by simp [impl_ChunkerOk.j0] at h
 | k + 1 => by
  have ih0 := impl_ChunkerOk.mono_l k
  ·
   intro y0 y1 y2 y3 y4
   unfold impl_ChunkerOk.j0
   repeat' first
   | (with_reducible exact ih0 _ _ _ _ _)
   | (with_reducible exact LeO.refl _)
   | (with_reducible exact LeO.none _)
   | (with_reducible refine LeO.ite ?_ ?_)
   | (with_reducible refine LeO.bind ?_ (fun _ => ?_))
   | exact ih0 _ _ _ _ _
   | exact LeO.none _
   | refine LeO.ite ?_ ?_
   | refine LeO.bind ?_ (fun _ => ?_)
theorem impl_ChunkerOk.mono : ∀ a0 a1 a2 a3 k, LeO (impl_ChunkerOk.f k a0 a1 a2 a3) (impl_ChunkerOk.f (k + 1) a0 a1 a2 a3) := by
 intro a0 a1 a2 a3 k
 have ih0 := impl_ChunkerOk.mono_l k
 unfold impl_ChunkerOk.f
 repeat' first
   | (with_reducible exact ih0 _ _ _ _ _)
   | (with_reducible exact LeO.refl _)
   | (with_reducible exact LeO.none _)
   | (with_reducible refine LeO.ite ?_ ?_)
   | (with_reducible refine LeO.bind ?_ (fun _ => ?_))
   | exact ih0 _ _ _ _ _
   | exact LeO.none _
   | refine LeO.ite ?_ ?_
   | refine LeO.bind ?_ (fun _ => ?_)
set_option maxHeartbeats 8000000 in
set_option maxRecDepth 100000 in
theorem impl_ChunkerOk.calls (k : Nat) (a0_0 : Int) (a0_1 : Int) (a0_2 : ByteArray) (a0_3 : ByteArray) (r : Bool) (w : World) (h : impl_ChunkerOk.f k a0_0 a0_1 a0_2 a0_3 = some r) :
  Calls Tryd.prog 29 #[.agg #[.int .i64 a0_0, .int .i64 a0_1, .string a0_2, .string a0_3]] w fun e w' => e = .returned (.bool r) ∧ Below w.heap.size w w' := by
 have hu35 := Tryd.underlying35
 have HB := Aside0.mk (Below.refl w.heap.size w)
 have H : ((impl_within.f a0_0 1 9).bind fun t102 => (if t102 = true then ((impl_within.f a0_1 0 4000).bind fun t103 => (if t103 = true then (if (a0_2.size : Int) > 13 then (impl_ChunkerOk.j0 k true a0_0 a0_1 a0_2 a0_3) else ((impl_all.f a0_2 62).bind fun t104 => (if t104 = true then (if (a0_3.size : Int) > 4000 then (impl_ChunkerOk.j0 k true a0_0 a0_1 a0_2 a0_3) else (impl_ChunkerOk.j0 k (decide ((wrap64 (a0_1 + (a0_3.size : Int))) > 4000)) a0_0 a0_1 a0_2 a0_3)) else (impl_ChunkerOk.j0 k true a0_0 a0_1 a0_2 a0_3)))) else (impl_ChunkerOk.j0 k true a0_0 a0_1 a0_2 a0_3))) else (impl_ChunkerOk.j0 k true a0_0 a0_1 a0_2 a0_3))) = some r := h
 clear h
 have HC2 := Aside0.mk H
 clear H
 go_enter Tryd.func29, Tryd.ntmps29
 go_upto_region 1 with (first | ((with_reducible refine gate_dst (N := 1) rfl ?_); (try (refine gate_guard (by rfl) ?_; dsimp only)); refine bx 1 #[.int .i64 a0_0, .int .i64 a0_1, .string a0_2, .string a0_3] 35 ?_; intro gb101 hg w3 hbox hb; have BK101 := Aside0.mk (hbox); have GW101 := Aside0.mk (bz hg); have GE101 := Aside0.mk (bz hg); replace HB := Aside0.mk (below_step bh hb); clear hb hbox hg))
 (try simp only [Act.put, List.setIfInBounds_toArray, List.set_cons_zero, List.set_cons_succ])
 go_cut [39] (fun v39 wc => ∃ (kq : Nat) (x39_1 : Bool), v39 = .bool x39_1 ∧ Aside0 (impl_ChunkerOk.j0 kq x39_1 a0_0 a0_1 a0_2 a0_3 = some r) ∧ Aside0 (kq ≤ k) ∧ Aside0 (wc.heap[gb101]? = some (.cells #[.int .i64 a0_0, .int .i64 a0_1, .string a0_2, .string a0_3] 35 (0, 0))) ∧ Aside0 (Below w.heap.size w wc))
 case first =>
  have H := HC2.out
  clear HC2
  obtain ⟨t102, A40, H⟩ := Option.bind_eq_some_iff.mp H
  try dsimp only at H
  have A4 := Aside0.mk A40
  clear A40
  by_cases c5 : t102 = true
  ·
   subst c5
   rw [if_pos rfl] at H
   obtain ⟨t103, A60, H⟩ := Option.bind_eq_some_iff.mp H
   try dsimp only at H
   have A6 := Aside0.mk A60
   clear A60
   by_cases c7 : t103 = true
   ·
    subst c7
    rw [if_pos rfl] at H
    by_cases c8 : (a0_2.size : Int) > 13
    ·
     rw [if_pos c8] at H
     have c8b0 : decide (13 < (a0_2.size : Int)) = true := decide_eq_true c8
     have c8b1 : decide (13 < a0_2.size) = true := decide_eq_true (by omega)
     clear c8
     (first | rw [c8b0] | (simp only [i64_w, i32_w]; rw [c8b0]) | skip)
     have H' := Aside0.mk H
     clear H
     obtain ⟨hcz9_0, hcz9_1, hcz9_2, hcz9_3⟩ := zcf4 BK101
     obtain ⟨hfz9_0, hfz9_1, hfz9_2, hfz9_3⟩ := zff4 BK101
     go_wp2_with (first | ((with_reducible refine gate_callee (f := 60) rfl ?_); refine goesL_ (some 5) rfl rfl Tryd.func60 (by kernel_rfl) rfl #[.int .i64 a0_0, .int .i64 1, .int .i64 9] rfl (by (try simp only [List.map_toArray, List.map_cons, List.map_nil]); first | done | rfl | (simp only [ne_nil_isEmpty]; rfl) | (simp only [List.length_drop, List.length_take]; rfl)) ?_; (with_reducible refine (impl_within.calls a0_0 1 9 true _ A4.out).mono ?_); rintro e w' ⟨rfl, ⟨nd, rfl⟩⟩; refine ⟨_, rfl, ?_⟩) | (go_at_call 60; (with_reducible refine (impl_within.calls a0_1 0 4000 true _ A6.out).mono ?_); rintro e w' ⟨rfl, ⟨nd, rfl⟩⟩))
     go_meet
     case rel => exact ⟨_, (true), (by first | rfl | (simp; done) | (simp [*]; done)), H', ⟨by first | omega | exact Nat.le_refl _⟩, ⟨bk⟩, ⟨bh⟩⟩
    ·
     rw [if_neg c8] at H
     have c8b0 : decide (13 < (a0_2.size : Int)) = false := decide_eq_false c8
     have c8b1 : decide (13 < a0_2.size) = false := decide_eq_false (by omega)
     clear c8
     (first | rw [c8b0] | (simp only [i64_w, i32_w]; rw [c8b0]) | skip)
     obtain ⟨t104, A100, H⟩ := Option.bind_eq_some_iff.mp H
     try dsimp only at H
     have A10 := Aside0.mk A100
     clear A100
     by_cases c11 : t104 = true
     ·
      subst c11
      rw [if_pos rfl] at H
      by_cases c12 : (a0_3.size : Int) > 4000
      ·
       rw [if_pos c12] at H
       have c12b0 : decide (4000 < (a0_3.size : Int)) = true := decide_eq_true c12
       have c12b1 : decide (4000 < a0_3.size) = true := decide_eq_true (by omega)
       clear c12
       have H' := Aside0.mk H
       clear H
       obtain ⟨hcz13_0, hcz13_1, hcz13_2, hcz13_3⟩ := zcf4 BK101
       obtain ⟨hfz13_0, hfz13_1, hfz13_2, hfz13_3⟩ := zff4 BK101
       go_wp2_with (first | ((with_reducible refine gate_callee (f := 60) rfl ?_); refine goesL_ (some 5) rfl rfl Tryd.func60 (by kernel_rfl) rfl #[.int .i64 a0_0, .int .i64 1, .int .i64 9] rfl (by (try simp only [List.map_toArray, List.map_cons, List.map_nil]); first | done | rfl | (simp only [ne_nil_isEmpty]; rfl) | (simp only [List.length_drop, List.length_take]; rfl)) ?_; (with_reducible refine (impl_within.calls a0_0 1 9 true _ A4.out).mono ?_); rintro e w' ⟨rfl, ⟨nd, rfl⟩⟩; refine ⟨_, rfl, ?_⟩) | (go_at_call 60; (with_reducible refine (impl_within.calls a0_1 0 4000 true _ A6.out).mono ?_); rintro e w' ⟨rfl, ⟨nd, rfl⟩⟩) | (go_at_call 61; (with_reducible refine (impl_all.calls a0_2 62 true _ A10.out).mono ?_); rintro e w14 ⟨rfl, hb⟩; replace BK101 := bkb_ BK101 hb; replace HB := Aside0.mk (below_step bh hb); (try clear hb); (try clear hb2); (try clear hk); (try clear hi); obtain ⟨hcz15_0, hcz15_1, hcz15_2, hcz15_3⟩ := zcf4 BK101; obtain ⟨hfz15_0, hfz15_1, hfz15_2, hfz15_3⟩ := zff4 BK101))
       go_meet
       case rel => exact ⟨_, (true), (by first | rfl | (simp; done) | (simp [*]; done)), H', ⟨by first | omega | exact Nat.le_refl _⟩, ⟨bk⟩, ⟨bh⟩⟩
      ·
       rw [if_neg c12] at H
       have c12b0 : decide (4000 < (a0_3.size : Int)) = false := decide_eq_false c12
       have c12b1 : decide (4000 < a0_3.size) = false := decide_eq_false (by omega)
       clear c12
       have H' := Aside0.mk H
       clear H
       obtain ⟨hcz16_0, hcz16_1, hcz16_2, hcz16_3⟩ := zcf4 BK101
       obtain ⟨hfz16_0, hfz16_1, hfz16_2, hfz16_3⟩ := zff4 BK101
       go_wp2_with (first | ((with_reducible refine gate_callee (f := 60) rfl ?_); refine goesL_ (some 5) rfl rfl Tryd.func60 (by kernel_rfl) rfl #[.int .i64 a0_0, .int .i64 1, .int .i64 9] rfl (by (try simp only [List.map_toArray, List.map_cons, List.map_nil]); first | done | rfl | (simp only [ne_nil_isEmpty]; rfl) | (simp only [List.length_drop, List.length_take]; rfl)) ?_; (with_reducible refine (impl_within.calls a0_0 1 9 true _ A4.out).mono ?_); rintro e w' ⟨rfl, ⟨nd, rfl⟩⟩; refine ⟨_, rfl, ?_⟩) | (go_at_call 60; (with_reducible refine (impl_within.calls a0_1 0 4000 true _ A6.out).mono ?_); rintro e w' ⟨rfl, ⟨nd, rfl⟩⟩) | (go_at_call 61; (with_reducible refine (impl_all.calls a0_2 62 true _ A10.out).mono ?_); rintro e w17 ⟨rfl, hb⟩; replace BK101 := bkb_ BK101 hb; replace HB := Aside0.mk (below_step bh hb); (try clear hb); (try clear hb2); (try clear hk); (try clear hi); obtain ⟨hcz18_0, hcz18_1, hcz18_2, hcz18_3⟩ := zcf4 BK101; obtain ⟨hfz18_0, hfz18_1, hfz18_2, hfz18_3⟩ := zff4 BK101))
       go_meet
       case rel => exact ⟨_, (decide ((wrap64 (a0_1 + (a0_3.size : Int))) > 4000)), (by first | rfl | (simp; done) | (simp [*]; done)), H', ⟨by first | omega | exact Nat.le_refl _⟩, ⟨bk⟩, ⟨bh⟩⟩
     ·
      replace c11 := Bool.eq_false_iff.mpr c11
      subst c11
      have H1 : (impl_ChunkerOk.j0 k true a0_0 a0_1 a0_2 a0_3) = some r := by rw [if_neg (show ¬ (false = true) by decide)] at H; exact H
      clear H
      have H := H1
      clear H1
      have H' := Aside0.mk H
      clear H
      obtain ⟨hcz19_0, hcz19_1, hcz19_2, hcz19_3⟩ := zcf4 BK101
      obtain ⟨hfz19_0, hfz19_1, hfz19_2, hfz19_3⟩ := zff4 BK101
      go_wp2_with (first | ((with_reducible refine gate_callee (f := 60) rfl ?_); refine goesL_ (some 5) rfl rfl Tryd.func60 (by kernel_rfl) rfl #[.int .i64 a0_0, .int .i64 1, .int .i64 9] rfl (by (try simp only [List.map_toArray, List.map_cons, List.map_nil]); first | done | rfl | (simp only [ne_nil_isEmpty]; rfl) | (simp only [List.length_drop, List.length_take]; rfl)) ?_; (with_reducible refine (impl_within.calls a0_0 1 9 true _ A4.out).mono ?_); rintro e w' ⟨rfl, ⟨nd, rfl⟩⟩; refine ⟨_, rfl, ?_⟩) | (go_at_call 60; (with_reducible refine (impl_within.calls a0_1 0 4000 true _ A6.out).mono ?_); rintro e w' ⟨rfl, ⟨nd, rfl⟩⟩) | (go_at_call 61; (with_reducible refine (impl_all.calls a0_2 62 false _ A10.out).mono ?_); rintro e w20 ⟨rfl, hb⟩; replace BK101 := bkb_ BK101 hb; replace HB := Aside0.mk (below_step bh hb); (try clear hb); (try clear hb2); (try clear hk); (try clear hi)))
      go_meet
      case rel => exact ⟨_, (true), (by first | rfl | (simp; done) | (simp [*]; done)), H', ⟨by first | omega | exact Nat.le_refl _⟩, ⟨bk⟩, ⟨bh⟩⟩
   ·
    replace c7 := Bool.eq_false_iff.mpr c7
    subst c7
    have H1 : (impl_ChunkerOk.j0 k true a0_0 a0_1 a0_2 a0_3) = some r := by rw [if_neg (show ¬ (false = true) by decide)] at H; exact H
    clear H
    have H := H1
    clear H1
    have H' := Aside0.mk H
    clear H
    obtain ⟨hcz21_0, hcz21_1, hcz21_2, hcz21_3⟩ := zcf4 BK101
    obtain ⟨hfz21_0, hfz21_1, hfz21_2, hfz21_3⟩ := zff4 BK101
    go_wp2_with (first | ((with_reducible refine gate_callee (f := 60) rfl ?_); refine goesL_ (some 5) rfl rfl Tryd.func60 (by kernel_rfl) rfl #[.int .i64 a0_0, .int .i64 1, .int .i64 9] rfl (by (try simp only [List.map_toArray, List.map_cons, List.map_nil]); first | done | rfl | (simp only [ne_nil_isEmpty]; rfl) | (simp only [List.length_drop, List.length_take]; rfl)) ?_; (with_reducible refine (impl_within.calls a0_0 1 9 true _ A4.out).mono ?_); rintro e w' ⟨rfl, ⟨nd, rfl⟩⟩; refine ⟨_, rfl, ?_⟩) | (go_at_call 60; (with_reducible refine (impl_within.calls a0_1 0 4000 false _ A6.out).mono ?_); rintro e w' ⟨rfl, ⟨nd, rfl⟩⟩))
    go_meet
    case rel => exact ⟨_, (true), (by first | rfl | (simp; done) | (simp [*]; done)), H', ⟨by first | omega | exact Nat.le_refl _⟩, ⟨bk⟩, ⟨bh⟩⟩
  ·
   replace c5 := Bool.eq_false_iff.mpr c5
   subst c5
   have H1 : (impl_ChunkerOk.j0 k true a0_0 a0_1 a0_2 a0_3) = some r := by rw [if_neg (show ¬ (false = true) by decide)] at H; exact H
   clear H
   have H := H1
   clear H1
   have H' := Aside0.mk H
   clear H
   obtain ⟨hcz22_0, hcz22_1, hcz22_2, hcz22_3⟩ := zcf4 BK101
   obtain ⟨hfz22_0, hfz22_1, hfz22_2, hfz22_3⟩ := zff4 BK101
   go_wp2_with (first | ((with_reducible refine gate_callee (f := 60) rfl ?_); refine goesL_ (some 5) rfl rfl Tryd.func60 (by kernel_rfl) rfl #[.int .i64 a0_0, .int .i64 1, .int .i64 9] rfl (by (try simp only [List.map_toArray, List.map_cons, List.map_nil]); first | done | rfl | (simp only [ne_nil_isEmpty]; rfl) | (simp only [List.length_drop, List.length_take]; rfl)) ?_; (with_reducible refine (impl_within.calls a0_0 1 9 false _ A4.out).mono ?_); rintro e w' ⟨rfl, ⟨nd, rfl⟩⟩; refine ⟨_, rfl, ?_⟩))
   go_meet
   case rel => exact ⟨_, (true), (by first | rfl | (simp; done) | (simp [*]; done)), H', ⟨by first | omega | exact Nat.le_refl _⟩, ⟨bk⟩, ⟨bh⟩⟩
 case rest =>
  clear HC2
  try clear c1
  try clear c2
  try clear p2
  try clear c5
  try clear c6
  try clear p6
  try clear c7
  try clear c8
  try clear c8b0
  try clear c8b1
  try clear c11
  try clear c12
  try clear c12b0
  try clear c12b1
  try clear hcz13_0
  try clear hcz13_1
  try clear hcz13_2
  try clear hcz13_3
  try clear hcz15_0
  try clear hcz15_1
  try clear hcz15_2
  try clear hcz15_3
  try clear hcz16_0
  try clear hcz16_1
  try clear hcz16_2
  try clear hcz16_3
  try clear hcz18_0
  try clear hcz18_1
  try clear hcz18_2
  try clear hcz18_3
  try clear hcz19_0
  try clear hcz19_1
  try clear hcz19_2
  try clear hcz19_3
  try clear hcz21_0
  try clear hcz21_1
  try clear hcz21_2
  try clear hcz21_3
  try clear hcz22_0
  try clear hcz22_1
  try clear hcz22_2
  try clear hcz22_3
  try clear hcz9_0
  try clear hcz9_1
  try clear hcz9_2
  try clear hcz9_3
  try clear hfz13_0
  try clear hfz13_1
  try clear hfz13_2
  try clear hfz13_3
  try clear hfz15_0
  try clear hfz15_1
  try clear hfz15_2
  try clear hfz15_3
  try clear hfz16_0
  try clear hfz16_1
  try clear hfz16_2
  try clear hfz16_3
  try clear hfz18_0
  try clear hfz18_1
  try clear hfz18_2
  try clear hfz18_3
  try clear hfz19_0
  try clear hfz19_1
  try clear hfz19_2
  try clear hfz19_3
  try clear hfz21_0
  try clear hfz21_1
  try clear hfz21_2
  try clear hfz21_3
  try clear hfz22_0
  try clear hfz22_1
  try clear hfz22_2
  try clear hfz22_3
  try clear hfz9_0
  try clear hfz9_1
  try clear hfz9_2
  try clear hfz9_3
  obtain ⟨kq, x39_1, rfl, HA, HJ1, BK101, HB⟩ := hcut
  cases kq with
  | zero => exact absurd HA.out (by simp [impl_ChunkerOk.j0])
  | succ kj1 =>
   have H := HA.out
   clear HA
   simp only [impl_ChunkerOk.j0] at H
   by_cases c23 : x39_1 = true
   ·
    subst c23
    have H1 : (some false) = some r := by rw [if_pos rfl] at H; exact H
    clear H
    have H := H1
    clear H1
    obtain rfl := Option.some.inj H
    go_wp2
    go_ret
    exact ⟨er, bh⟩
   ·
    replace c23 := Bool.eq_false_iff.mpr c23
    subst c23
    rw [if_neg (show ¬ (false = true) by decide)] at H
    by_cases c24 : a0_1 > 0
    ·
     rw [if_pos c24] at H
     have c24b0 : decide (0 < a0_1) = true := decide_eq_true c24
     clear c24
     by_cases c25 : a0_0 = 2
     ·
      rw [if_pos c25] at H
      have c25b0 : (a0_0 == 2) = true := beq_iff_eq.mpr c25
      have c25b1 : (a0_0 != 2) = false := bne_eq_false_iff_eq.mpr c25
      clear c25
      by_cases c26 : a0_1 = 0
      ·
       rw [if_pos c26] at H
       have c26b0 : (a0_1 == 0) = true := beq_iff_eq.mpr c26
       have c26b1 : (a0_1 != 0) = false := bne_eq_false_iff_eq.mpr c26
       clear c26
       by_cases c27 : a0_0 = 3
       ·
        rw [if_pos c27] at H
        have c27b0 : (a0_0 == 3) = true := beq_iff_eq.mpr c27
        have c27b1 : (a0_0 != 3) = false := bne_eq_false_iff_eq.mpr c27
        clear c27
        obtain rfl := Option.some.inj H
        obtain ⟨hcz28_0, hcz28_1, hcz28_2, hcz28_3⟩ := zcf4 BK101
        obtain ⟨hfz28_0, hfz28_1, hfz28_2, hfz28_3⟩ := zff4 BK101
        go_wp2
        go_ret
        exact ⟨er, bh⟩
       ·
        rw [if_neg c27] at H
        have c27b0 : (a0_0 == 3) = false := beq_eq_false_iff_ne.mpr c27
        have c27b1 : (a0_0 != 3) = true := bne_iff_ne.mpr c27
        by_cases c29 : a0_2.toList = ([] : List UInt8)
        ·
         rw [if_pos c29] at H
         have c29b0 : (a0_2.toList == ([] : List UInt8)) = true := beq_iff_eq.mpr c29
         have c29b1 : (a0_2.toList != ([] : List UInt8)) = false := bne_eq_false_iff_eq.mpr c29
         clear c29
         obtain rfl := Option.some.inj H
         obtain ⟨hcz30_0, hcz30_1, hcz30_2, hcz30_3⟩ := zcf4 BK101
         obtain ⟨hfz30_0, hfz30_1, hfz30_2, hfz30_3⟩ := zff4 BK101
         go_wp2
         go_ret
         exact ⟨er, bh⟩
        ·
         rw [if_neg c29] at H
         have c29b0 : (a0_2.toList == ([] : List UInt8)) = false := beq_eq_false_iff_ne.mpr c29
         have c29b1 : (a0_2.toList != ([] : List UInt8)) = true := bne_iff_ne.mpr c29
         obtain rfl := Option.some.inj H
         obtain ⟨hcz31_0, hcz31_1, hcz31_2, hcz31_3⟩ := zcf4 BK101
         obtain ⟨hfz31_0, hfz31_1, hfz31_2, hfz31_3⟩ := zff4 BK101
         go_wp2
         go_ret
         exact ⟨er, bh⟩
      ·
       rw [if_neg c26] at H
       have c26b0 : (a0_1 == 0) = false := beq_eq_false_iff_ne.mpr c26
       have c26b1 : (a0_1 != 0) = true := bne_iff_ne.mpr c26
       by_cases c32 : a0_2.toList = ([] : List UInt8)
       ·
        rw [if_pos c32] at H
        have c32b0 : (a0_2.toList == ([] : List UInt8)) = true := beq_iff_eq.mpr c32
        have c32b1 : (a0_2.toList != ([] : List UInt8)) = false := bne_eq_false_iff_eq.mpr c32
        clear c32
        obtain rfl := Option.some.inj H
        obtain ⟨hcz33_0, hcz33_1, hcz33_2, hcz33_3⟩ := zcf4 BK101
        obtain ⟨hfz33_0, hfz33_1, hfz33_2, hfz33_3⟩ := zff4 BK101
        go_wp2
        go_ret
        exact ⟨er, bh⟩
       ·
        rw [if_neg c32] at H
        have c32b0 : (a0_2.toList == ([] : List UInt8)) = false := beq_eq_false_iff_ne.mpr c32
        have c32b1 : (a0_2.toList != ([] : List UInt8)) = true := bne_iff_ne.mpr c32
        obtain rfl := Option.some.inj H
        obtain ⟨hcz34_0, hcz34_1, hcz34_2, hcz34_3⟩ := zcf4 BK101
        obtain ⟨hfz34_0, hfz34_1, hfz34_2, hfz34_3⟩ := zff4 BK101
        go_wp2
        go_ret
        exact ⟨er, bh⟩
     ·
      rw [if_neg c25] at H
      have c25b0 : (a0_0 == 2) = false := beq_eq_false_iff_ne.mpr c25
      have c25b1 : (a0_0 != 2) = true := bne_iff_ne.mpr c25
      by_cases c35 : a0_0 = 3
      ·
       rw [if_pos c35] at H
       have c35b0 : (a0_0 == 3) = true := beq_iff_eq.mpr c35
       have c35b1 : (a0_0 != 3) = false := bne_eq_false_iff_eq.mpr c35
       clear c35
       by_cases c36 : a0_1 = 0
       ·
        rw [if_pos c36] at H
        have c36b0 : (a0_1 == 0) = true := beq_iff_eq.mpr c36
        have c36b1 : (a0_1 != 0) = false := bne_eq_false_iff_eq.mpr c36
        clear c36
        obtain rfl := Option.some.inj H
        obtain ⟨hcz37_0, hcz37_1, hcz37_2, hcz37_3⟩ := zcf4 BK101
        obtain ⟨hfz37_0, hfz37_1, hfz37_2, hfz37_3⟩ := zff4 BK101
        go_wp2
        go_ret
        exact ⟨er, bh⟩
       ·
        rw [if_neg c36] at H
        have c36b0 : (a0_1 == 0) = false := beq_eq_false_iff_ne.mpr c36
        have c36b1 : (a0_1 != 0) = true := bne_iff_ne.mpr c36
        by_cases c38 : a0_2.toList = ([] : List UInt8)
        ·
         rw [if_pos c38] at H
         have c38b0 : (a0_2.toList == ([] : List UInt8)) = true := beq_iff_eq.mpr c38
         have c38b1 : (a0_2.toList != ([] : List UInt8)) = false := bne_eq_false_iff_eq.mpr c38
         clear c38
         obtain rfl := Option.some.inj H
         obtain ⟨hcz39_0, hcz39_1, hcz39_2, hcz39_3⟩ := zcf4 BK101
         obtain ⟨hfz39_0, hfz39_1, hfz39_2, hfz39_3⟩ := zff4 BK101
         go_wp2
         go_ret
         exact ⟨er, bh⟩
        ·
         rw [if_neg c38] at H
         have c38b0 : (a0_2.toList == ([] : List UInt8)) = false := beq_eq_false_iff_ne.mpr c38
         have c38b1 : (a0_2.toList != ([] : List UInt8)) = true := bne_iff_ne.mpr c38
         obtain rfl := Option.some.inj H
         obtain ⟨hcz40_0, hcz40_1, hcz40_2, hcz40_3⟩ := zcf4 BK101
         obtain ⟨hfz40_0, hfz40_1, hfz40_2, hfz40_3⟩ := zff4 BK101
         go_wp2
         go_ret
         exact ⟨er, bh⟩
      ·
       rw [if_neg c35] at H
       have c35b0 : (a0_0 == 3) = false := beq_eq_false_iff_ne.mpr c35
       have c35b1 : (a0_0 != 3) = true := bne_iff_ne.mpr c35
       obtain rfl := Option.some.inj H
       obtain ⟨hcz41_0, hcz41_1, hcz41_2, hcz41_3⟩ := zcf4 BK101
       obtain ⟨hfz41_0, hfz41_1, hfz41_2, hfz41_3⟩ := zff4 BK101
       go_wp2
       go_ret
       exact ⟨er, bh⟩
    ·
     rw [if_neg c24] at H
     have c24b0 : decide (0 < a0_1) = false := decide_eq_false c24
     clear c24
     by_cases c42 : a0_1 = 0
     ·
      rw [if_pos c42] at H
      have c42b0 : (a0_1 == 0) = true := beq_iff_eq.mpr c42
      have c42b1 : (a0_1 != 0) = false := bne_eq_false_iff_eq.mpr c42
      clear c42
      by_cases c43 : a0_0 = 3
      ·
       rw [if_pos c43] at H
       have c43b0 : (a0_0 == 3) = true := beq_iff_eq.mpr c43
       have c43b1 : (a0_0 != 3) = false := bne_eq_false_iff_eq.mpr c43
       clear c43
       obtain rfl := Option.some.inj H
       obtain ⟨hcz44_0, hcz44_1, hcz44_2, hcz44_3⟩ := zcf4 BK101
       obtain ⟨hfz44_0, hfz44_1, hfz44_2, hfz44_3⟩ := zff4 BK101
       go_wp2
       go_ret
       exact ⟨er, bh⟩
      ·
       rw [if_neg c43] at H
       have c43b0 : (a0_0 == 3) = false := beq_eq_false_iff_ne.mpr c43
       have c43b1 : (a0_0 != 3) = true := bne_iff_ne.mpr c43
       by_cases c45 : a0_2.toList = ([] : List UInt8)
       ·
        rw [if_pos c45] at H
        have c45b0 : (a0_2.toList == ([] : List UInt8)) = true := beq_iff_eq.mpr c45
        have c45b1 : (a0_2.toList != ([] : List UInt8)) = false := bne_eq_false_iff_eq.mpr c45
        clear c45
        obtain rfl := Option.some.inj H
        obtain ⟨hcz46_0, hcz46_1, hcz46_2, hcz46_3⟩ := zcf4 BK101
        obtain ⟨hfz46_0, hfz46_1, hfz46_2, hfz46_3⟩ := zff4 BK101
        go_wp2
        go_ret
        exact ⟨er, bh⟩
       ·
        rw [if_neg c45] at H
        have c45b0 : (a0_2.toList == ([] : List UInt8)) = false := beq_eq_false_iff_ne.mpr c45
        have c45b1 : (a0_2.toList != ([] : List UInt8)) = true := bne_iff_ne.mpr c45
        obtain rfl := Option.some.inj H
        obtain ⟨hcz47_0, hcz47_1, hcz47_2, hcz47_3⟩ := zcf4 BK101
        obtain ⟨hfz47_0, hfz47_1, hfz47_2, hfz47_3⟩ := zff4 BK101
        go_wp2
        go_ret
        exact ⟨er, bh⟩
     ·
      rw [if_neg c42] at H
      have c42b0 : (a0_1 == 0) = false := beq_eq_false_iff_ne.mpr c42
      have c42b1 : (a0_1 != 0) = true := bne_iff_ne.mpr c42
      by_cases c48 : a0_2.toList = ([] : List UInt8)
      ·
       rw [if_pos c48] at H
       have c48b0 : (a0_2.toList == ([] : List UInt8)) = true := beq_iff_eq.mpr c48
       have c48b1 : (a0_2.toList != ([] : List UInt8)) = false := bne_eq_false_iff_eq.mpr c48
       clear c48
       obtain rfl := Option.some.inj H
       obtain ⟨hcz49_0, hcz49_1, hcz49_2, hcz49_3⟩ := zcf4 BK101
       obtain ⟨hfz49_0, hfz49_1, hfz49_2, hfz49_3⟩ := zff4 BK101
       go_wp2
       go_ret
       exact ⟨er, bh⟩
      ·
       rw [if_neg c48] at H
       have c48b0 : (a0_2.toList == ([] : List UInt8)) = false := beq_eq_false_iff_ne.mpr c48
       have c48b1 : (a0_2.toList != ([] : List UInt8)) = true := bne_iff_ne.mpr c48
       obtain rfl := Option.some.inj H
       obtain ⟨hcz50_0, hcz50_1, hcz50_2, hcz50_3⟩ := zcf4 BK101
       obtain ⟨hfz50_0, hfz50_1, hfz50_2, hfz50_3⟩ := zff4 BK101
       go_wp2
       go_ret
       exact ⟨er, bh⟩
/-! ### impl_Chunker_bad: function 76 -/
def impl_Chunker_bad.f (a0_0 : Int) (a0_1 : Int) (a0_2 : ByteArray) (a0_3 : ByteArray) : Option (Int × Int × ByteArray × ByteArray) := some (9, 0, (⟨#[]⟩ : ByteArray), a0_3)
set_option maxHeartbeats 8000000 in
set_option maxRecDepth 100000 in
theorem impl_Chunker_bad.calls (a0_0 : Int) (a0_1 : Int) (a0_2 : ByteArray) (a0_3 : ByteArray) (r1 : Int) (r2 : Int) (r3 : ByteArray) (r4 : ByteArray) (w : World) (h : impl_Chunker_bad.f a0_0 a0_1 a0_2 a0_3 = some (r1, r2, r3, r4)) :
  Calls Tryd.prog 76 #[.agg #[.int .i64 a0_0, .int .i64 a0_1, .string a0_2, .string a0_3]] w fun e w' => e = .returned (.agg #[.int .i64 r1, .int .i64 r2, .string r3, .string r4]) ∧ Below w.heap.size w w' := by
 have hu35 := Tryd.underlying35
 have HB := Aside0.mk (Below.refl w.heap.size w)
 have H : (some (9, 0, (⟨#[]⟩ : ByteArray), a0_3)) = some (r1, r2, r3, r4) := h
 clear h
 simp only [Option.some.injEq, Prod.mk.injEq] at H
 obtain ⟨rfl, rfl, rfl, rfl⟩ := H
 go_enter Tryd.func76, Tryd.ntmps76
 go_wp2_with (first | ((with_reducible refine gate_dst (N := 1) rfl ?_); refine bx 1 #[.int .i64 a0_0, .int .i64 a0_1, .string a0_2, .string a0_3] 35 ?_; intro gb101 hg w2 hbox hb; have BK101 := Aside0.mk (hbox); have GW101 := Aside0.mk (bz hg); have GE101 := Aside0.mk (bz hg); replace HB := Aside0.mk (below_step bh hb); clear hb hbox hg) | ((with_reducible refine gate_dst (N := 2) rfl ?_); refine bx 2 #[.int .i64 0, .int .i64 0, .string (⟨#[]⟩ : ByteArray), .string (⟨#[]⟩ : ByteArray)] 35 ?_; intro gb102 hg w3 hbox hb; have BK102 := Aside0.mk (hbox); have GW102 := Aside0.mk (bz hg); have GE102 := Aside0.mk (bz hg); have NB101_102 := Aside0.mk ((nl (o := .cells #[.int .i64 a0_0, .int .i64 a0_1, .string a0_2, .string a0_3] 35 (0, 0)) hg bk : gb101 ≠ gb102)); have NB102_101 := Aside0.mk ((ng (o := .cells #[.int .i64 a0_0, .int .i64 a0_1, .string a0_2, .string a0_3] 35 (0, 0)) hg bk : gb102 ≠ gb101)); replace BK101 := bkb_ BK101 hb; replace HB := Aside0.mk (below_step bh hb); clear hb hbox hg; have hnb4 := NB101_102.out; have hnc4 := NB102_101.out; obtain ⟨hcz5_0, hcz5_1, hcz5_2, hcz5_3⟩ := zcf4 BK101; obtain ⟨hfz5_0, hfz5_1, hfz5_2, hfz5_3⟩ := zff4 BK101; obtain ⟨hcz6_0, hcz6_1, hcz6_2, hcz6_3⟩ := zcf4 BK102; obtain ⟨hfz6_0, hfz6_1, hfz6_2, hfz6_3⟩ := zff4 BK102))
 refine bodyPost_ret (results_cell_row rfl _ _ gb102 35 #[.int .i64 9, .int .i64 0, .string (⟨#[]⟩ : ByteArray), .string a0_3] (0, 0) _ rfl bkp Tryd.underlying35 rfl (by kernel_rfl)) rfl ?_
 exact ⟨er, bh⟩
/-! ### impl_HexDigits: function 40 -/
def impl_HexDigits.f (a0 : ByteArray) : Option (Int × Bool) := if (a0.size : Int) < 1 then (some (0, false)) else (if (a0.size : Int) > 13 then (some (0, false)) else ((impl_all.f a0 62).bind fun t101 => (if t101 = true then ((strconv_ParseInt.f a0 16 64).bind fun bt102 => (some (bt102.1, true))) else (some (0, false)))))
set_option maxHeartbeats 8000000 in
set_option maxRecDepth 100000 in
theorem impl_HexDigits.calls (a0 : ByteArray) (r1 : Int) (r2 : Bool) (w : World) (h : impl_HexDigits.f a0 = some (r1, r2)) :
  Calls Tryd.prog 40 #[.string a0] w fun e w' => e = .returned (.tuple #[.int .i64 r1, .bool r2]) ∧ Below w.heap.size w w' := by
 have HB := Aside0.mk (Below.refl w.heap.size w)
 have H : (if (a0.size : Int) < 1 then (some (0, false)) else (if (a0.size : Int) > 13 then (some (0, false)) else ((impl_all.f a0 62).bind fun t101 => (if t101 = true then ((strconv_ParseInt.f a0 16 64).bind fun bt102 => (some (bt102.1, true))) else (some (0, false)))))) = some (r1, r2) := h
 clear h
 by_cases c2 : (a0.size : Int) < 1
 ·
  rw [if_pos c2] at H
  have c2b0 : decide ((a0.size : Int) < 1) = true := decide_eq_true c2
  have c2b1 : decide (a0.size < 1) = true := decide_eq_true (by omega)
  clear c2
  simp only [Option.some.injEq, Prod.mk.injEq] at H
  obtain ⟨rfl, rfl⟩ := H
  go_enter Tryd.func40, Tryd.ntmps40
  go_wp2
  go_ret2
  exact ⟨er, bh⟩
 ·
  rw [if_neg c2] at H
  have c2b0 : decide ((a0.size : Int) < 1) = false := decide_eq_false c2
  have c2b1 : decide (a0.size < 1) = false := decide_eq_false (by omega)
  clear c2
  by_cases c3 : (a0.size : Int) > 13
  ·
   rw [if_pos c3] at H
   have c3b0 : decide (13 < (a0.size : Int)) = true := decide_eq_true c3
   have c3b1 : decide (13 < a0.size) = true := decide_eq_true (by omega)
   clear c3
   simp only [Option.some.injEq, Prod.mk.injEq] at H
   obtain ⟨rfl, rfl⟩ := H
   go_enter Tryd.func40, Tryd.ntmps40
   go_wp2
   go_ret2
   exact ⟨er, bh⟩
  ·
   rw [if_neg c3] at H
   have c3b0 : decide (13 < (a0.size : Int)) = false := decide_eq_false c3
   have c3b1 : decide (13 < a0.size) = false := decide_eq_false (by omega)
   clear c3
   obtain ⟨t101, A40, H⟩ := Option.bind_eq_some_iff.mp H
   try dsimp only at H
   have A4 := Aside0.mk A40
   clear A40
   by_cases c5 : t101 = true
   ·
    subst c5
    rw [if_pos rfl] at H
    replace H := Option.bind_eq_some_iff.mp H
    obtain ⟨⟨t102, t103⟩, A60, H⟩ := H
    replace H : (some (t102, true)) = some (r1, r2) := H
    have A6 := Aside0.mk A60
    clear A60
    simp only [Option.some.injEq, Prod.mk.injEq] at H
    obtain ⟨rfl, rfl⟩ := H
    go_enter Tryd.func40, Tryd.ntmps40
    go_wp2_with (first | (go_at_call 61; (with_reducible refine (impl_all.calls a0 62 true _ A4.out).mono ?_); rintro e w7 ⟨rfl, hb⟩; replace HB := Aside0.mk (below_step bh hb); (try clear hb); (try clear hb2); (try clear hk); (try clear hi)) | ((with_reducible refine gate_callee (f := 67) rfl ?_); refine goesL_ (some 21) rfl rfl Tryd.func67 (by kernel_rfl) rfl #[.string a0, .int .i64 16, .int .i64 64] rfl mc ?_; (with_reducible refine (strconv_ParseInt.calls a0 16 64 t102 t103 _ A6.out).mono ?_); rintro e w8 ⟨rfl, hb⟩; refine ⟨_, rfl, ?_⟩; replace HB := Aside0.mk (below_step bh hb); (try clear hb); (try clear hb2); (try clear hk); (try clear hi); (try simp only [errW_none, errW_some])))
    go_ret2
    exact ⟨er, bh⟩
   ·
    replace c5 := Bool.eq_false_iff.mpr c5
    subst c5
    have H1 : (some (0, false)) = some (r1, r2) := by rw [if_neg (show ¬ (false = true) by decide)] at H; exact H
    clear H
    have H := H1
    clear H1
    simp only [Option.some.injEq, Prod.mk.injEq] at H
    obtain ⟨rfl, rfl⟩ := H
    go_enter Tryd.func40, Tryd.ntmps40
    go_wp2_with (first | (go_at_call 61; (with_reducible refine (impl_all.calls a0 62 false _ A4.out).mono ?_); rintro e w9 ⟨rfl, hb⟩; replace HB := Aside0.mk (below_step bh hb); (try clear hb); (try clear hb2); (try clear hk); (try clear hi)))
    go_ret2
    exact ⟨er, bh⟩
/-! ### impl_Chunker_size: function 75 -/
def impl_Chunker_size.j0 : Nat → Int → Bool → Int → Int → ByteArray → ByteArray → Option (Int × Int × ByteArray × ByteArray)
 | 0, _, _, _, _, _, _ => none
 | k + 1, x1, x14, x102000, x102001, x102002, x102003 => if x14 = true then ((some (([x1] : List Int) : List Int)).bind fun y104 => (if x102002.size + (strOfNums y104).size ≤ 9223372036854775807 then (some (x102000, x102001, x102002 ++ (strOfNums y104), x102003)) else (none))) else ((impl_HexDigits.f x102002).bind fun bt107 => (if x1 = 13 then (if bt107.2 = true then (if bt107.1 > (wrap64 (4000 - (x102003.size : Int))) then ((impl_Chunker_bad.f x102000 x102001 x102002 x102003).bind fun bt109 => (some (bt109.1, bt109.2.1, bt109.2.2.1, bt109.2.2.2))) else (some (2, bt107.1, (⟨#[]⟩ : ByteArray), x102003))) else ((impl_Chunker_bad.f x102000 x102001 x102002 x102003).bind fun bt113 => (some (bt113.1, bt113.2.1, bt113.2.2.1, bt113.2.2.2)))) else ((impl_Chunker_bad.f x102000 x102001 x102002 x102003).bind fun bt117 => (some (bt117.1, bt117.2.1, bt117.2.2.1, bt117.2.2.2)))))
def impl_Chunker_size.f (k : Nat) (a0_0 : Int) (a0_1 : Int) (a0_2 : ByteArray) (a0_3 : ByteArray) (a1 : Int) : Option (Int × Int × ByteArray × ByteArray) := (impl_isHex.f a1).bind fun t103 => (if t103 = true then (impl_Chunker_size.j0 k a1 (decide ((a0_2.size : Int) < 13)) a0_0 a0_1 a0_2 a0_3) else (impl_Chunker_size.j0 k a1 false a0_0 a0_1 a0_2 a0_3))
theorem impl_Chunker_size.mono_l : ∀ k, (∀ y0 y1 y2 y3 y4 y5, LeO (impl_Chunker_size.j0 k y0 y1 y2 y3 y4 y5) (impl_Chunker_size.j0 (k + 1) y0 y1 y2 y3 y4 y5))
 | 0 => fun _ _ _ _ _ _ r h => by simp [impl_Chunker_size.j0] at h
 | k + 1 => by
  have ih0 := impl_Chunker_size.mono_l k
  ·
   intro y0 y1 y2 y3 y4 y5
   unfold impl_Chunker_size.j0
   repeat' first
   | (with_reducible exact ih0 _ _ _ _ _ _)
   | (with_reducible exact LeO.refl _)
   | (with_reducible exact LeO.none _)
   | (with_reducible refine LeO.ite ?_ ?_)
   | (with_reducible refine LeO.bind ?_ (fun _ => ?_))
   | exact ih0 _ _ _ _ _ _
   | exact LeO.none _
   | refine LeO.ite ?_ ?_
   | refine LeO.bind ?_ (fun _ => ?_)
theorem impl_Chunker_size.mono : ∀ a0 a1 a2 a3 a4 k, LeO (impl_Chunker_size.f k a0 a1 a2 a3 a4) (impl_Chunker_size.f (k + 1) a0 a1 a2 a3 a4) := by
 intro a0 a1 a2 a3 a4 k
 have ih0 := impl_Chunker_size.mono_l k
 unfold impl_Chunker_size.f
 repeat' first
   | (with_reducible exact ih0 _ _ _ _ _ _)
   | (with_reducible exact LeO.refl _)
   | (with_reducible exact LeO.none _)
   | (with_reducible refine LeO.ite ?_ ?_)
   | (with_reducible refine LeO.bind ?_ (fun _ => ?_))
   | exact ih0 _ _ _ _ _ _
   | exact LeO.none _
   | refine LeO.ite ?_ ?_
   | refine LeO.bind ?_ (fun _ => ?_)
set_option maxHeartbeats 8000000 in
set_option maxRecDepth 100000 in
theorem impl_Chunker_size.calls (k : Nat) (a0_0 : Int) (a0_1 : Int) (a0_2 : ByteArray) (a0_3 : ByteArray) (a1 : Int) (r1 : Int) (r2 : Int) (r3 : ByteArray) (r4 : ByteArray) (w : World) (h : impl_Chunker_size.f k a0_0 a0_1 a0_2 a0_3 a1 = some (r1, r2, r3, r4)) :
  Calls Tryd.prog 75 #[.agg #[.int .i64 a0_0, .int .i64 a0_1, .string a0_2, .string a0_3], .int .u8 a1] w fun e w' => e = .returned (.agg #[.int .i64 r1, .int .i64 r2, .string r3, .string r4]) ∧ Below w.heap.size w w' := by
 have hu35 := Tryd.underlying35
 have HB := Aside0.mk (Below.refl w.heap.size w)
 have H : ((impl_isHex.f a1).bind fun t103 => (if t103 = true then (impl_Chunker_size.j0 k a1 (decide ((a0_2.size : Int) < 13)) a0_0 a0_1 a0_2 a0_3) else (impl_Chunker_size.j0 k a1 false a0_0 a0_1 a0_2 a0_3))) = some (r1, r2, r3, r4) := h
 clear h
 have HC3 := Aside0.mk H
 clear H
 go_enter Tryd.func75, Tryd.ntmps75
 go_upto_region 1 with (first | ((with_reducible refine gate_dst (N := 2) rfl ?_); (try (refine gate_guard (by rfl) ?_; dsimp only)); refine bx 2 #[.int .i64 a0_0, .int .i64 a0_1, .string a0_2, .string a0_3] 35 ?_; intro gb101 hg w4 hbox hb; have BK101 := Aside0.mk (hbox); have GW101 := Aside0.mk (bz hg); have GE101 := Aside0.mk (bz hg); replace HB := Aside0.mk (below_step bh hb); clear hb hbox hg) | ((with_reducible refine gate_dst (N := 4) rfl ?_); (try (refine gate_guard (by rfl) ?_; dsimp only)); refine bx 4 #[.int .i64 0, .int .i64 0, .string (⟨#[]⟩ : ByteArray), .string (⟨#[]⟩ : ByteArray)] 35 ?_; intro gb102 hg w5 hbox hb; have BK102 := Aside0.mk (hbox); have GW102 := Aside0.mk (bz hg); have GE102 := Aside0.mk (bz hg); have NB101_102 := Aside0.mk ((nl (o := .cells #[.int .i64 a0_0, .int .i64 a0_1, .string a0_2, .string a0_3] 35 (0, 0)) hg bk : gb101 ≠ gb102)); have NB102_101 := Aside0.mk ((ng (o := .cells #[.int .i64 a0_0, .int .i64 a0_1, .string a0_2, .string a0_3] 35 (0, 0)) hg bk : gb102 ≠ gb101)); replace BK101 := bkb_ BK101 hb; replace HB := Aside0.mk (below_step bh hb); clear hb hbox hg))
 (try simp only [Act.put, List.setIfInBounds_toArray, List.set_cons_zero, List.set_cons_succ])
 go_cut [14] (fun v14 wc => ∃ (kq : Nat) (x14_2 : Bool), v14 = .bool x14_2 ∧ Aside0 (impl_Chunker_size.j0 kq a1 x14_2 a0_0 a0_1 a0_2 a0_3 = some (r1, r2, r3, r4)) ∧ Aside0 (kq ≤ k) ∧ Aside0 (wc.heap[gb101]? = some (.cells #[.int .i64 a0_0, .int .i64 a0_1, .string a0_2, .string a0_3] 35 (0, 0))) ∧ Aside0 (wc.heap[gb102]? = some (.cells #[.int .i64 0, .int .i64 0, .string (⟨#[]⟩ : ByteArray), .string (⟨#[]⟩ : ByteArray)] 35 (0, 0))) ∧ Aside0 (Below w.heap.size w wc))
 case first =>
  have H := HC3.out
  clear HC3
  obtain ⟨t103, A60, H⟩ := Option.bind_eq_some_iff.mp H
  try dsimp only at H
  have A6 := Aside0.mk A60
  clear A60
  by_cases c7 : t103 = true
  ·
   subst c7
   rw [if_pos rfl] at H
   have H' := Aside0.mk H
   clear H
   go_wp2_with (first | ((with_reducible refine gate_callee (f := 62) rfl ?_); refine goesL_ (some 8) rfl rfl Tryd.func62 (by kernel_rfl) rfl #[.int .u8 a1] rfl mc ?_; (with_reducible refine (impl_isHex.calls a1 true _ A6.out).mono ?_); rintro e w' ⟨rfl, ⟨nd, rfl⟩⟩; refine ⟨_, rfl, ?_⟩; have hnb8 := NB101_102.out; have hnc8 := NB102_101.out; obtain ⟨hcz9_0, hcz9_1, hcz9_2, hcz9_3⟩ := zcf4 BK101; obtain ⟨hfz9_0, hfz9_1, hfz9_2, hfz9_3⟩ := zff4 BK101))
   go_meet
   case rel => exact ⟨_, (decide ((a0_2.size : Int) < 13)), (by first | rfl | (simp; done) | (simp [*]; done)), H', ⟨by first | omega | exact Nat.le_refl _⟩, ⟨bk⟩, ⟨bk⟩, ⟨bh⟩⟩
  ·
   replace c7 := Bool.eq_false_iff.mpr c7
   subst c7
   rw [if_neg (show ¬ (false = true) by decide)] at H
   have H' := Aside0.mk H
   clear H
   go_wp2_with (first | ((with_reducible refine gate_callee (f := 62) rfl ?_); refine goesL_ (some 8) rfl rfl Tryd.func62 (by kernel_rfl) rfl #[.int .u8 a1] rfl mc ?_; (with_reducible refine (impl_isHex.calls a1 false _ A6.out).mono ?_); rintro e w' ⟨rfl, ⟨nd, rfl⟩⟩; refine ⟨_, rfl, ?_⟩))
   go_meet
   case rel => exact ⟨_, (false), (by first | rfl | (simp; done) | (simp [*]; done)), H', ⟨by first | omega | exact Nat.le_refl _⟩, ⟨bk⟩, ⟨bk⟩, ⟨bh⟩⟩
 case rest =>
  clear HC3
  try clear p2
  try clear c6
  try clear c7
  try clear c8
  try clear hcz9_0
  try clear hcz9_1
  try clear hcz9_2
  try clear hcz9_3
  try clear hfz9_0
  try clear hfz9_1
  try clear hfz9_2
  try clear hfz9_3
  obtain ⟨kq, x14_2, rfl, HA, HJ2, BK101, BK102, HB⟩ := hcut
  cases kq with
  | zero => exact absurd HA.out (by simp [impl_Chunker_size.j0])
  | succ kj2 =>
   have H := HA.out
   clear HA
   simp only [impl_Chunker_size.j0] at H
   by_cases c10 : x14_2 = true
   ·
    subst c10
    rw [if_pos rfl] at H
    obtain ⟨y104, hy104⟩ : ∃ y_ : List Int, y_ = (([a1] : List Int)) := ⟨_, rfl⟩
    replace H : (if a0_2.size + (strOfNums y104).size ≤ 9223372036854775807 then (some (a0_0, a0_1, a0_2 ++ (strOfNums y104), a0_3)) else (none)) = some (r1, r2, r3, r4) := by first | (rw [hy104]; with_reducible exact H) | (have H2_ := (Option.bind_some _ _).symm.trans H; rw [hy104]; with_reducible exact H2_) | (have H2_ := (Option.bind_some _ _).symm.trans H; with_reducible exact H2_) | with_reducible exact H | (rw [hy104]; exact H) | exact H
    have Ny104 := Aside0.mk hy104
    clear hy104
    by_cases c11 : a0_2.size + (strOfNums y104).size ≤ 9223372036854775807
    ·
     rw [if_pos c11] at H
     have c11b0 := eq_true c11
     have c11b1 : decide (a0_2.size + (strOfNums y104).size ≤ 9223372036854775807) = true := decide_eq_true c11
     try have c11b2 : (9223372036854775807 < a0_2.size + (strOfNums y104).size) = False := eq_false (Nat.not_lt.2 c11)
     simp only [Option.some.injEq, Prod.mk.injEq] at H
     obtain ⟨rfl, rfl, rfl, rfl⟩ := H
     have hnb12 := NB101_102.out
     have hnc12 := NB102_101.out
     obtain ⟨hcz13_0, hcz13_1, hcz13_2, hcz13_3⟩ := zcf4 BK101
     obtain ⟨hfz13_0, hfz13_1, hfz13_2, hfz13_3⟩ := zff4 BK101
     go_wp2_with (first | ((with_reducible refine gate_dst (N := 18) rfl ?_); (try (refine gate_guard (by rfl) ?_; dsimp only)); refine Kd.R_lit (Kd.int .u8) _ 5 ?hg (N := 18) ?hd (xs := ([a1] : List Int)) (inner := [.int .u8 a1]) (ok := fun _ => True) (okp := fun _ => True) ?hr ?hp (fun _ hk => hk) trivial (Below.refl _ _) (Nat.le_refl _) (by simp) ?_; (case hd => rfl); (case hg => rfl); (case hr => first | (go_simp; done) | (go_simp; rfl)); (case hp => exact (Reps.one (show Kd.M (Kd.int .u8) _ _ _ a1 [.int .u8 a1] from rfl) (Reps.none _ _))); intro v105 w14 ho15 hb hg_ hnew_; clear hg_ hnew_; (first | rw [← Ny104.out] at ho15 | (simp only [Int.reduceToNat] at ho15; rw [← Ny104.out] at ho15)); have HO106 := Aside0.mk (Kd.R_lower ho15 (below_size bh)); replace BK101 := bkb_ BK101 hb; replace BK102 := bkb_ BK102 hb; replace HB := Aside0.mk (below_step bh hb); clear hb ho15; have hcv16 := own_string (P := Tryd.prog) Tryd.underlying22 Tryd.underlying5 Tryd.underlying9 (Kd.own_of_R HO106.out); obtain ⟨hcz17_0, hcz17_1, hcz17_2, hcz17_3⟩ := zcf4 BK101; obtain ⟨hfz17_0, hfz17_1, hfz17_2, hfz17_3⟩ := zff4 BK101; obtain ⟨hcz18_0, hcz18_1, hcz18_2, hcz18_3⟩ := zcf4 BK102; obtain ⟨hfz18_0, hfz18_1, hfz18_2, hfz18_3⟩ := zff4 BK102))
     refine bodyPost_ret (results_cell_row rfl _ _ gb102 35 #[.int .i64 a0_0, .int .i64 a0_1, .string (a0_2 ++ (strOfNums y104)), .string a0_3] (0, 0) _ rfl bkp Tryd.underlying35 rfl (by kernel_rfl)) rfl ?_
     exact ⟨er, bh⟩
    ·
     rw [if_neg c11] at H
     exact absurd H (by simp)
   ·
    replace c10 := Bool.eq_false_iff.mpr c10
    subst c10
    rw [if_neg (show ¬ (false = true) by decide)] at H
    obtain ⟨⟨t107, t108⟩, A190, H⟩ := Option.bind_eq_some_iff.mp H
    try dsimp only at H
    have A19 := Aside0.mk A190
    clear A190
    by_cases c20 : a1 = 13
    ·
     rw [if_pos c20] at H
     have c20b0 : (a1 == 13) = true := beq_iff_eq.mpr c20
     have c20b1 : (a1 != 13) = false := bne_eq_false_iff_eq.mpr c20
     clear c20
     by_cases c21 : t108 = true
     ·
      subst c21
      rw [if_pos rfl] at H
      by_cases c22 : t107 > (wrap64 (4000 - (a0_3.size : Int)))
      ·
       rw [if_pos c22] at H
       have c22b0 : decide ((wrap64 (4000 - (a0_3.size : Int))) < t107) = true := decide_eq_true c22
       clear c22
       replace H := Option.bind_eq_some_iff.mp H
       obtain ⟨⟨t109, t110, t111, t112⟩, A230, H⟩ := H
       replace H : (some (t109, t110, t111, t112)) = some (r1, r2, r3, r4) := H
       have A23 := Aside0.mk A230
       clear A230
       simp only [Option.some.injEq, Prod.mk.injEq] at H
       obtain ⟨rfl, rfl, rfl, rfl⟩ := H
       have hnb24 := NB101_102.out
       have hnc24 := NB102_101.out
       obtain ⟨hcz25_0, hcz25_1, hcz25_2, hcz25_3⟩ := zcf4 BK101
       obtain ⟨hfz25_0, hfz25_1, hfz25_2, hfz25_3⟩ := zff4 BK101
       go_wp2_with (first | ((with_reducible refine gate_callee (f := 40) rfl ?_); refine goesL_ (some 26) rfl rfl Tryd.func40 (by kernel_rfl) rfl #[.string a0_2] rfl mc ?_; (with_reducible refine (impl_HexDigits.calls a0_2 t107 true _ A19.out).mono ?_); rintro e w26 ⟨rfl, hb⟩; refine ⟨_, rfl, ?_⟩; replace BK101 := bkb_ BK101 hb; replace BK102 := bkb_ BK102 hb; replace HB := Aside0.mk (below_step bh hb); (try clear hb); (try clear hb2); (try clear hk); (try clear hi); obtain ⟨hcz27_0, hcz27_1, hcz27_2, hcz27_3⟩ := zcf4 BK101; obtain ⟨hfz27_0, hfz27_1, hfz27_2, hfz27_3⟩ := zff4 BK101) | ((with_reducible refine gate_callee (f := 76) rfl ?_); refine goesL_ (some 44) rfl rfl Tryd.func76 (by kernel_rfl) rfl #[.agg #[.int .i64 a0_0, .int .i64 a0_1, .string a0_2, .string a0_3]] rfl mc ?_; (with_reducible refine (impl_Chunker_bad.calls a0_0 a0_1 a0_2 a0_3 t109 t110 t111 t112 _ A23.out).mono ?_); rintro e w28 ⟨rfl, hb⟩; refine ⟨_, rfl, ?_⟩; replace BK101 := bkb_ BK101 hb; replace BK102 := bkb_ BK102 hb; replace HB := Aside0.mk (below_step bh hb); (try clear hb); (try clear hb2); (try clear hk); (try clear hi); obtain ⟨hcz29_0, hcz29_1, hcz29_2, hcz29_3⟩ := zcf4 BK102; obtain ⟨hfz29_0, hfz29_1, hfz29_2, hfz29_3⟩ := zff4 BK102))
       refine bodyPost_ret (results_cell_row rfl _ _ gb102 35 #[.int .i64 t109, .int .i64 t110, .string t111, .string t112] (0, 0) _ rfl bkp Tryd.underlying35 rfl (by kernel_rfl)) rfl ?_
       exact ⟨er, bh⟩
      ·
       rw [if_neg c22] at H
       have c22b0 : decide ((wrap64 (4000 - (a0_3.size : Int))) < t107) = false := decide_eq_false c22
       clear c22
       simp only [Option.some.injEq, Prod.mk.injEq] at H
       obtain ⟨rfl, rfl, rfl, rfl⟩ := H
       have hnb30 := NB101_102.out
       have hnc30 := NB102_101.out
       obtain ⟨hcz31_0, hcz31_1, hcz31_2, hcz31_3⟩ := zcf4 BK101
       obtain ⟨hfz31_0, hfz31_1, hfz31_2, hfz31_3⟩ := zff4 BK101
       go_wp2_with (first | ((with_reducible refine gate_callee (f := 40) rfl ?_); refine goesL_ (some 26) rfl rfl Tryd.func40 (by kernel_rfl) rfl #[.string a0_2] rfl mc ?_; (with_reducible refine (impl_HexDigits.calls a0_2 t107 true _ A19.out).mono ?_); rintro e w32 ⟨rfl, hb⟩; refine ⟨_, rfl, ?_⟩; replace BK101 := bkb_ BK101 hb; replace BK102 := bkb_ BK102 hb; replace HB := Aside0.mk (below_step bh hb); (try clear hb); (try clear hb2); (try clear hk); (try clear hi); obtain ⟨hcz33_0, hcz33_1, hcz33_2, hcz33_3⟩ := zcf4 BK101; obtain ⟨hfz33_0, hfz33_1, hfz33_2, hfz33_3⟩ := zff4 BK101; obtain ⟨hcz34_0, hcz34_1, hcz34_2, hcz34_3⟩ := zcf4 BK102; obtain ⟨hfz34_0, hfz34_1, hfz34_2, hfz34_3⟩ := zff4 BK102))
       refine bodyPost_ret (results_cell_row rfl _ _ gb102 35 #[.int .i64 2, .int .i64 t107, .string (⟨#[]⟩ : ByteArray), .string a0_3] (0, 0) _ rfl bkp Tryd.underlying35 rfl (by kernel_rfl)) rfl ?_
       exact ⟨er, bh⟩
     ·
      replace c21 := Bool.eq_false_iff.mpr c21
      subst c21
      rw [if_neg (show ¬ (false = true) by decide)] at H
      replace H := Option.bind_eq_some_iff.mp H
      obtain ⟨⟨t113, t114, t115, t116⟩, A350, H⟩ := H
      replace H : (some (t113, t114, t115, t116)) = some (r1, r2, r3, r4) := H
      have A35 := Aside0.mk A350
      clear A350
      simp only [Option.some.injEq, Prod.mk.injEq] at H
      obtain ⟨rfl, rfl, rfl, rfl⟩ := H
      have hnb36 := NB101_102.out
      have hnc36 := NB102_101.out
      obtain ⟨hcz37_0, hcz37_1, hcz37_2, hcz37_3⟩ := zcf4 BK101
      obtain ⟨hfz37_0, hfz37_1, hfz37_2, hfz37_3⟩ := zff4 BK101
      go_wp2_with (first | ((with_reducible refine gate_callee (f := 40) rfl ?_); refine goesL_ (some 26) rfl rfl Tryd.func40 (by kernel_rfl) rfl #[.string a0_2] rfl mc ?_; (with_reducible refine (impl_HexDigits.calls a0_2 t107 false _ A19.out).mono ?_); rintro e w38 ⟨rfl, hb⟩; refine ⟨_, rfl, ?_⟩; replace BK101 := bkb_ BK101 hb; replace BK102 := bkb_ BK102 hb; replace HB := Aside0.mk (below_step bh hb); (try clear hb); (try clear hb2); (try clear hk); (try clear hi); obtain ⟨hcz39_0, hcz39_1, hcz39_2, hcz39_3⟩ := zcf4 BK101; obtain ⟨hfz39_0, hfz39_1, hfz39_2, hfz39_3⟩ := zff4 BK101) | ((with_reducible refine gate_callee (f := 76) rfl ?_); refine goesL_ (some 44) rfl rfl Tryd.func76 (by kernel_rfl) rfl #[.agg #[.int .i64 a0_0, .int .i64 a0_1, .string a0_2, .string a0_3]] rfl mc ?_; (with_reducible refine (impl_Chunker_bad.calls a0_0 a0_1 a0_2 a0_3 t113 t114 t115 t116 _ A35.out).mono ?_); rintro e w40 ⟨rfl, hb⟩; refine ⟨_, rfl, ?_⟩; replace BK101 := bkb_ BK101 hb; replace BK102 := bkb_ BK102 hb; replace HB := Aside0.mk (below_step bh hb); (try clear hb); (try clear hb2); (try clear hk); (try clear hi); obtain ⟨hcz41_0, hcz41_1, hcz41_2, hcz41_3⟩ := zcf4 BK102; obtain ⟨hfz41_0, hfz41_1, hfz41_2, hfz41_3⟩ := zff4 BK102))
      refine bodyPost_ret (results_cell_row rfl _ _ gb102 35 #[.int .i64 t113, .int .i64 t114, .string t115, .string t116] (0, 0) _ rfl bkp Tryd.underlying35 rfl (by kernel_rfl)) rfl ?_
      exact ⟨er, bh⟩
    ·
     rw [if_neg c20] at H
     have c20b0 : (a1 == 13) = false := beq_eq_false_iff_ne.mpr c20
     have c20b1 : (a1 != 13) = true := bne_iff_ne.mpr c20
     replace H := Option.bind_eq_some_iff.mp H
     obtain ⟨⟨t117, t118, t119, t120⟩, A420, H⟩ := H
     replace H : (some (t117, t118, t119, t120)) = some (r1, r2, r3, r4) := H
     have A42 := Aside0.mk A420
     clear A420
     simp only [Option.some.injEq, Prod.mk.injEq] at H
     obtain ⟨rfl, rfl, rfl, rfl⟩ := H
     have hnb43 := NB101_102.out
     have hnc43 := NB102_101.out
     obtain ⟨hcz44_0, hcz44_1, hcz44_2, hcz44_3⟩ := zcf4 BK101
     obtain ⟨hfz44_0, hfz44_1, hfz44_2, hfz44_3⟩ := zff4 BK101
     go_wp2_with (first | ((with_reducible refine gate_callee (f := 40) rfl ?_); refine goesL_ (some 26) rfl rfl Tryd.func40 (by kernel_rfl) rfl #[.string a0_2] rfl mc ?_; (with_reducible refine (impl_HexDigits.calls a0_2 t107 t108 _ A19.out).mono ?_); rintro e w45 ⟨rfl, hb⟩; refine ⟨_, rfl, ?_⟩; replace BK101 := bkb_ BK101 hb; replace BK102 := bkb_ BK102 hb; replace HB := Aside0.mk (below_step bh hb); (try clear hb); (try clear hb2); (try clear hk); (try clear hi); obtain ⟨hcz46_0, hcz46_1, hcz46_2, hcz46_3⟩ := zcf4 BK101; obtain ⟨hfz46_0, hfz46_1, hfz46_2, hfz46_3⟩ := zff4 BK101) | ((with_reducible refine gate_callee (f := 76) rfl ?_); refine goesL_ (some 44) rfl rfl Tryd.func76 (by kernel_rfl) rfl #[.agg #[.int .i64 a0_0, .int .i64 a0_1, .string a0_2, .string a0_3]] rfl mc ?_; (with_reducible refine (impl_Chunker_bad.calls a0_0 a0_1 a0_2 a0_3 t117 t118 t119 t120 _ A42.out).mono ?_); rintro e w47 ⟨rfl, hb⟩; refine ⟨_, rfl, ?_⟩; replace BK101 := bkb_ BK101 hb; replace BK102 := bkb_ BK102 hb; replace HB := Aside0.mk (below_step bh hb); (try clear hb); (try clear hb2); (try clear hk); (try clear hi); obtain ⟨hcz48_0, hcz48_1, hcz48_2, hcz48_3⟩ := zcf4 BK102; obtain ⟨hfz48_0, hfz48_1, hfz48_2, hfz48_3⟩ := zff4 BK102))
     refine bodyPost_ret (results_cell_row rfl _ _ gb102 35 #[.int .i64 t117, .int .i64 t118, .string t119, .string t120] (0, 0) _ rfl bkp Tryd.underlying35 rfl (by kernel_rfl)) rfl ?_
     exact ⟨er, bh⟩
/-! ### impl_Chunker_eat: function 58 -/
def impl_Chunker_eat.j0 : Nat → Int → Int → Int → Int → Bool → Int → Int → ByteArray → ByteArray → Option (Int × Int × ByteArray × ByteArray)
 | 0, _, _, _, _, _, _, _, _, _ => none
 | k + 1, x1, x5, x6, x8, x9, x102000, x102001, x102002, x102003 => if x9 = true then (some (x102000, x102001, x102002, x102003)) else (if x8 = 1 then ((impl_Chunker_size.f k x102000 x102001 x102002 x102003 x1).bind fun bt103 => (some (bt103.1, bt103.2.1, bt103.2.2.1, bt103.2.2.2))) else (if x8 = 3 then ((some (([x1] : List Int) : List Int)).bind fun y107 => (if x102003.size + (strOfNums y107).size ≤ 9223372036854775807 then (if (wrap64 (x102001 - 1)) = 0 then (some (4, wrap64 (x102001 - 1), x102002, x102003 ++ (strOfNums y107))) else (some (x102000, wrap64 (x102001 - 1), x102002, x102003 ++ (strOfNums y107)))) else (none))) else (if x8 = 2 then (if x102001 = 0 then (if x1 = x5 then (some (6, x102001, x102002, x102003)) else ((impl_Chunker_bad.f x102000 x102001 x102002 x102003).bind fun bt110 => (some (bt110.1, bt110.2.1, bt110.2.2.1, bt110.2.2.2)))) else (if x1 = x5 then (some (3, x102001, x102002, x102003)) else ((impl_Chunker_bad.f x102000 x102001 x102002 x102003).bind fun bt114 => (some (bt114.1, bt114.2.1, bt114.2.2.1, bt114.2.2.2))))) else (if x8 = 4 then (if x1 = 13 then (some (5, x102001, x102002, x102003)) else ((impl_Chunker_bad.f x102000 x102001 x102002 x102003).bind fun bt118 => (some (bt118.1, bt118.2.1, bt118.2.2.1, bt118.2.2.2)))) else (if x8 = 6 then (if x1 = 13 then (some (7, x102001, x102002, x102003)) else ((impl_Chunker_bad.f x102000 x102001 x102002 x102003).bind fun bt122 => (some (bt122.1, bt122.2.1, bt122.2.2.1, bt122.2.2.2)))) else (if x8 = 7 then (if x1 = x5 then (some (8, x102001, x102002, x102003)) else ((impl_Chunker_bad.f x102000 x102001 x102002 x102003).bind fun bt126 => (some (bt126.1, bt126.2.1, bt126.2.2.1, bt126.2.2.2)))) else (if x1 = x5 then (some (x6, x102001, x102002, x102003)) else ((impl_Chunker_bad.f x102000 x102001 x102002 x102003).bind fun bt130 => (some (bt130.1, bt130.2.1, bt130.2.2.1, bt130.2.2.2))))))))))
def impl_Chunker_eat.f (k : Nat) (a0_0 : Int) (a0_1 : Int) (a0_2 : ByteArray) (a0_3 : ByteArray) (a1 : Int) : Option (Int × Int × ByteArray × ByteArray) := if a0_0 = 8 then (impl_Chunker_eat.j0 k a1 10 1 a0_0 (a0_0 == 8) a0_0 a0_1 a0_2 a0_3) else (impl_Chunker_eat.j0 k a1 10 1 a0_0 (a0_0 == 9) a0_0 a0_1 a0_2 a0_3)
theorem impl_Chunker_eat.mono_l : ∀ k, (∀ y0 y1 y2 y3 y4 y5 y6 y7 y8, LeO (impl_Chunker_eat.j0 k y0 y1 y2 y3 y4 y5 y6 y7 y8) (impl_Chunker_eat.j0 (k + 1) y0 y1 y2 y3 y4 y5 y6 y7 y8))
 | 0 => fun _ _ _ _ _ _ _ _ _ r h => by simp [impl_Chunker_eat.j0] at h
 | k + 1 => by
  have ih0 := impl_Chunker_eat.mono_l k
  ·
   intro y0 y1 y2 y3 y4 y5 y6 y7 y8
   unfold impl_Chunker_eat.j0
   repeat' first
   | (with_reducible exact ih0 _ _ _ _ _ _ _ _ _)
   | (with_reducible exact impl_Chunker_size.mono _ _ _ _ _ _)
   | (with_reducible exact LeO.refl _)
   | (with_reducible exact LeO.none _)
   | (with_reducible refine LeO.ite ?_ ?_)
   | (with_reducible refine LeO.bind ?_ (fun _ => ?_))
   | exact ih0 _ _ _ _ _ _ _ _ _
   | exact impl_Chunker_size.mono _ _ _ _ _ _
   | exact LeO.none _
   | refine LeO.ite ?_ ?_
   | refine LeO.bind ?_ (fun _ => ?_)
theorem impl_Chunker_eat.mono : ∀ a0 a1 a2 a3 a4 k, LeO (impl_Chunker_eat.f k a0 a1 a2 a3 a4) (impl_Chunker_eat.f (k + 1) a0 a1 a2 a3 a4) := by
 intro a0 a1 a2 a3 a4 k
 have ih0 := impl_Chunker_eat.mono_l k
 unfold impl_Chunker_eat.f
 repeat' first
   | (with_reducible exact ih0 _ _ _ _ _ _ _ _ _)
   | (with_reducible exact impl_Chunker_size.mono _ _ _ _ _ _)
   | (with_reducible exact LeO.refl _)
   | (with_reducible exact LeO.none _)
   | (with_reducible refine LeO.ite ?_ ?_)
   | (with_reducible refine LeO.bind ?_ (fun _ => ?_))
   | exact ih0 _ _ _ _ _ _ _ _ _
   | exact impl_Chunker_size.mono _ _ _ _ _ _
   | exact LeO.none _
   | refine LeO.ite ?_ ?_
   | refine LeO.bind ?_ (fun _ => ?_)
set_option maxHeartbeats 8000000 in
set_option maxRecDepth 100000 in
theorem impl_Chunker_eat.calls (k : Nat) (a0_0 : Int) (a0_1 : Int) (a0_2 : ByteArray) (a0_3 : ByteArray) (a1 : Int) (r1 : Int) (r2 : Int) (r3 : ByteArray) (r4 : ByteArray) (w : World) (h : impl_Chunker_eat.f k a0_0 a0_1 a0_2 a0_3 a1 = some (r1, r2, r3, r4)) :
  Calls Tryd.prog 58 #[.agg #[.int .i64 a0_0, .int .i64 a0_1, .string a0_2, .string a0_3], .int .u8 a1] w fun e w' => e = .returned (.agg #[.int .i64 r1, .int .i64 r2, .string r3, .string r4]) ∧ Below w.heap.size w w' := by
 have hu35 := Tryd.underlying35
 have HB := Aside0.mk (Below.refl w.heap.size w)
 have H : (if a0_0 = 8 then (impl_Chunker_eat.j0 k a1 10 1 a0_0 (a0_0 == 8) a0_0 a0_1 a0_2 a0_3) else (impl_Chunker_eat.j0 k a1 10 1 a0_0 (a0_0 == 9) a0_0 a0_1 a0_2 a0_3)) = some (r1, r2, r3, r4) := h
 clear h
 have HC3 := Aside0.mk H
 clear H
 go_enter Tryd.func58, Tryd.ntmps58
 go_upto_if 9 with (first | ((with_reducible refine gate_dst (N := 2) rfl ?_); refine bx 2 #[.int .i64 a0_0, .int .i64 a0_1, .string a0_2, .string a0_3] 35 ?_; intro gb101 hg w4 hbox hb; have BK101 := Aside0.mk (hbox); have GW101 := Aside0.mk (bz hg); have GE101 := Aside0.mk (bz hg); replace HB := Aside0.mk (below_step bh hb); clear hb hbox hg) | ((with_reducible refine gate_dst (N := 4) rfl ?_); refine bx 4 #[.int .i64 0, .int .i64 0, .string (⟨#[]⟩ : ByteArray), .string (⟨#[]⟩ : ByteArray)] 35 ?_; intro gb102 hg w5 hbox hb; have BK102 := Aside0.mk (hbox); have GW102 := Aside0.mk (bz hg); have GE102 := Aside0.mk (bz hg); have NB101_102 := Aside0.mk ((nl (o := .cells #[.int .i64 a0_0, .int .i64 a0_1, .string a0_2, .string a0_3] 35 (0, 0)) hg bk : gb101 ≠ gb102)); have NB102_101 := Aside0.mk ((ng (o := .cells #[.int .i64 a0_0, .int .i64 a0_1, .string a0_2, .string a0_3] 35 (0, 0)) hg bk : gb102 ≠ gb101)); replace BK101 := bkb_ BK101 hb; replace HB := Aside0.mk (below_step bh hb); clear hb hbox hg; have hnb6 := NB101_102.out; have hnc6 := NB102_101.out; obtain ⟨hcz7_0, hcz7_1, hcz7_2, hcz7_3⟩ := zcf4 BK101; obtain ⟨hfz7_0, hfz7_1, hfz7_2, hfz7_3⟩ := zff4 BK101))
 (try simp only [Act.put, List.setIfInBounds_toArray, List.set_cons_zero, List.set_cons_succ])
 go_cut [9] (fun v9 wc => ∃ (kq : Nat) (x9_2 : Bool), v9 = .bool x9_2 ∧ Aside0 (impl_Chunker_eat.j0 kq a1 10 1 a0_0 x9_2 a0_0 a0_1 a0_2 a0_3 = some (r1, r2, r3, r4)) ∧ Aside0 (kq ≤ k) ∧ Aside0 (wc.heap[gb101]? = some (.cells #[.int .i64 a0_0, .int .i64 a0_1, .string a0_2, .string a0_3] 35 (0, 0))) ∧ Aside0 (wc.heap[gb102]? = some (.cells #[.int .i64 0, .int .i64 0, .string (⟨#[]⟩ : ByteArray), .string (⟨#[]⟩ : ByteArray)] 35 (0, 0))) ∧ Aside0 (Below w.heap.size w wc))
 case first =>
  have H := HC3.out
  clear HC3
  by_cases c8 : a0_0 = 8
  ·
   rw [if_pos c8] at H
   have c8b0 : (a0_0 == 8) = true := beq_iff_eq.mpr c8
   have c8b1 : (a0_0 != 8) = false := bne_eq_false_iff_eq.mpr c8
   clear c8
   (first | rw [c8b0] | (simp only [i64_w, i32_w]; rw [c8b0]) | skip)
   have H' := Aside0.mk H
   clear H
   go_wp2
   go_meet
   case rel => exact ⟨_, ((a0_0 == 8)), (by first | rfl | (simp; done) | (simp [*]; done)), H', ⟨by first | omega | exact Nat.le_refl _⟩, ⟨bk⟩, ⟨bk⟩, ⟨bh⟩⟩
  ·
   rw [if_neg c8] at H
   have c8b0 : (a0_0 == 8) = false := beq_eq_false_iff_ne.mpr c8
   have c8b1 : (a0_0 != 8) = true := bne_iff_ne.mpr c8
   (first | rw [c8b0] | (simp only [i64_w, i32_w]; rw [c8b0]) | skip)
   have H' := Aside0.mk H
   clear H
   go_wp2
   go_meet
   case rel => exact ⟨_, ((a0_0 == 9)), (by first | rfl | (simp; done) | (simp [*]; done)), H', ⟨by first | omega | exact Nat.le_refl _⟩, ⟨bk⟩, ⟨bk⟩, ⟨bh⟩⟩
 case rest =>
  clear HC3
  try clear p2
  try clear c5
  try clear c6
  try clear c8
  try clear c8b0
  try clear c8b1
  try clear hcz7_0
  try clear hcz7_1
  try clear hcz7_2
  try clear hcz7_3
  try clear hfz7_0
  try clear hfz7_1
  try clear hfz7_2
  try clear hfz7_3
  obtain ⟨kq, x9_2, rfl, HA, HJ2, BK101, BK102, HB⟩ := hcut
  cases kq with
  | zero => exact absurd HA.out (by simp [impl_Chunker_eat.j0])
  | succ kj2 =>
   have H := HA.out
   clear HA
   simp only [impl_Chunker_eat.j0] at H
   by_cases c9 : x9_2 = true
   ·
    subst c9
    have H1 : (some (a0_0, a0_1, a0_2, a0_3)) = some (r1, r2, r3, r4) := by rw [if_pos rfl] at H; exact H
    clear H
    have H := H1
    clear H1
    simp only [Option.some.injEq, Prod.mk.injEq] at H
    obtain ⟨rfl, rfl, rfl, rfl⟩ := H
    have hnb10 := NB101_102.out
    have hnc10 := NB102_101.out
    obtain ⟨hcz11_0, hcz11_1, hcz11_2, hcz11_3⟩ := zcf4 BK101
    obtain ⟨hfz11_0, hfz11_1, hfz11_2, hfz11_3⟩ := zff4 BK101
    obtain ⟨hcz12_0, hcz12_1, hcz12_2, hcz12_3⟩ := zcf4 BK102
    obtain ⟨hfz12_0, hfz12_1, hfz12_2, hfz12_3⟩ := zff4 BK102
    go_wp2
    refine bodyPost_ret (results_cell_row rfl _ _ gb102 35 #[.int .i64 a0_0, .int .i64 a0_1, .string a0_2, .string a0_3] (0, 0) _ rfl bkp Tryd.underlying35 rfl (by kernel_rfl)) rfl ?_
    exact ⟨er, bh⟩
   ·
    replace c9 := Bool.eq_false_iff.mpr c9
    subst c9
    rw [if_neg (show ¬ (false = true) by decide)] at H
    by_cases c13 : a0_0 = 1
    ·
     rw [if_pos c13] at H
     have c13b0 : (a0_0 == 1) = true := beq_iff_eq.mpr c13
     have c13b1 : (a0_0 != 1) = false := bne_eq_false_iff_eq.mpr c13
     clear c13
     replace H := Option.bind_eq_some_iff.mp H
     obtain ⟨⟨t103, t104, t105, t106⟩, A140, H⟩ := H
     replace H : (some (t103, t104, t105, t106)) = some (r1, r2, r3, r4) := H
     have A14 := Aside0.mk A140
     clear A140
     simp only [Option.some.injEq, Prod.mk.injEq] at H
     obtain ⟨rfl, rfl, rfl, rfl⟩ := H
     have hnb15 := NB101_102.out
     have hnc15 := NB102_101.out
     obtain ⟨hcz16_0, hcz16_1, hcz16_2, hcz16_3⟩ := zcf4 BK101
     obtain ⟨hfz16_0, hfz16_1, hfz16_2, hfz16_3⟩ := zff4 BK101
     go_wp2_with (first | ((with_reducible refine gate_callee (f := 75) rfl ?_); refine goesL_ (some 17) rfl rfl Tryd.func75 (by kernel_rfl) rfl #[.agg #[.int .i64 a0_0, .int .i64 a0_1, .string a0_2, .string a0_3], .int .u8 a1] rfl mc ?_; (with_reducible refine (impl_Chunker_size.calls kj2 a0_0 a0_1 a0_2 a0_3 a1 t103 t104 t105 t106 _ A14.out).mono ?_); rintro e w17 ⟨rfl, hb⟩; refine ⟨_, rfl, ?_⟩; replace BK101 := bkb_ BK101 hb; replace BK102 := bkb_ BK102 hb; replace HB := Aside0.mk (below_step bh hb); (try clear hb); (try clear hb2); (try clear hk); (try clear hi); obtain ⟨hcz18_0, hcz18_1, hcz18_2, hcz18_3⟩ := zcf4 BK102; obtain ⟨hfz18_0, hfz18_1, hfz18_2, hfz18_3⟩ := zff4 BK102))
     refine bodyPost_ret (results_cell_row rfl _ _ gb102 35 #[.int .i64 t103, .int .i64 t104, .string t105, .string t106] (0, 0) _ rfl bkp Tryd.underlying35 rfl (by kernel_rfl)) rfl ?_
     exact ⟨er, bh⟩
    ·
     rw [if_neg c13] at H
     have c13b0 : (a0_0 == 1) = false := beq_eq_false_iff_ne.mpr c13
     have c13b1 : (a0_0 != 1) = true := bne_iff_ne.mpr c13
     by_cases c19 : a0_0 = 3
     ·
      rw [if_pos c19] at H
      have c19b0 : (a0_0 == 3) = true := beq_iff_eq.mpr c19
      have c19b1 : (a0_0 != 3) = false := bne_eq_false_iff_eq.mpr c19
      clear c19
      obtain ⟨y107, hy107⟩ : ∃ y_ : List Int, y_ = (([a1] : List Int)) := ⟨_, rfl⟩
      replace H : (if a0_3.size + (strOfNums y107).size ≤ 9223372036854775807 then (if (wrap64 (a0_1 - 1)) = 0 then (some (4, wrap64 (a0_1 - 1), a0_2, a0_3 ++ (strOfNums y107))) else (some (a0_0, wrap64 (a0_1 - 1), a0_2, a0_3 ++ (strOfNums y107)))) else (none)) = some (r1, r2, r3, r4) := by first | (rw [hy107]; with_reducible exact H) | (have H2_ := (Option.bind_some _ _).symm.trans H; rw [hy107]; with_reducible exact H2_) | (have H2_ := (Option.bind_some _ _).symm.trans H; with_reducible exact H2_) | with_reducible exact H | (rw [hy107]; exact H) | exact H
      have Ny107 := Aside0.mk hy107
      clear hy107
      by_cases c20 : a0_3.size + (strOfNums y107).size ≤ 9223372036854775807
      ·
       rw [if_pos c20] at H
       have c20b0 := eq_true c20
       have c20b1 : decide (a0_3.size + (strOfNums y107).size ≤ 9223372036854775807) = true := decide_eq_true c20
       try have c20b2 : (9223372036854775807 < a0_3.size + (strOfNums y107).size) = False := eq_false (Nat.not_lt.2 c20)
       by_cases c21 : (wrap64 (a0_1 - 1)) = 0
       ·
        rw [if_pos c21] at H
        have c21b0 : ((wrap64 (a0_1 - 1)) == 0) = true := beq_iff_eq.mpr c21
        have c21b1 : ((wrap64 (a0_1 - 1)) != 0) = false := bne_eq_false_iff_eq.mpr c21
        clear c21
        simp only [Option.some.injEq, Prod.mk.injEq] at H
        obtain ⟨rfl, rfl, rfl, rfl⟩ := H
        have hnb22 := NB101_102.out
        have hnc22 := NB102_101.out
        obtain ⟨hcz23_0, hcz23_1, hcz23_2, hcz23_3⟩ := zcf4 BK101
        obtain ⟨hfz23_0, hfz23_1, hfz23_2, hfz23_3⟩ := zff4 BK101
        go_wp2_with (first | ((with_reducible refine gate_dst (N := 23) rfl ?_); refine Kd.R_lit (Kd.int .u8) _ 5 ?hg (N := 23) ?hd (xs := ([a1] : List Int)) (inner := [.int .u8 a1]) (ok := fun _ => True) (okp := fun _ => True) ?hr ?hp (fun _ hk => hk) trivial (Below.refl _ _) (Nat.le_refl _) (by simp) ?_; (case hd => rfl); (case hg => rfl); (case hr => first | (go_simp; done) | (go_simp; rfl)); (case hp => exact (Reps.one (show Kd.M (Kd.int .u8) _ _ _ a1 [.int .u8 a1] from rfl) (Reps.none _ _))); intro v108 w24 ho25 hb hg_ hnew_; clear hg_ hnew_; (first | rw [← Ny107.out] at ho25 | (simp only [Int.reduceToNat] at ho25; rw [← Ny107.out] at ho25)); have HO109 := Aside0.mk (Kd.R_lower ho25 (below_size bh)); replace BK101 := bkb_ BK101 hb; replace BK102 := bkb_ BK102 hb; replace HB := Aside0.mk (below_step bh hb); clear hb ho25; have hcv26 := own_string (P := Tryd.prog) Tryd.underlying22 Tryd.underlying5 Tryd.underlying9 (Kd.own_of_R HO109.out); obtain ⟨hcz27_0, hcz27_1, hcz27_2, hcz27_3⟩ := zcf4 BK101; obtain ⟨hfz27_0, hfz27_1, hfz27_2, hfz27_3⟩ := zff4 BK101; obtain ⟨hcz28_0, hcz28_1, hcz28_2, hcz28_3⟩ := zcf4 BK102; obtain ⟨hfz28_0, hfz28_1, hfz28_2, hfz28_3⟩ := zff4 BK102))
        refine bodyPost_ret (results_cell_row rfl _ _ gb102 35 #[.int .i64 4, .int .i64 (wrap64 (a0_1 - 1)), .string a0_2, .string (a0_3 ++ (strOfNums y107))] (0, 0) _ rfl bkp Tryd.underlying35 rfl (by kernel_rfl)) rfl ?_
        exact ⟨er, bh⟩
       ·
        rw [if_neg c21] at H
        have c21b0 : ((wrap64 (a0_1 - 1)) == 0) = false := beq_eq_false_iff_ne.mpr c21
        have c21b1 : ((wrap64 (a0_1 - 1)) != 0) = true := bne_iff_ne.mpr c21
        simp only [Option.some.injEq, Prod.mk.injEq] at H
        obtain ⟨rfl, rfl, rfl, rfl⟩ := H
        have hnb29 := NB101_102.out
        have hnc29 := NB102_101.out
        obtain ⟨hcz30_0, hcz30_1, hcz30_2, hcz30_3⟩ := zcf4 BK101
        obtain ⟨hfz30_0, hfz30_1, hfz30_2, hfz30_3⟩ := zff4 BK101
        go_wp2_with (first | ((with_reducible refine gate_dst (N := 23) rfl ?_); refine Kd.R_lit (Kd.int .u8) _ 5 ?hg (N := 23) ?hd (xs := ([a1] : List Int)) (inner := [.int .u8 a1]) (ok := fun _ => True) (okp := fun _ => True) ?hr ?hp (fun _ hk => hk) trivial (Below.refl _ _) (Nat.le_refl _) (by simp) ?_; (case hd => rfl); (case hg => rfl); (case hr => first | (go_simp; done) | (go_simp; rfl)); (case hp => exact (Reps.one (show Kd.M (Kd.int .u8) _ _ _ a1 [.int .u8 a1] from rfl) (Reps.none _ _))); intro v108 w31 ho32 hb hg_ hnew_; clear hg_ hnew_; (first | rw [← Ny107.out] at ho32 | (simp only [Int.reduceToNat] at ho32; rw [← Ny107.out] at ho32)); have HO109 := Aside0.mk (Kd.R_lower ho32 (below_size bh)); replace BK101 := bkb_ BK101 hb; replace BK102 := bkb_ BK102 hb; replace HB := Aside0.mk (below_step bh hb); clear hb ho32; have hcv33 := own_string (P := Tryd.prog) Tryd.underlying22 Tryd.underlying5 Tryd.underlying9 (Kd.own_of_R HO109.out); obtain ⟨hcz34_0, hcz34_1, hcz34_2, hcz34_3⟩ := zcf4 BK101; obtain ⟨hfz34_0, hfz34_1, hfz34_2, hfz34_3⟩ := zff4 BK101; obtain ⟨hcz35_0, hcz35_1, hcz35_2, hcz35_3⟩ := zcf4 BK102; obtain ⟨hfz35_0, hfz35_1, hfz35_2, hfz35_3⟩ := zff4 BK102))
        refine bodyPost_ret (results_cell_row rfl _ _ gb102 35 #[.int .i64 a0_0, .int .i64 (wrap64 (a0_1 - 1)), .string a0_2, .string (a0_3 ++ (strOfNums y107))] (0, 0) _ rfl bkp Tryd.underlying35 rfl (by kernel_rfl)) rfl ?_
        exact ⟨er, bh⟩
      ·
       rw [if_neg c20] at H
       exact absurd H (by simp)
     ·
      rw [if_neg c19] at H
      have c19b0 : (a0_0 == 3) = false := beq_eq_false_iff_ne.mpr c19
      have c19b1 : (a0_0 != 3) = true := bne_iff_ne.mpr c19
      by_cases c36 : a0_0 = 2
      ·
       rw [if_pos c36] at H
       have c36b0 : (a0_0 == 2) = true := beq_iff_eq.mpr c36
       have c36b1 : (a0_0 != 2) = false := bne_eq_false_iff_eq.mpr c36
       clear c36
       by_cases c37 : a0_1 = 0
       ·
        rw [if_pos c37] at H
        have c37b0 : (a0_1 == 0) = true := beq_iff_eq.mpr c37
        have c37b1 : (a0_1 != 0) = false := bne_eq_false_iff_eq.mpr c37
        clear c37
        by_cases c38 : a1 = 10
        ·
         rw [if_pos c38] at H
         have c38b0 : (a1 == 10) = true := beq_iff_eq.mpr c38
         have c38b1 : (a1 != 10) = false := bne_eq_false_iff_eq.mpr c38
         clear c38
         simp only [Option.some.injEq, Prod.mk.injEq] at H
         obtain ⟨rfl, rfl, rfl, rfl⟩ := H
         have hnb39 := NB101_102.out
         have hnc39 := NB102_101.out
         obtain ⟨hcz40_0, hcz40_1, hcz40_2, hcz40_3⟩ := zcf4 BK101
         obtain ⟨hfz40_0, hfz40_1, hfz40_2, hfz40_3⟩ := zff4 BK101
         obtain ⟨hcz41_0, hcz41_1, hcz41_2, hcz41_3⟩ := zcf4 BK102
         obtain ⟨hfz41_0, hfz41_1, hfz41_2, hfz41_3⟩ := zff4 BK102
         go_wp2
         refine bodyPost_ret (results_cell_row rfl _ _ gb102 35 #[.int .i64 6, .int .i64 a0_1, .string a0_2, .string a0_3] (0, 0) _ rfl bkp Tryd.underlying35 rfl (by kernel_rfl)) rfl ?_
         exact ⟨er, bh⟩
        ·
         rw [if_neg c38] at H
         have c38b0 : (a1 == 10) = false := beq_eq_false_iff_ne.mpr c38
         have c38b1 : (a1 != 10) = true := bne_iff_ne.mpr c38
         replace H := Option.bind_eq_some_iff.mp H
         obtain ⟨⟨t110, t111, t112, t113⟩, A420, H⟩ := H
         replace H : (some (t110, t111, t112, t113)) = some (r1, r2, r3, r4) := H
         have A42 := Aside0.mk A420
         clear A420
         simp only [Option.some.injEq, Prod.mk.injEq] at H
         obtain ⟨rfl, rfl, rfl, rfl⟩ := H
         have hnb43 := NB101_102.out
         have hnc43 := NB102_101.out
         obtain ⟨hcz44_0, hcz44_1, hcz44_2, hcz44_3⟩ := zcf4 BK101
         obtain ⟨hfz44_0, hfz44_1, hfz44_2, hfz44_3⟩ := zff4 BK101
         go_wp2_with (first | ((with_reducible refine gate_callee (f := 76) rfl ?_); refine goesL_ (some 51) rfl rfl Tryd.func76 (by kernel_rfl) rfl #[.agg #[.int .i64 a0_0, .int .i64 a0_1, .string a0_2, .string a0_3]] rfl mc ?_; (with_reducible refine (impl_Chunker_bad.calls a0_0 a0_1 a0_2 a0_3 t110 t111 t112 t113 _ A42.out).mono ?_); rintro e w45 ⟨rfl, hb⟩; refine ⟨_, rfl, ?_⟩; replace BK101 := bkb_ BK101 hb; replace BK102 := bkb_ BK102 hb; replace HB := Aside0.mk (below_step bh hb); (try clear hb); (try clear hb2); (try clear hk); (try clear hi); obtain ⟨hcz46_0, hcz46_1, hcz46_2, hcz46_3⟩ := zcf4 BK102; obtain ⟨hfz46_0, hfz46_1, hfz46_2, hfz46_3⟩ := zff4 BK102))
         refine bodyPost_ret (results_cell_row rfl _ _ gb102 35 #[.int .i64 t110, .int .i64 t111, .string t112, .string t113] (0, 0) _ rfl bkp Tryd.underlying35 rfl (by kernel_rfl)) rfl ?_
         exact ⟨er, bh⟩
       ·
        rw [if_neg c37] at H
        have c37b0 : (a0_1 == 0) = false := beq_eq_false_iff_ne.mpr c37
        have c37b1 : (a0_1 != 0) = true := bne_iff_ne.mpr c37
        by_cases c47 : a1 = 10
        ·
         rw [if_pos c47] at H
         have c47b0 : (a1 == 10) = true := beq_iff_eq.mpr c47
         have c47b1 : (a1 != 10) = false := bne_eq_false_iff_eq.mpr c47
         clear c47
         simp only [Option.some.injEq, Prod.mk.injEq] at H
         obtain ⟨rfl, rfl, rfl, rfl⟩ := H
         have hnb48 := NB101_102.out
         have hnc48 := NB102_101.out
         obtain ⟨hcz49_0, hcz49_1, hcz49_2, hcz49_3⟩ := zcf4 BK101
         obtain ⟨hfz49_0, hfz49_1, hfz49_2, hfz49_3⟩ := zff4 BK101
         obtain ⟨hcz50_0, hcz50_1, hcz50_2, hcz50_3⟩ := zcf4 BK102
         obtain ⟨hfz50_0, hfz50_1, hfz50_2, hfz50_3⟩ := zff4 BK102
         go_wp2
         refine bodyPost_ret (results_cell_row rfl _ _ gb102 35 #[.int .i64 3, .int .i64 a0_1, .string a0_2, .string a0_3] (0, 0) _ rfl bkp Tryd.underlying35 rfl (by kernel_rfl)) rfl ?_
         exact ⟨er, bh⟩
        ·
         rw [if_neg c47] at H
         have c47b0 : (a1 == 10) = false := beq_eq_false_iff_ne.mpr c47
         have c47b1 : (a1 != 10) = true := bne_iff_ne.mpr c47
         replace H := Option.bind_eq_some_iff.mp H
         obtain ⟨⟨t114, t115, t116, t117⟩, A510, H⟩ := H
         replace H : (some (t114, t115, t116, t117)) = some (r1, r2, r3, r4) := H
         have A51 := Aside0.mk A510
         clear A510
         simp only [Option.some.injEq, Prod.mk.injEq] at H
         obtain ⟨rfl, rfl, rfl, rfl⟩ := H
         have hnb52 := NB101_102.out
         have hnc52 := NB102_101.out
         obtain ⟨hcz53_0, hcz53_1, hcz53_2, hcz53_3⟩ := zcf4 BK101
         obtain ⟨hfz53_0, hfz53_1, hfz53_2, hfz53_3⟩ := zff4 BK101
         go_wp2_with (first | ((with_reducible refine gate_callee (f := 76) rfl ?_); refine goesL_ (some 51) rfl rfl Tryd.func76 (by kernel_rfl) rfl #[.agg #[.int .i64 a0_0, .int .i64 a0_1, .string a0_2, .string a0_3]] rfl mc ?_; (with_reducible refine (impl_Chunker_bad.calls a0_0 a0_1 a0_2 a0_3 t114 t115 t116 t117 _ A51.out).mono ?_); rintro e w54 ⟨rfl, hb⟩; refine ⟨_, rfl, ?_⟩; replace BK101 := bkb_ BK101 hb; replace BK102 := bkb_ BK102 hb; replace HB := Aside0.mk (below_step bh hb); (try clear hb); (try clear hb2); (try clear hk); (try clear hi); obtain ⟨hcz55_0, hcz55_1, hcz55_2, hcz55_3⟩ := zcf4 BK102; obtain ⟨hfz55_0, hfz55_1, hfz55_2, hfz55_3⟩ := zff4 BK102))
         refine bodyPost_ret (results_cell_row rfl _ _ gb102 35 #[.int .i64 t114, .int .i64 t115, .string t116, .string t117] (0, 0) _ rfl bkp Tryd.underlying35 rfl (by kernel_rfl)) rfl ?_
         exact ⟨er, bh⟩
      ·
       rw [if_neg c36] at H
       have c36b0 : (a0_0 == 2) = false := beq_eq_false_iff_ne.mpr c36
       have c36b1 : (a0_0 != 2) = true := bne_iff_ne.mpr c36
       by_cases c56 : a0_0 = 4
       ·
        rw [if_pos c56] at H
        have c56b0 : (a0_0 == 4) = true := beq_iff_eq.mpr c56
        have c56b1 : (a0_0 != 4) = false := bne_eq_false_iff_eq.mpr c56
        clear c56
        by_cases c57 : a1 = 13
        ·
         rw [if_pos c57] at H
         have c57b0 : (a1 == 13) = true := beq_iff_eq.mpr c57
         have c57b1 : (a1 != 13) = false := bne_eq_false_iff_eq.mpr c57
         clear c57
         simp only [Option.some.injEq, Prod.mk.injEq] at H
         obtain ⟨rfl, rfl, rfl, rfl⟩ := H
         have hnb58 := NB101_102.out
         have hnc58 := NB102_101.out
         obtain ⟨hcz59_0, hcz59_1, hcz59_2, hcz59_3⟩ := zcf4 BK101
         obtain ⟨hfz59_0, hfz59_1, hfz59_2, hfz59_3⟩ := zff4 BK101
         obtain ⟨hcz60_0, hcz60_1, hcz60_2, hcz60_3⟩ := zcf4 BK102
         obtain ⟨hfz60_0, hfz60_1, hfz60_2, hfz60_3⟩ := zff4 BK102
         go_wp2
         refine bodyPost_ret (results_cell_row rfl _ _ gb102 35 #[.int .i64 5, .int .i64 a0_1, .string a0_2, .string a0_3] (0, 0) _ rfl bkp Tryd.underlying35 rfl (by kernel_rfl)) rfl ?_
         exact ⟨er, bh⟩
        ·
         rw [if_neg c57] at H
         have c57b0 : (a1 == 13) = false := beq_eq_false_iff_ne.mpr c57
         have c57b1 : (a1 != 13) = true := bne_iff_ne.mpr c57
         replace H := Option.bind_eq_some_iff.mp H
         obtain ⟨⟨t118, t119, t120, t121⟩, A610, H⟩ := H
         replace H : (some (t118, t119, t120, t121)) = some (r1, r2, r3, r4) := H
         have A61 := Aside0.mk A610
         clear A610
         simp only [Option.some.injEq, Prod.mk.injEq] at H
         obtain ⟨rfl, rfl, rfl, rfl⟩ := H
         have hnb62 := NB101_102.out
         have hnc62 := NB102_101.out
         obtain ⟨hcz63_0, hcz63_1, hcz63_2, hcz63_3⟩ := zcf4 BK101
         obtain ⟨hfz63_0, hfz63_1, hfz63_2, hfz63_3⟩ := zff4 BK101
         go_wp2_with (first | ((with_reducible refine gate_callee (f := 76) rfl ?_); refine goesL_ (some 51) rfl rfl Tryd.func76 (by kernel_rfl) rfl #[.agg #[.int .i64 a0_0, .int .i64 a0_1, .string a0_2, .string a0_3]] rfl mc ?_; (with_reducible refine (impl_Chunker_bad.calls a0_0 a0_1 a0_2 a0_3 t118 t119 t120 t121 _ A61.out).mono ?_); rintro e w64 ⟨rfl, hb⟩; refine ⟨_, rfl, ?_⟩; replace BK101 := bkb_ BK101 hb; replace BK102 := bkb_ BK102 hb; replace HB := Aside0.mk (below_step bh hb); (try clear hb); (try clear hb2); (try clear hk); (try clear hi); obtain ⟨hcz65_0, hcz65_1, hcz65_2, hcz65_3⟩ := zcf4 BK102; obtain ⟨hfz65_0, hfz65_1, hfz65_2, hfz65_3⟩ := zff4 BK102))
         refine bodyPost_ret (results_cell_row rfl _ _ gb102 35 #[.int .i64 t118, .int .i64 t119, .string t120, .string t121] (0, 0) _ rfl bkp Tryd.underlying35 rfl (by kernel_rfl)) rfl ?_
         exact ⟨er, bh⟩
       ·
        rw [if_neg c56] at H
        have c56b0 : (a0_0 == 4) = false := beq_eq_false_iff_ne.mpr c56
        have c56b1 : (a0_0 != 4) = true := bne_iff_ne.mpr c56
        by_cases c66 : a0_0 = 6
        ·
         rw [if_pos c66] at H
         have c66b0 : (a0_0 == 6) = true := beq_iff_eq.mpr c66
         have c66b1 : (a0_0 != 6) = false := bne_eq_false_iff_eq.mpr c66
         clear c66
         by_cases c67 : a1 = 13
         ·
          rw [if_pos c67] at H
          have c67b0 : (a1 == 13) = true := beq_iff_eq.mpr c67
          have c67b1 : (a1 != 13) = false := bne_eq_false_iff_eq.mpr c67
          clear c67
          simp only [Option.some.injEq, Prod.mk.injEq] at H
          obtain ⟨rfl, rfl, rfl, rfl⟩ := H
          have hnb68 := NB101_102.out
          have hnc68 := NB102_101.out
          obtain ⟨hcz69_0, hcz69_1, hcz69_2, hcz69_3⟩ := zcf4 BK101
          obtain ⟨hfz69_0, hfz69_1, hfz69_2, hfz69_3⟩ := zff4 BK101
          obtain ⟨hcz70_0, hcz70_1, hcz70_2, hcz70_3⟩ := zcf4 BK102
          obtain ⟨hfz70_0, hfz70_1, hfz70_2, hfz70_3⟩ := zff4 BK102
          go_wp2
          refine bodyPost_ret (results_cell_row rfl _ _ gb102 35 #[.int .i64 7, .int .i64 a0_1, .string a0_2, .string a0_3] (0, 0) _ rfl bkp Tryd.underlying35 rfl (by kernel_rfl)) rfl ?_
          exact ⟨er, bh⟩
         ·
          rw [if_neg c67] at H
          have c67b0 : (a1 == 13) = false := beq_eq_false_iff_ne.mpr c67
          have c67b1 : (a1 != 13) = true := bne_iff_ne.mpr c67
          replace H := Option.bind_eq_some_iff.mp H
          obtain ⟨⟨t122, t123, t124, t125⟩, A710, H⟩ := H
          replace H : (some (t122, t123, t124, t125)) = some (r1, r2, r3, r4) := H
          have A71 := Aside0.mk A710
          clear A710
          simp only [Option.some.injEq, Prod.mk.injEq] at H
          obtain ⟨rfl, rfl, rfl, rfl⟩ := H
          have hnb72 := NB101_102.out
          have hnc72 := NB102_101.out
          obtain ⟨hcz73_0, hcz73_1, hcz73_2, hcz73_3⟩ := zcf4 BK101
          obtain ⟨hfz73_0, hfz73_1, hfz73_2, hfz73_3⟩ := zff4 BK101
          go_wp2_with (first | ((with_reducible refine gate_callee (f := 76) rfl ?_); refine goesL_ (some 51) rfl rfl Tryd.func76 (by kernel_rfl) rfl #[.agg #[.int .i64 a0_0, .int .i64 a0_1, .string a0_2, .string a0_3]] rfl mc ?_; (with_reducible refine (impl_Chunker_bad.calls a0_0 a0_1 a0_2 a0_3 t122 t123 t124 t125 _ A71.out).mono ?_); rintro e w74 ⟨rfl, hb⟩; refine ⟨_, rfl, ?_⟩; replace BK101 := bkb_ BK101 hb; replace BK102 := bkb_ BK102 hb; replace HB := Aside0.mk (below_step bh hb); (try clear hb); (try clear hb2); (try clear hk); (try clear hi); obtain ⟨hcz75_0, hcz75_1, hcz75_2, hcz75_3⟩ := zcf4 BK102; obtain ⟨hfz75_0, hfz75_1, hfz75_2, hfz75_3⟩ := zff4 BK102))
          refine bodyPost_ret (results_cell_row rfl _ _ gb102 35 #[.int .i64 t122, .int .i64 t123, .string t124, .string t125] (0, 0) _ rfl bkp Tryd.underlying35 rfl (by kernel_rfl)) rfl ?_
          exact ⟨er, bh⟩
        ·
         rw [if_neg c66] at H
         have c66b0 : (a0_0 == 6) = false := beq_eq_false_iff_ne.mpr c66
         have c66b1 : (a0_0 != 6) = true := bne_iff_ne.mpr c66
         by_cases c76 : a0_0 = 7
         ·
          rw [if_pos c76] at H
          have c76b0 : (a0_0 == 7) = true := beq_iff_eq.mpr c76
          have c76b1 : (a0_0 != 7) = false := bne_eq_false_iff_eq.mpr c76
          clear c76
          by_cases c77 : a1 = 10
          ·
           rw [if_pos c77] at H
           have c77b0 : (a1 == 10) = true := beq_iff_eq.mpr c77
           have c77b1 : (a1 != 10) = false := bne_eq_false_iff_eq.mpr c77
           clear c77
           simp only [Option.some.injEq, Prod.mk.injEq] at H
           obtain ⟨rfl, rfl, rfl, rfl⟩ := H
           have hnb78 := NB101_102.out
           have hnc78 := NB102_101.out
           obtain ⟨hcz79_0, hcz79_1, hcz79_2, hcz79_3⟩ := zcf4 BK101
           obtain ⟨hfz79_0, hfz79_1, hfz79_2, hfz79_3⟩ := zff4 BK101
           obtain ⟨hcz80_0, hcz80_1, hcz80_2, hcz80_3⟩ := zcf4 BK102
           obtain ⟨hfz80_0, hfz80_1, hfz80_2, hfz80_3⟩ := zff4 BK102
           go_wp2
           refine bodyPost_ret (results_cell_row rfl _ _ gb102 35 #[.int .i64 8, .int .i64 a0_1, .string a0_2, .string a0_3] (0, 0) _ rfl bkp Tryd.underlying35 rfl (by kernel_rfl)) rfl ?_
           exact ⟨er, bh⟩
          ·
           rw [if_neg c77] at H
           have c77b0 : (a1 == 10) = false := beq_eq_false_iff_ne.mpr c77
           have c77b1 : (a1 != 10) = true := bne_iff_ne.mpr c77
           replace H := Option.bind_eq_some_iff.mp H
           obtain ⟨⟨t126, t127, t128, t129⟩, A810, H⟩ := H
           replace H : (some (t126, t127, t128, t129)) = some (r1, r2, r3, r4) := H
           have A81 := Aside0.mk A810
           clear A810
           simp only [Option.some.injEq, Prod.mk.injEq] at H
           obtain ⟨rfl, rfl, rfl, rfl⟩ := H
           have hnb82 := NB101_102.out
           have hnc82 := NB102_101.out
           obtain ⟨hcz83_0, hcz83_1, hcz83_2, hcz83_3⟩ := zcf4 BK101
           obtain ⟨hfz83_0, hfz83_1, hfz83_2, hfz83_3⟩ := zff4 BK101
           go_wp2_with (first | ((with_reducible refine gate_callee (f := 76) rfl ?_); refine goesL_ (some 51) rfl rfl Tryd.func76 (by kernel_rfl) rfl #[.agg #[.int .i64 a0_0, .int .i64 a0_1, .string a0_2, .string a0_3]] rfl mc ?_; (with_reducible refine (impl_Chunker_bad.calls a0_0 a0_1 a0_2 a0_3 t126 t127 t128 t129 _ A81.out).mono ?_); rintro e w84 ⟨rfl, hb⟩; refine ⟨_, rfl, ?_⟩; replace BK101 := bkb_ BK101 hb; replace BK102 := bkb_ BK102 hb; replace HB := Aside0.mk (below_step bh hb); (try clear hb); (try clear hb2); (try clear hk); (try clear hi); obtain ⟨hcz85_0, hcz85_1, hcz85_2, hcz85_3⟩ := zcf4 BK102; obtain ⟨hfz85_0, hfz85_1, hfz85_2, hfz85_3⟩ := zff4 BK102))
           refine bodyPost_ret (results_cell_row rfl _ _ gb102 35 #[.int .i64 t126, .int .i64 t127, .string t128, .string t129] (0, 0) _ rfl bkp Tryd.underlying35 rfl (by kernel_rfl)) rfl ?_
           exact ⟨er, bh⟩
         ·
          rw [if_neg c76] at H
          have c76b0 : (a0_0 == 7) = false := beq_eq_false_iff_ne.mpr c76
          have c76b1 : (a0_0 != 7) = true := bne_iff_ne.mpr c76
          by_cases c86 : a1 = 10
          ·
           rw [if_pos c86] at H
           have c86b0 : (a1 == 10) = true := beq_iff_eq.mpr c86
           have c86b1 : (a1 != 10) = false := bne_eq_false_iff_eq.mpr c86
           clear c86
           simp only [Option.some.injEq, Prod.mk.injEq] at H
           obtain ⟨rfl, rfl, rfl, rfl⟩ := H
           have hnb87 := NB101_102.out
           have hnc87 := NB102_101.out
           obtain ⟨hcz88_0, hcz88_1, hcz88_2, hcz88_3⟩ := zcf4 BK101
           obtain ⟨hfz88_0, hfz88_1, hfz88_2, hfz88_3⟩ := zff4 BK101
           obtain ⟨hcz89_0, hcz89_1, hcz89_2, hcz89_3⟩ := zcf4 BK102
           obtain ⟨hfz89_0, hfz89_1, hfz89_2, hfz89_3⟩ := zff4 BK102
           go_wp2
           refine bodyPost_ret (results_cell_row rfl _ _ gb102 35 #[.int .i64 1, .int .i64 a0_1, .string a0_2, .string a0_3] (0, 0) _ rfl bkp Tryd.underlying35 rfl (by kernel_rfl)) rfl ?_
           exact ⟨er, bh⟩
          ·
           rw [if_neg c86] at H
           have c86b0 : (a1 == 10) = false := beq_eq_false_iff_ne.mpr c86
           have c86b1 : (a1 != 10) = true := bne_iff_ne.mpr c86
           replace H := Option.bind_eq_some_iff.mp H
           obtain ⟨⟨t130, t131, t132, t133⟩, A900, H⟩ := H
           replace H : (some (t130, t131, t132, t133)) = some (r1, r2, r3, r4) := H
           have A90 := Aside0.mk A900
           clear A900
           simp only [Option.some.injEq, Prod.mk.injEq] at H
           obtain ⟨rfl, rfl, rfl, rfl⟩ := H
           have hnb91 := NB101_102.out
           have hnc91 := NB102_101.out
           obtain ⟨hcz92_0, hcz92_1, hcz92_2, hcz92_3⟩ := zcf4 BK101
           obtain ⟨hfz92_0, hfz92_1, hfz92_2, hfz92_3⟩ := zff4 BK101
           go_wp2_with (first | ((with_reducible refine gate_callee (f := 76) rfl ?_); refine goesL_ (some 51) rfl rfl Tryd.func76 (by kernel_rfl) rfl #[.agg #[.int .i64 a0_0, .int .i64 a0_1, .string a0_2, .string a0_3]] rfl mc ?_; (with_reducible refine (impl_Chunker_bad.calls a0_0 a0_1 a0_2 a0_3 t130 t131 t132 t133 _ A90.out).mono ?_); rintro e w93 ⟨rfl, hb⟩; refine ⟨_, rfl, ?_⟩; replace BK101 := bkb_ BK101 hb; replace BK102 := bkb_ BK102 hb; replace HB := Aside0.mk (below_step bh hb); (try clear hb); (try clear hb2); (try clear hk); (try clear hi); obtain ⟨hcz94_0, hcz94_1, hcz94_2, hcz94_3⟩ := zcf4 BK102; obtain ⟨hfz94_0, hfz94_1, hfz94_2, hfz94_3⟩ := zff4 BK102))
           refine bodyPost_ret (results_cell_row rfl _ _ gb102 35 #[.int .i64 t130, .int .i64 t131, .string t132, .string t133] (0, 0) _ rfl bkp Tryd.underlying35 rfl (by kernel_rfl)) rfl ?_
           exact ⟨er, bh⟩
/-! ### impl_Eat: function 27 -/
def impl_Eat.f (k : Nat) (a0_0 : Int) (a0_1 : Int) (a0_2 : ByteArray) (a0_3 : ByteArray) (a1 : Int) : Option (Int × Int × ByteArray × ByteArray) := (impl_ChunkerOk.f k a0_0 a0_1 a0_2 a0_3).bind fun t103 => (if t103 = true then ((impl_Chunker_eat.f k a0_0 a0_1 a0_2 a0_3 a1).bind fun bt104 => (some (bt104.1, bt104.2.1, bt104.2.2.1, bt104.2.2.2))) else (some (0, 0, (⟨#[]⟩ : ByteArray), (⟨#[]⟩ : ByteArray))))
theorem impl_Eat.mono : ∀ a0 a1 a2 a3 a4 k, LeO (impl_Eat.f k a0 a1 a2 a3 a4) (impl_Eat.f (k + 1) a0 a1 a2 a3 a4) := by
 intro a0 a1 a2 a3 a4 k
 unfold impl_Eat.f
 repeat' first
   | (with_reducible exact impl_ChunkerOk.mono _ _ _ _ _)
   | (with_reducible exact impl_Chunker_eat.mono _ _ _ _ _ _)
   | (with_reducible exact LeO.refl _)
   | (with_reducible exact LeO.none _)
   | (with_reducible refine LeO.ite ?_ ?_)
   | (with_reducible refine LeO.bind ?_ (fun _ => ?_))
   | exact impl_ChunkerOk.mono _ _ _ _ _
   | exact impl_Chunker_eat.mono _ _ _ _ _ _
   | exact LeO.none _
   | refine LeO.ite ?_ ?_
   | refine LeO.bind ?_ (fun _ => ?_)
set_option maxHeartbeats 8000000 in
set_option maxRecDepth 100000 in
theorem impl_Eat.calls (k : Nat) (a0_0 : Int) (a0_1 : Int) (a0_2 : ByteArray) (a0_3 : ByteArray) (a1 : Int) (r1 : Int) (r2 : Int) (r3 : ByteArray) (r4 : ByteArray) (w : World) (h : impl_Eat.f k a0_0 a0_1 a0_2 a0_3 a1 = some (r1, r2, r3, r4)) :
  Calls Tryd.prog 27 #[.agg #[.int .i64 a0_0, .int .i64 a0_1, .string a0_2, .string a0_3], .int .u8 a1] w fun e w' => e = .returned (.agg #[.int .i64 r1, .int .i64 r2, .string r3, .string r4]) ∧ Below w.heap.size w w' := by
 have hu35 := Tryd.underlying35
 have HB := Aside0.mk (Below.refl w.heap.size w)
 have H : ((impl_ChunkerOk.f k a0_0 a0_1 a0_2 a0_3).bind fun t103 => (if t103 = true then ((impl_Chunker_eat.f k a0_0 a0_1 a0_2 a0_3 a1).bind fun bt104 => (some (bt104.1, bt104.2.1, bt104.2.2.1, bt104.2.2.2))) else (some (0, 0, (⟨#[]⟩ : ByteArray), (⟨#[]⟩ : ByteArray))))) = some (r1, r2, r3, r4) := h
 clear h
 obtain ⟨t103, A30, H⟩ := Option.bind_eq_some_iff.mp H
 try dsimp only at H
 have A3 := Aside0.mk A30
 clear A30
 by_cases c4 : t103 = true
 ·
  subst c4
  rw [if_pos rfl] at H
  replace H := Option.bind_eq_some_iff.mp H
  obtain ⟨⟨t104, t105, t106, t107⟩, A50, H⟩ := H
  replace H : (some (t104, t105, t106, t107)) = some (r1, r2, r3, r4) := H
  have A5 := Aside0.mk A50
  clear A50
  simp only [Option.some.injEq, Prod.mk.injEq] at H
  obtain ⟨rfl, rfl, rfl, rfl⟩ := H
  go_enter Tryd.func27, Tryd.ntmps27
  go_wp2_with (first | ((with_reducible refine gate_dst (N := 2) rfl ?_); refine bx 2 #[.int .i64 a0_0, .int .i64 a0_1, .string a0_2, .string a0_3] 35 ?_; intro gb101 hg w6 hbox hb; have BK101 := Aside0.mk (hbox); have GW101 := Aside0.mk (bz hg); have GE101 := Aside0.mk (bz hg); replace HB := Aside0.mk (below_step bh hb); clear hb hbox hg) | ((with_reducible refine gate_dst (N := 4) rfl ?_); refine bx 4 #[.int .i64 0, .int .i64 0, .string (⟨#[]⟩ : ByteArray), .string (⟨#[]⟩ : ByteArray)] 35 ?_; intro gb102 hg w7 hbox hb; have BK102 := Aside0.mk (hbox); have GW102 := Aside0.mk (bz hg); have GE102 := Aside0.mk (bz hg); have NB101_102 := Aside0.mk ((nl (o := .cells #[.int .i64 a0_0, .int .i64 a0_1, .string a0_2, .string a0_3] 35 (0, 0)) hg bk : gb101 ≠ gb102)); have NB102_101 := Aside0.mk ((ng (o := .cells #[.int .i64 a0_0, .int .i64 a0_1, .string a0_2, .string a0_3] 35 (0, 0)) hg bk : gb102 ≠ gb101)); replace BK101 := bkb_ BK101 hb; replace HB := Aside0.mk (below_step bh hb); clear hb hbox hg; have hnb8 := NB101_102.out; have hnc8 := NB102_101.out; obtain ⟨hcz9_0, hcz9_1, hcz9_2, hcz9_3⟩ := zcf4 BK101; obtain ⟨hfz9_0, hfz9_1, hfz9_2, hfz9_3⟩ := zff4 BK101) | ((with_reducible refine gate_callee (f := 29) rfl ?_); refine goesL_ (some 6) rfl rfl Tryd.func29 (by kernel_rfl) rfl #[.agg #[.int .i64 a0_0, .int .i64 a0_1, .string a0_2, .string a0_3]] rfl mc ?_; (with_reducible refine (impl_ChunkerOk.calls k a0_0 a0_1 a0_2 a0_3 true _ A3.out).mono ?_); rintro e w10 ⟨rfl, hb⟩; refine ⟨_, rfl, ?_⟩; replace BK101 := bkb_ BK101 hb; replace BK102 := bkb_ BK102 hb; replace HB := Aside0.mk (below_step bh hb); (try clear hb); (try clear hb2); (try clear hk); (try clear hi); obtain ⟨hcz11_0, hcz11_1, hcz11_2, hcz11_3⟩ := zcf4 BK101; obtain ⟨hfz11_0, hfz11_1, hfz11_2, hfz11_3⟩ := zff4 BK101) | ((with_reducible refine gate_callee (f := 58) rfl ?_); refine goesL_ (some 11) rfl rfl Tryd.func58 (by kernel_rfl) rfl #[.agg #[.int .i64 a0_0, .int .i64 a0_1, .string a0_2, .string a0_3], .int .u8 a1] rfl mc ?_; (with_reducible refine (impl_Chunker_eat.calls k a0_0 a0_1 a0_2 a0_3 a1 t104 t105 t106 t107 _ A5.out).mono ?_); rintro e w12 ⟨rfl, hb⟩; refine ⟨_, rfl, ?_⟩; replace BK101 := bkb_ BK101 hb; replace BK102 := bkb_ BK102 hb; replace HB := Aside0.mk (below_step bh hb); (try clear hb); (try clear hb2); (try clear hk); (try clear hi); obtain ⟨hcz13_0, hcz13_1, hcz13_2, hcz13_3⟩ := zcf4 BK102; obtain ⟨hfz13_0, hfz13_1, hfz13_2, hfz13_3⟩ := zff4 BK102))
  refine bodyPost_ret (results_cell_row rfl _ _ gb102 35 #[.int .i64 t104, .int .i64 t105, .string t106, .string t107] (0, 0) _ rfl bkp Tryd.underlying35 rfl (by kernel_rfl)) rfl ?_
  exact ⟨er, bh⟩
 ·
  replace c4 := Bool.eq_false_iff.mpr c4
  subst c4
  rw [if_neg (show ¬ (false = true) by decide)] at H
  simp only [Option.some.injEq, Prod.mk.injEq] at H
  obtain ⟨rfl, rfl, rfl, rfl⟩ := H
  go_enter Tryd.func27, Tryd.ntmps27
  go_wp2_with (first | ((with_reducible refine gate_dst (N := 2) rfl ?_); refine bx 2 #[.int .i64 a0_0, .int .i64 a0_1, .string a0_2, .string a0_3] 35 ?_; intro gb101 hg w14 hbox hb; have BK101 := Aside0.mk (hbox); have GW101 := Aside0.mk (bz hg); have GE101 := Aside0.mk (bz hg); replace HB := Aside0.mk (below_step bh hb); clear hb hbox hg) | ((with_reducible refine gate_dst (N := 4) rfl ?_); refine bx 4 #[.int .i64 0, .int .i64 0, .string (⟨#[]⟩ : ByteArray), .string (⟨#[]⟩ : ByteArray)] 35 ?_; intro gb102 hg w15 hbox hb; have BK102 := Aside0.mk (hbox); have GW102 := Aside0.mk (bz hg); have GE102 := Aside0.mk (bz hg); have NB101_102 := Aside0.mk ((nl (o := .cells #[.int .i64 a0_0, .int .i64 a0_1, .string a0_2, .string a0_3] 35 (0, 0)) hg bk : gb101 ≠ gb102)); have NB102_101 := Aside0.mk ((ng (o := .cells #[.int .i64 a0_0, .int .i64 a0_1, .string a0_2, .string a0_3] 35 (0, 0)) hg bk : gb102 ≠ gb101)); replace BK101 := bkb_ BK101 hb; replace HB := Aside0.mk (below_step bh hb); clear hb hbox hg; have hnb16 := NB101_102.out; have hnc16 := NB102_101.out; obtain ⟨hcz17_0, hcz17_1, hcz17_2, hcz17_3⟩ := zcf4 BK101; obtain ⟨hfz17_0, hfz17_1, hfz17_2, hfz17_3⟩ := zff4 BK101) | ((with_reducible refine gate_callee (f := 29) rfl ?_); refine goesL_ (some 6) rfl rfl Tryd.func29 (by kernel_rfl) rfl #[.agg #[.int .i64 a0_0, .int .i64 a0_1, .string a0_2, .string a0_3]] rfl mc ?_; (with_reducible refine (impl_ChunkerOk.calls k a0_0 a0_1 a0_2 a0_3 false _ A3.out).mono ?_); rintro e w18 ⟨rfl, hb⟩; refine ⟨_, rfl, ?_⟩; replace BK101 := bkb_ BK101 hb; replace BK102 := bkb_ BK102 hb; replace HB := Aside0.mk (below_step bh hb); (try clear hb); (try clear hb2); (try clear hk); (try clear hi); obtain ⟨hcz19_0, hcz19_1, hcz19_2, hcz19_3⟩ := zcf4 BK102; obtain ⟨hfz19_0, hfz19_1, hfz19_2, hfz19_3⟩ := zff4 BK102))
  refine bodyPost_ret (results_cell_row rfl _ _ gb102 35 #[.int .i64 0, .int .i64 0, .string (⟨#[]⟩ : ByteArray), .string (⟨#[]⟩ : ByteArray)] (0, 0) _ rfl bkp Tryd.underlying35 rfl (by kernel_rfl)) rfl ?_
  exact ⟨er, bh⟩
/-! ### impl_Chunker_eatAll: function 54 -/
def impl_Chunker_eatAll.l0 : Nat → ByteArray → Int → Int → Int → ByteArray → ByteArray → Option (Int × Int × ByteArray × ByteArray × Int)
 | 0, _, _, _, _, _, _ => none
 | k + 1, x1, x6, x102000, x102001, x102002, x102003 => if x6 < (x1.size : Int) then (if x102000 = 8 then (some (x102000, x102001, x102002, x102003, x6)) else (if x102000 = 9 then (some (x102000, x102001, x102002, x102003, x6)) else (if 0 ≤ x6 then ((impl_Chunker_eat.f k x102000 x102001 x102002 x102003 (bt x1 x6)).bind fun bt103 => (impl_Chunker_eatAll.l0 k x1 (wrap64 (x6 + 1)) bt103.1 bt103.2.1 bt103.2.2.1 bt103.2.2.2)) else (none)))) else (some (x102000, x102001, x102002, x102003, x6))
def impl_Chunker_eatAll.f (k : Nat) (a0_0 : Int) (a0_1 : Int) (a0_2 : ByteArray) (a0_3 : ByteArray) (a1 : ByteArray) : Option (Int × Int × ByteArray × ByteArray × Int) := impl_Chunker_eatAll.l0 k a1 0 a0_0 a0_1 a0_2 a0_3
theorem impl_Chunker_eatAll.mono_l : ∀ k, (∀ y0 y1 y2 y3 y4 y5, LeO (impl_Chunker_eatAll.l0 k y0 y1 y2 y3 y4 y5) (impl_Chunker_eatAll.l0 (k + 1) y0 y1 y2 y3 y4 y5))
 | 0 => fun _ _ _ _ _ _ r h => by simp [impl_Chunker_eatAll.l0] at h
 | k + 1 => by
  have ih0 := impl_Chunker_eatAll.mono_l k
  ·
   intro y0 y1 y2 y3 y4 y5
   unfold impl_Chunker_eatAll.l0
   repeat' first
   | (with_reducible exact ih0 _ _ _ _ _ _)
   | (with_reducible exact impl_Chunker_eat.mono _ _ _ _ _ _)
   | (with_reducible exact LeO.refl _)
   | (with_reducible exact LeO.none _)
   | (with_reducible refine LeO.ite ?_ ?_)
   | (with_reducible refine LeO.bind ?_ (fun _ => ?_))
   | exact ih0 _ _ _ _ _ _
   | exact impl_Chunker_eat.mono _ _ _ _ _ _
   | exact LeO.none _
   | refine LeO.ite ?_ ?_
   | refine LeO.bind ?_ (fun _ => ?_)
theorem impl_Chunker_eatAll.mono : ∀ a0 a1 a2 a3 a4 k, LeO (impl_Chunker_eatAll.f k a0 a1 a2 a3 a4) (impl_Chunker_eatAll.f (k + 1) a0 a1 a2 a3 a4) := by
 intro a0 a1 a2 a3 a4 k
 have ih0 := impl_Chunker_eatAll.mono_l k
 unfold impl_Chunker_eatAll.f
 repeat' first
   | (with_reducible exact ih0 _ _ _ _ _ _)
   | (with_reducible exact impl_Chunker_eat.mono _ _ _ _ _ _)
   | (with_reducible exact LeO.refl _)
   | (with_reducible exact LeO.none _)
   | (with_reducible refine LeO.ite ?_ ?_)
   | (with_reducible refine LeO.bind ?_ (fun _ => ?_))
   | exact ih0 _ _ _ _ _ _
   | exact impl_Chunker_eat.mono _ _ _ _ _ _
   | exact LeO.none _
   | refine LeO.ite ?_ ?_
   | refine LeO.bind ?_ (fun _ => ?_)
set_option maxHeartbeats 8000000 in
set_option maxRecDepth 100000 in
theorem impl_Chunker_eatAll.calls (k : Nat) (a0_0 : Int) (a0_1 : Int) (a0_2 : ByteArray) (a0_3 : ByteArray) (a1 : ByteArray) (r1 : Int) (r2 : Int) (r3 : ByteArray) (r4 : ByteArray) (r5 : Int) (w : World) (h : impl_Chunker_eatAll.f k a0_0 a0_1 a0_2 a0_3 a1 = some (r1, r2, r3, r4, r5)) :
  Calls Tryd.prog 54 #[.agg #[.int .i64 a0_0, .int .i64 a0_1, .string a0_2, .string a0_3], .string a1] w fun e w' => e = .returned (.tuple #[.agg #[.int .i64 r1, .int .i64 r2, .string r3, .string r4], .int .i64 r5]) ∧ Below w.heap.size w w' := by
 have hu35 := Tryd.underlying35
 have HB := Aside0.mk (Below.refl w.heap.size w)
 have H : (impl_Chunker_eatAll.l0 k a1 0 a0_0 a0_1 a0_2 a0_3) = some (r1, r2, r3, r4, r5) := h
 clear h
 have H' := Aside0.mk H
 clear H
 go_enter Tryd.func54, Tryd.ntmps54
 go_wp2_with (first | ((with_reducible refine gate_dst (N := 2) rfl ?_); refine bx 2 #[.int .i64 a0_0, .int .i64 a0_1, .string a0_2, .string a0_3] 35 ?_; intro gb101 hg w3 hbox hb; have BK101 := Aside0.mk (hbox); have GW101 := Aside0.mk (bz hg); have GE101 := Aside0.mk (bz hg); replace HB := Aside0.mk (below_step bh hb); clear hb hbox hg) | ((with_reducible refine gate_dst (N := 4) rfl ?_); refine bx 4 #[.int .i64 0, .int .i64 0, .string (⟨#[]⟩ : ByteArray), .string (⟨#[]⟩ : ByteArray)] 35 ?_; intro gb102 hg w4 hbox hb; have BK102 := Aside0.mk (hbox); have GW102 := Aside0.mk (bz hg); have GE102 := Aside0.mk (bz hg); have NB101_102 := Aside0.mk ((nl (o := .cells #[.int .i64 a0_0, .int .i64 a0_1, .string a0_2, .string a0_3] 35 (0, 0)) hg bk : gb101 ≠ gb102)); have NB102_101 := Aside0.mk ((ng (o := .cells #[.int .i64 a0_0, .int .i64 a0_1, .string a0_2, .string a0_3] 35 (0, 0)) hg bk : gb102 ≠ gb101)); replace BK101 := bkb_ BK101 hb; replace HB := Aside0.mk (below_step bh hb); clear hb hbox hg))
 go_loopg [6] k (fun kq v6 w' => ∃ (x6_1 : Int) (x102000_1 : Int) (x102001_1 : Int) (x102002_1 : ByteArray) (x102003_1 : ByteArray), v6 = .int .i64 x6_1 ∧ Aside0 (impl_Chunker_eatAll.l0 kq a1 x6_1 x102000_1 x102001_1 x102002_1 x102003_1 = some (r1, r2, r3, r4, r5)) ∧ Aside0 (kq ≤ k) ∧ Aside0 (w'.heap[gb101]? = some (.cells #[.int .i64 x102000_1, .int .i64 x102001_1, .string x102002_1, .string x102003_1] 35 (0, 0))) ∧ Aside0 (w'.heap[gb102]? = some (.cells #[.int .i64 0, .int .i64 0, .string (⟨#[]⟩ : ByteArray), .string (⟨#[]⟩ : ByteArray)] 35 (0, 0))) ∧ Aside0 (Below w.heap.size w w'))
 case atStart => exact ⟨(0), (a0_0), (a0_1), (a0_2), (a0_3), (by first | rfl | (simp; done) | (simp [*]; done)), H', ⟨Nat.le_refl _⟩, ⟨bk⟩, ⟨bk⟩, ⟨bh⟩⟩
 case round =>
  clear H'
  try clear p2
  obtain ⟨x6_1, x102000_1, x102001_1, x102002_1, x102003_1, rfl, HA, HK1, BK101, BK102, HB⟩ := hrel
  cases gk with
  | zero => exact absurd HA.out (by simp [impl_Chunker_eatAll.l0])
  | succ k1 =>
   have H := HA.out
   clear HA
   simp only [impl_Chunker_eatAll.l0] at H
   by_cases c5 : x6_1 < (a1.size : Int)
   ·
    rw [if_pos c5] at H
    have c5b0 : decide (x6_1 < (a1.size : Int)) = true := decide_eq_true c5
    clear c5
    by_cases c6 : x102000_1 = 8
    ·
     rw [if_pos c6] at H
     have c6b0 : (x102000_1 == 8) = true := beq_iff_eq.mpr c6
     have c6b1 : (x102000_1 != 8) = false := bne_eq_false_iff_eq.mpr c6
     clear c6
     simp only [Option.some.injEq, Prod.mk.injEq] at H
     obtain ⟨rfl, rfl, rfl, rfl, rfl⟩ := H
     have hnb7 := NB101_102.out
     have hnc7 := NB102_101.out
     obtain ⟨hcz8_0, hcz8_1, hcz8_2, hcz8_3⟩ := zcf4 BK101
     obtain ⟨hfz8_0, hfz8_1, hfz8_2, hfz8_3⟩ := zff4 BK101
     obtain ⟨hcz9_0, hcz9_1, hcz9_2, hcz9_3⟩ := zcf4 BK102
     obtain ⟨hfz9_0, hfz9_1, hfz9_2, hfz9_3⟩ := zff4 BK102
     go_wp2
     refine bodyPost_ret (results_ct rfl _ _ gb102 35 #[.int .i64 x102000_1, .int .i64 x102001_1, .string x102002_1, .string x102003_1] (0, 0) _ rfl bkp Tryd.underlying35 rfl (by kernel_rfl)) rfl ?_
     exact ⟨er, bh⟩
    ·
     rw [if_neg c6] at H
     have c6b0 : (x102000_1 == 8) = false := beq_eq_false_iff_ne.mpr c6
     have c6b1 : (x102000_1 != 8) = true := bne_iff_ne.mpr c6
     by_cases c10 : x102000_1 = 9
     ·
      rw [if_pos c10] at H
      have c10b0 : (x102000_1 == 9) = true := beq_iff_eq.mpr c10
      have c10b1 : (x102000_1 != 9) = false := bne_eq_false_iff_eq.mpr c10
      clear c10
      simp only [Option.some.injEq, Prod.mk.injEq] at H
      obtain ⟨rfl, rfl, rfl, rfl, rfl⟩ := H
      have hnb11 := NB101_102.out
      have hnc11 := NB102_101.out
      obtain ⟨hcz12_0, hcz12_1, hcz12_2, hcz12_3⟩ := zcf4 BK101
      obtain ⟨hfz12_0, hfz12_1, hfz12_2, hfz12_3⟩ := zff4 BK101
      obtain ⟨hcz13_0, hcz13_1, hcz13_2, hcz13_3⟩ := zcf4 BK102
      obtain ⟨hfz13_0, hfz13_1, hfz13_2, hfz13_3⟩ := zff4 BK102
      go_wp2
      refine bodyPost_ret (results_ct rfl _ _ gb102 35 #[.int .i64 x102000_1, .int .i64 x102001_1, .string x102002_1, .string x102003_1] (0, 0) _ rfl bkp Tryd.underlying35 rfl (by kernel_rfl)) rfl ?_
      exact ⟨er, bh⟩
     ·
      rw [if_neg c10] at H
      have c10b0 : (x102000_1 == 9) = false := beq_eq_false_iff_ne.mpr c10
      have c10b1 : (x102000_1 != 9) = true := bne_iff_ne.mpr c10
      by_cases c14 : 0 ≤ x6_1
      ·
       rw [if_pos c14] at H
       have c14b0 : decide (0 ≤ x6_1) = true := decide_eq_true c14
       clear c14
       obtain ⟨⟨t103, t104, t105, t106⟩, A160, H⟩ := Option.bind_eq_some_iff.mp H
       try dsimp only at H
       have A16 := Aside0.mk A160
       clear A160
       have H' := Aside0.mk H
       clear H
       have hnb17 := NB101_102.out
       have hnc17 := NB102_101.out
       obtain ⟨hcz18_0, hcz18_1, hcz18_2, hcz18_3⟩ := zcf4 BK101
       obtain ⟨hfz18_0, hfz18_1, hfz18_2, hfz18_3⟩ := zff4 BK101
       try go_wp2
       replace BK101 := Aside0.mk (blk_drew BK101.out)
       replace BK102 := Aside0.mk (blk_drew BK102.out)
       replace HB := Aside0.mk (below_drew1 HB.out)
       have p15 : 0 ≤ (x6_1 : Int) := of_decide_eq_true (by first | (with_reducible assumption) | assumption)
       have q15 : x6_1 < (a1.size : Int) := of_decide_eq_true (by first | (with_reducible assumption) | assumption)
       have hx15 := bt_at a1 x6_1
       replace p15 := eq_true p15
       replace q15 := eq_true q15
       refine start_ (n := 6) (S := fun w' => w'.cell? ⟨gb101, 0, none⟩ = some (.int .i64 x102000_1) ∧ w'.cell? ⟨gb101, 1, none⟩ = some (.int .i64 x102001_1) ∧ w'.cell? ⟨gb101, 2, none⟩ = some (.string x102002_1) ∧ w'.cell? ⟨gb101, 3, none⟩ = some (.string x102003_1)) (ds := [5]) #[false, false, false, false, false, false] (by kernel_rfl) rfl rfl ⟨bc BK101 0, bc BK101 1, bc BK101 2, bc BK101 3⟩ (fun hHeld => ?_)
       generalize wr.drew = w19 at BK101 BK102 HB hHeld ⊢
       refine pure_ (i := 1) (N := some 22) (v := ?_) (a' := ?_) #[false, true, false, false, false, false] rfl rfl (by kernel_rfl) (fun _ _ _ h => h) (Or.inl ⟨by rfl, ?_⟩) ?_ ?_
       rotate_left
       ·
        intro w'
        go_simp
        with_reducible rfl
       rotate_left
       ·
        simp only [Act.put, List.setIfInBounds_toArray, List.set_cons_zero, List.set_cons_succ, i64_w, i32_w]
        rfl
       refine pure_ (i := 2) (N := some 23) (v := ?_) (a' := ?_) #[false, true, true, false, false, false] rfl rfl (by kernel_rfl) (fun _ _ _ h => h) (Or.inl ⟨by rfl, ?_⟩) ?_ ?_
       rotate_left
       ·
        intro w'
        go_simp
        with_reducible rfl
       rotate_left
       ·
        simp only [Act.put, List.setIfInBounds_toArray, List.set_cons_zero, List.set_cons_succ, i64_w, i32_w]
        rfl
       refine take_ (i := 0) (N := some 21) (v := ?_) (a' := ?_) #[true, true, true, false, false, false] rfl rfl (by kernel_rfl) (fun _ _ _ h => h) (Or.inl ⟨by rfl, ?_⟩) hHeld ?_ ?_
       rotate_left
       ·
        rintro w' ⟨s0, s1, s2, s3⟩
        go_simp
        with_reducible rfl
       rotate_left
       ·
        simp only [Act.put, List.setIfInBounds_toArray, List.set_cons_zero, List.set_cons_succ, i64_w, i32_w]
        rfl
       refine take_ (i := 3) (N := some 24) (v := ?_) (a' := ?_) #[true, true, true, true, false, false] rfl rfl (by kernel_rfl) (fun _ _ _ h => h) (Or.inl ⟨by rfl, ?_⟩) hHeld ?_ ?_
       rotate_left
       ·
        rintro w' ⟨s0, s1, s2, s3⟩
        go_simp
        with_reducible rfl
       rotate_left
       ·
        simp only [Act.put, List.setIfInBounds_toArray, List.set_cons_zero, List.set_cons_succ, i64_w, i32_w]
        rfl
       refine one_ (i := 4) (N := some 25) #[true, true, true, true, true, false] rfl rfl (by kernel_rfl) (by decide) (fun K hK => ?_)
       refine gs Tryd.func58 #[.agg #[.int .i64 x102000_1, .int .i64 x102001_1, .string x102002_1, .string x102003_1], .int .u8 (bt a1 x6_1)] ?_
       with_reducible refine (impl_Chunker_eat.calls k1 x102000_1 x102001_1 x102002_1 x102003_1 (bt a1 x6_1) t103 t104 t105 t106 _ A16.out).mono ?_
       rintro e w20 ⟨rfl, hb⟩
       refine ⟨_, rfl, ?_⟩
       replace BK101 := bkb_ BK101 hb
       replace BK102 := bkb_ BK102 hb
       replace HB := Aside0.mk (below_step bh hb)
       (try clear hb)
       (try clear hb2)
       (try clear hk)
       (try clear hi)
       refine hK.out _ _ ⟨bc BK101 0, bc BK101 1, bc BK101 2, bc BK101 3⟩ (fun hHeld => ?_)
       clear hK K
       refine nm 25 ?_
       refine last_ (i := 5) (N := none) #[true, true, true, true, true, true] rfl rfl (by kernel_rfl) (by decide) (fun K hK => ?_)
       have hs21 : w20.cell? ⟨gb101, 0, none⟩ = some (.int .i64 x102000_1) := bc BK101 0
       have hfs21 := blk_frozen BK101.out 0
       have hns21_1 := NB102_101.out
       have hms21_1 := NB101_102.out
       have hs22 : w20.cell? ⟨gb101, 1, none⟩ = some (.int .i64 x102001_1) := bc BK101 1
       have hfs22 := blk_frozen BK101.out 1
       have hns22_1 := NB102_101.out
       have hms22_1 := NB101_102.out
       have hs23 : w20.cell? ⟨gb101, 2, none⟩ = some (.string x102002_1) := bc BK101 2
       have hfs23 := blk_frozen BK101.out 2
       have hns23_1 := NB102_101.out
       have hms23_1 := NB101_102.out
       have hs24 : w20.cell? ⟨gb101, 3, none⟩ = some (.string x102003_1) := bc BK101 3
       have hfs24 := blk_frozen BK101.out 3
       have hns24_1 := NB102_101.out
       have hms24_1 := NB101_102.out
       refine skip_ (w1 := ?_) (by rfl) rfl ?_ ?_
       rotate_left
       ·
        go_simp
        rfl
       refine hK.out _ _ ?_
       clear hK K
       refine done_ (by kernel_rfl) ?_
       try go_wp2
       go_roundg k1
       case measure => have := HK1.out; omega
       case rel => exact ⟨(wrap64 (x6_1 + 1)), (t103), (t104), (t105), (t106), (by first | rfl | (simp; done) | (simp [*]; done)), H', ⟨by have := HK1.out; omega⟩, ⟨bkp⟩, ⟨bkp⟩, ⟨bh⟩⟩
      ·
       rw [if_neg c14] at H
       exact absurd H (by simp)
   ·
    rw [if_neg c5] at H
    have c5b0 : decide (x6_1 < (a1.size : Int)) = false := decide_eq_false c5
    clear c5
    simp only [Option.some.injEq, Prod.mk.injEq] at H
    obtain ⟨rfl, rfl, rfl, rfl, rfl⟩ := H
    have hnb25 := NB101_102.out
    have hnc25 := NB102_101.out
    obtain ⟨hcz26_0, hcz26_1, hcz26_2, hcz26_3⟩ := zcf4 BK101
    obtain ⟨hfz26_0, hfz26_1, hfz26_2, hfz26_3⟩ := zff4 BK101
    obtain ⟨hcz27_0, hcz27_1, hcz27_2, hcz27_3⟩ := zcf4 BK102
    obtain ⟨hfz27_0, hfz27_1, hfz27_2, hfz27_3⟩ := zff4 BK102
    go_wp2
    refine bodyPost_ret (results_ct rfl _ _ gb102 35 #[.int .i64 x102000_1, .int .i64 x102001_1, .string x102002_1, .string x102003_1] (0, 0) _ rfl bkp Tryd.underlying35 rfl (by kernel_rfl)) rfl ?_
    exact ⟨er, bh⟩
/-! ### impl_EatAll: function 32 -/
def impl_EatAll.f (k : Nat) (a0_0 : Int) (a0_1 : Int) (a0_2 : ByteArray) (a0_3 : ByteArray) (a1 : ByteArray) : Option (Int × Int × ByteArray × ByteArray × Int) := (impl_ChunkerOk.f k a0_0 a0_1 a0_2 a0_3).bind fun t103 => (if t103 = true then ((impl_Chunker_eatAll.f k a0_0 a0_1 a0_2 a0_3 a1).bind fun bt104 => (some (bt104.1, bt104.2.1, bt104.2.2.1, bt104.2.2.2.1, bt104.2.2.2.2))) else (some (0, 0, (⟨#[]⟩ : ByteArray), (⟨#[]⟩ : ByteArray), 0)))
theorem impl_EatAll.mono : ∀ a0 a1 a2 a3 a4 k, LeO (impl_EatAll.f k a0 a1 a2 a3 a4) (impl_EatAll.f (k + 1) a0 a1 a2 a3 a4) := by
 intro a0 a1 a2 a3 a4 k
 unfold impl_EatAll.f
 repeat' first
   | (with_reducible exact impl_ChunkerOk.mono _ _ _ _ _)
   | (with_reducible exact impl_Chunker_eatAll.mono _ _ _ _ _ _)
   | (with_reducible exact LeO.refl _)
   | (with_reducible exact LeO.none _)
   | (with_reducible refine LeO.ite ?_ ?_)
   | (with_reducible refine LeO.bind ?_ (fun _ => ?_))
   | exact impl_ChunkerOk.mono _ _ _ _ _
   | exact impl_Chunker_eatAll.mono _ _ _ _ _ _
   | exact LeO.none _
   | refine LeO.ite ?_ ?_
   | refine LeO.bind ?_ (fun _ => ?_)
set_option maxHeartbeats 8000000 in
set_option maxRecDepth 100000 in
theorem impl_EatAll.calls (k : Nat) (a0_0 : Int) (a0_1 : Int) (a0_2 : ByteArray) (a0_3 : ByteArray) (a1 : ByteArray) (r1 : Int) (r2 : Int) (r3 : ByteArray) (r4 : ByteArray) (r5 : Int) (w : World) (h : impl_EatAll.f k a0_0 a0_1 a0_2 a0_3 a1 = some (r1, r2, r3, r4, r5)) :
  Calls Tryd.prog 32 #[.agg #[.int .i64 a0_0, .int .i64 a0_1, .string a0_2, .string a0_3], .string a1] w fun e w' => e = .returned (.tuple #[.agg #[.int .i64 r1, .int .i64 r2, .string r3, .string r4], .int .i64 r5]) ∧ Below w.heap.size w w' := by
 have hu35 := Tryd.underlying35
 have HB := Aside0.mk (Below.refl w.heap.size w)
 have H : ((impl_ChunkerOk.f k a0_0 a0_1 a0_2 a0_3).bind fun t103 => (if t103 = true then ((impl_Chunker_eatAll.f k a0_0 a0_1 a0_2 a0_3 a1).bind fun bt104 => (some (bt104.1, bt104.2.1, bt104.2.2.1, bt104.2.2.2.1, bt104.2.2.2.2))) else (some (0, 0, (⟨#[]⟩ : ByteArray), (⟨#[]⟩ : ByteArray), 0)))) = some (r1, r2, r3, r4, r5) := h
 clear h
 obtain ⟨t103, A30, H⟩ := Option.bind_eq_some_iff.mp H
 try dsimp only at H
 have A3 := Aside0.mk A30
 clear A30
 by_cases c4 : t103 = true
 ·
  subst c4
  rw [if_pos rfl] at H
  obtain ⟨⟨t104, t105, t106, t107, t108⟩, A50, H⟩ := Option.bind_eq_some_iff.mp H
  try dsimp only at H
  have A5 := Aside0.mk A50
  clear A50
  simp only [Option.some.injEq, Prod.mk.injEq] at H
  obtain ⟨rfl, rfl, rfl, rfl, rfl⟩ := H
  go_enter Tryd.func32, Tryd.ntmps32
  go_wp2_with (first | ((with_reducible refine gate_dst (N := 2) rfl ?_); refine bx 2 #[.int .i64 a0_0, .int .i64 a0_1, .string a0_2, .string a0_3] 35 ?_; intro gb101 hg w6 hbox hb; have BK101 := Aside0.mk (hbox); have GW101 := Aside0.mk (bz hg); have GE101 := Aside0.mk (bz hg); replace HB := Aside0.mk (below_step bh hb); clear hb hbox hg) | ((with_reducible refine gate_dst (N := 4) rfl ?_); refine bx 4 #[.int .i64 0, .int .i64 0, .string (⟨#[]⟩ : ByteArray), .string (⟨#[]⟩ : ByteArray)] 35 ?_; intro gb102 hg w7 hbox hb; have BK102 := Aside0.mk (hbox); have GW102 := Aside0.mk (bz hg); have GE102 := Aside0.mk (bz hg); have NB101_102 := Aside0.mk ((nl (o := .cells #[.int .i64 a0_0, .int .i64 a0_1, .string a0_2, .string a0_3] 35 (0, 0)) hg bk : gb101 ≠ gb102)); have NB102_101 := Aside0.mk ((ng (o := .cells #[.int .i64 a0_0, .int .i64 a0_1, .string a0_2, .string a0_3] 35 (0, 0)) hg bk : gb102 ≠ gb101)); replace BK101 := bkb_ BK101 hb; replace HB := Aside0.mk (below_step bh hb); clear hb hbox hg; have hnb8 := NB101_102.out; have hnc8 := NB102_101.out; obtain ⟨hcz9_0, hcz9_1, hcz9_2, hcz9_3⟩ := zcf4 BK101; obtain ⟨hfz9_0, hfz9_1, hfz9_2, hfz9_3⟩ := zff4 BK101) | ((with_reducible refine gate_callee (f := 29) rfl ?_); refine goesL_ (some 7) rfl rfl Tryd.func29 (by kernel_rfl) rfl #[.agg #[.int .i64 a0_0, .int .i64 a0_1, .string a0_2, .string a0_3]] rfl mc ?_; (with_reducible refine (impl_ChunkerOk.calls k a0_0 a0_1 a0_2 a0_3 true _ A3.out).mono ?_); rintro e w10 ⟨rfl, hb⟩; refine ⟨_, rfl, ?_⟩; replace BK101 := bkb_ BK101 hb; replace BK102 := bkb_ BK102 hb; replace HB := Aside0.mk (below_step bh hb); (try clear hb); (try clear hb2); (try clear hk); (try clear hi); obtain ⟨hcz11_0, hcz11_1, hcz11_2, hcz11_3⟩ := zcf4 BK101; obtain ⟨hfz11_0, hfz11_1, hfz11_2, hfz11_3⟩ := zff4 BK101) | ((with_reducible refine gate_callee (f := 54) rfl ?_); refine goesL_ (some 12) rfl rfl Tryd.func54 (by kernel_rfl) rfl #[.agg #[.int .i64 a0_0, .int .i64 a0_1, .string a0_2, .string a0_3], .string a1] rfl mc ?_; (with_reducible refine (impl_Chunker_eatAll.calls k a0_0 a0_1 a0_2 a0_3 a1 t104 t105 t106 t107 t108 _ A5.out).mono ?_); rintro e w12 ⟨rfl, hb⟩; refine ⟨_, rfl, ?_⟩; replace BK101 := bkb_ BK101 hb; replace BK102 := bkb_ BK102 hb; replace HB := Aside0.mk (below_step bh hb); (try clear hb); (try clear hb2); (try clear hk); (try clear hi); obtain ⟨hcz13_0, hcz13_1, hcz13_2, hcz13_3⟩ := zcf4 BK102; obtain ⟨hfz13_0, hfz13_1, hfz13_2, hfz13_3⟩ := zff4 BK102))
  refine bodyPost_ret (results_ct rfl _ _ gb102 35 #[.int .i64 t104, .int .i64 t105, .string t106, .string t107] (0, 0) _ rfl bkp Tryd.underlying35 rfl (by kernel_rfl)) rfl ?_
  exact ⟨er, bh⟩
 ·
  replace c4 := Bool.eq_false_iff.mpr c4
  subst c4
  rw [if_neg (show ¬ (false = true) by decide)] at H
  simp only [Option.some.injEq, Prod.mk.injEq] at H
  obtain ⟨rfl, rfl, rfl, rfl, rfl⟩ := H
  go_enter Tryd.func32, Tryd.ntmps32
  go_wp2_with (first | ((with_reducible refine gate_dst (N := 2) rfl ?_); refine bx 2 #[.int .i64 a0_0, .int .i64 a0_1, .string a0_2, .string a0_3] 35 ?_; intro gb101 hg w14 hbox hb; have BK101 := Aside0.mk (hbox); have GW101 := Aside0.mk (bz hg); have GE101 := Aside0.mk (bz hg); replace HB := Aside0.mk (below_step bh hb); clear hb hbox hg) | ((with_reducible refine gate_dst (N := 4) rfl ?_); refine bx 4 #[.int .i64 0, .int .i64 0, .string (⟨#[]⟩ : ByteArray), .string (⟨#[]⟩ : ByteArray)] 35 ?_; intro gb102 hg w15 hbox hb; have BK102 := Aside0.mk (hbox); have GW102 := Aside0.mk (bz hg); have GE102 := Aside0.mk (bz hg); have NB101_102 := Aside0.mk ((nl (o := .cells #[.int .i64 a0_0, .int .i64 a0_1, .string a0_2, .string a0_3] 35 (0, 0)) hg bk : gb101 ≠ gb102)); have NB102_101 := Aside0.mk ((ng (o := .cells #[.int .i64 a0_0, .int .i64 a0_1, .string a0_2, .string a0_3] 35 (0, 0)) hg bk : gb102 ≠ gb101)); replace BK101 := bkb_ BK101 hb; replace HB := Aside0.mk (below_step bh hb); clear hb hbox hg; have hnb16 := NB101_102.out; have hnc16 := NB102_101.out; obtain ⟨hcz17_0, hcz17_1, hcz17_2, hcz17_3⟩ := zcf4 BK101; obtain ⟨hfz17_0, hfz17_1, hfz17_2, hfz17_3⟩ := zff4 BK101) | ((with_reducible refine gate_callee (f := 29) rfl ?_); refine goesL_ (some 7) rfl rfl Tryd.func29 (by kernel_rfl) rfl #[.agg #[.int .i64 a0_0, .int .i64 a0_1, .string a0_2, .string a0_3]] rfl mc ?_; (with_reducible refine (impl_ChunkerOk.calls k a0_0 a0_1 a0_2 a0_3 false _ A3.out).mono ?_); rintro e w18 ⟨rfl, hb⟩; refine ⟨_, rfl, ?_⟩; replace BK101 := bkb_ BK101 hb; replace BK102 := bkb_ BK102 hb; replace HB := Aside0.mk (below_step bh hb); (try clear hb); (try clear hb2); (try clear hk); (try clear hi); obtain ⟨hcz19_0, hcz19_1, hcz19_2, hcz19_3⟩ := zcf4 BK102; obtain ⟨hfz19_0, hfz19_1, hfz19_2, hfz19_3⟩ := zff4 BK102))
  refine bodyPost_ret (results_ct rfl _ _ gb102 35 #[.int .i64 0, .int .i64 0, .string (⟨#[]⟩ : ByteArray), .string (⟨#[]⟩ : ByteArray)] (0, 0) _ rfl bkp Tryd.underlying35 rfl (by kernel_rfl)) rfl ?_
  exact ⟨er, bh⟩
/-! ### laws_big: function 6 -/
def laws_big.f (l0 : List Int) : Option (Bool) := some (decide ((l0.length : Int) > 4096))
set_option maxHeartbeats 8000000 in
set_option maxRecDepth 100000 in
theorem laws_big.calls (A0 : Option Addr) (c0 : Nat) (l0 : List Int) (r : Bool) (w : World) (hr0 : Kd.C (Kd.int .u8) w A0 l0.length l0) (hc0 : l0.length ≤ c0) (h : laws_big.f l0 = some r) :
  Calls Tryd.prog 6 #[.slice A0 l0.length c0] w fun e w' => e = .returned (.bool r) ∧ Drawn0 w w' := by
 have HR0 := Aside0.mk hr0
 have HC0 := Aside0.mk hc0
 clear hr0 hc0
 have H : (some (decide ((l0.length : Int) > 4096))) = some r := h
 clear h
 obtain rfl := Option.some.inj H
 go_enter Tryd.func6, Tryd.ntmps6
 go_wp2
 go_ret
 exact ⟨by first | rfl | (simp; done) | (simp [*]; done), by repeat (first | exact Drawn0.refl _ | apply Drawn0.step)⟩
/-! ### spec_DrawEatAll: function 31 -/
def spec_DrawEatAll.f (k : Nat) (l0 : List Int) : Option (Int × Int × ByteArray × ByteArray × ByteArray) := (spec_l1New.f k l0).bind fun bt102 => ((spec_l5DrawAny.f k bt102.1 bt102.2.1 bt102.2.2).bind fun bt106 => ((spec_l1Once.f bt102.1 bt106.2.2.2.2.1 bt106.2.2.2.2.2 2).bind fun bt113 => (if bt113.1 = true then ((spec_l5DrawText.f k bt102.1 bt113.2.1 bt113.2.2).bind fun bt116 => (some (1, 0, (⟨#[]⟩ : ByteArray), (⟨#[]⟩ : ByteArray), bt116.1))) else ((spec_l5DrawText.f k bt102.1 bt113.2.1 bt113.2.2).bind fun bt119 => (some (bt106.1, bt106.2.1, bt106.2.2.1, bt106.2.2.2.1, bt119.1))))))
theorem spec_DrawEatAll.mono : ∀ a0 k, LeO (spec_DrawEatAll.f k a0) (spec_DrawEatAll.f (k + 1) a0) := by
 intro a0 k
 unfold spec_DrawEatAll.f
 repeat' first
   | (with_reducible exact spec_l1New.mono _ _)
   | (with_reducible exact spec_l5DrawAny.mono _ _ _ _)
   | (with_reducible exact spec_l5DrawText.mono _ _ _ _)
   | (with_reducible exact LeO.refl _)
   | (with_reducible exact LeO.none _)
   | (with_reducible refine LeO.ite ?_ ?_)
   | (with_reducible refine LeO.bind ?_ (fun _ => ?_))
   | exact spec_l1New.mono _ _
   | exact spec_l5DrawAny.mono _ _ _ _
   | exact spec_l5DrawText.mono _ _ _ _
   | exact LeO.none _
   | refine LeO.ite ?_ ?_
   | refine LeO.bind ?_ (fun _ => ?_)
set_option maxHeartbeats 8000000 in
set_option maxRecDepth 100000 in
theorem spec_DrawEatAll.calls (k : Nat) (A0 : Option Addr) (c0 : Nat) (l0 : List Int) (r1 : Int) (r2 : Int) (r3 : ByteArray) (r4 : ByteArray) (r5 : ByteArray) (w : World) (hr0 : Kd.C (Kd.int .u8) w A0 l0.length l0) (hc0 : l0.length ≤ c0) (h : spec_DrawEatAll.f k l0 = some (r1, r2, r3, r4, r5)) :
  Calls Tryd.prog 31 #[.slice A0 l0.length c0] w fun e w' => e = .returned (.tuple #[.agg #[.int .i64 r1, .int .i64 r2, .string r3, .string r4], .string r5]) ∧ Below w.heap.size w w' := by
 have hu35 := Tryd.underlying35
 have HR0 := Aside0.mk hr0
 have HC0 := Aside0.mk hc0
 clear hr0 hc0
 have HB := Aside0.mk (Below.refl w.heap.size w)
 have H : ((spec_l1New.f k l0).bind fun bt102 => ((spec_l5DrawAny.f k bt102.1 bt102.2.1 bt102.2.2).bind fun bt106 => ((spec_l1Once.f bt102.1 bt106.2.2.2.2.1 bt106.2.2.2.2.2 2).bind fun bt113 => (if bt113.1 = true then ((spec_l5DrawText.f k bt102.1 bt113.2.1 bt113.2.2).bind fun bt116 => (some (1, 0, (⟨#[]⟩ : ByteArray), (⟨#[]⟩ : ByteArray), bt116.1))) else ((spec_l5DrawText.f k bt102.1 bt113.2.1 bt113.2.2).bind fun bt119 => (some (bt106.1, bt106.2.1, bt106.2.2.1, bt106.2.2.2.1, bt119.1))))))) = some (r1, r2, r3, r4, r5) := h
 clear h
 obtain ⟨⟨t102, t103, t104⟩, A20, H⟩ := Option.bind_eq_some_iff.mp H
 try dsimp only at H
 have A2 := Aside0.mk A20
 clear A20
 obtain ⟨⟨t106, t107, t108, t109, t110, t111⟩, A30, H⟩ := Option.bind_eq_some_iff.mp H
 try dsimp only at H
 have A3 := Aside0.mk A30
 clear A30
 obtain ⟨⟨t113, t114, t115⟩, A40, H⟩ := Option.bind_eq_some_iff.mp H
 try dsimp only at H
 have A4 := Aside0.mk A40
 clear A40
 by_cases c5 : t113 = true
 ·
  subst c5
  rw [if_pos rfl] at H
  obtain ⟨⟨t116, t117, t118⟩, A60, H⟩ := Option.bind_eq_some_iff.mp H
  try dsimp only at H
  have A6 := Aside0.mk A60
  clear A60
  simp only [Option.some.injEq, Prod.mk.injEq] at H
  obtain ⟨rfl, rfl, rfl, rfl, rfl⟩ := H
  go_enter Tryd.func31, Tryd.ntmps31
  try go_wp2_with (first | ((with_reducible refine gate_dst (N := 2) rfl ?_); refine bx 2 #[.int .i64 0, .int .i64 0, .string (⟨#[]⟩ : ByteArray), .string (⟨#[]⟩ : ByteArray)] 35 ?_; intro gb101 hg w7 hbox hb; have BK101 := Aside0.mk (hbox); have GW101 := Aside0.mk (bz hg); have GE101 := Aside0.mk (bz hg); replace HB := Aside0.mk (below_step bh hb); clear hb hbox hg) | ((with_reducible refine gate_callee (f := 34) rfl ?_); refine goesL_ (some 7) rfl rfl Tryd.func34 (by kernel_rfl) rfl #[.slice A0 l0.length c0] rfl mc ?_; (with_reducible refine (spec_l1New.calls k _ _ l0 t102 t103 t104 w _ ?side1 ?side2 ?side3 A2.out).mono ?_); (case side1 => exact zbh); (case side2 => exact HR0.out); (case side3 => exact HC0.out); rintro e w8 ⟨g105, rfl, hi, hb, hb2⟩; refine ⟨_, rfl, ?_⟩; have HI105 := Aside0.mk (hi); have NB105_101 := Aside0.mk (IsS76.ne_blk hi (blk_below (g := gb101) (o := .cells #[.int .i64 0, .int .i64 0, .string (⟨#[]⟩ : ByteArray), .string (⟨#[]⟩ : ByteArray)] 35 (0, 0)) bk hb2) (by decide)); have NB101_105 := Aside0.mk (Ne.symm (IsS76.ne_blk hi (blk_below (g := gb101) (o := .cells #[.int .i64 0, .int .i64 0, .string (⟨#[]⟩ : ByteArray), .string (⟨#[]⟩ : ByteArray)] 35 (0, 0)) bk hb2) (by decide))); replace BK101 := Aside0.mk (blk_below (g := gb101) (o := .cells #[.int .i64 0, .int .i64 0, .string (⟨#[]⟩ : ByteArray), .string (⟨#[]⟩ : ByteArray)] 35 (0, 0)) bk hb2); replace HB := Aside0.mk (hb); (try clear hb); (try clear hb2); (try clear hk); (try clear hi)) | ((with_reducible refine gate_callee (f := 56) rfl ?_); refine goesL_ (some 9) rfl rfl Tryd.func56 (by kernel_rfl) rfl #[.pointer (some ⟨g105, 0, none⟩)] rfl mc ?_; (with_reducible refine (spec_l5DrawAny.calls k g105 t102 t103 t104 t106 t107 t108 t109 t110 t111 w _ ?side1 ?side2 A3.out).mono ?_); (case side1 => repeat (first | (with_reducible first | exact HI105.out | apply IsS76.alloc | apply IsS76.drewN | apply IsS76.drew | apply IsS76.set_1 | apply IsS76.set_2 | refine IsS76.far ?_ NB105_101.out _) | exact HI105.out)); (case side2 => repeat (first | (with_reducible first | exact HB.out | apply below_alloc | apply pw_below_drewN | apply below_drew1 | refine below_set ?_ (IsS76.ge HI105.out) | refine below_set ?_ GE101.out) | exact HB.out)); rintro e w9 ⟨rfl, hi, hb, hk⟩; refine ⟨_, rfl, ?_⟩; replace BK101 := bkk_ BK101 hk NB101_105; replace HI105 := Aside0.mk (hi); replace HB := Aside0.mk (hb); (try clear hb); (try clear hb2); (try clear hk); (try clear hi)) | ((with_reducible refine gate_dst (N := 5) rfl ?_); refine bx 5 #[.int .i64 0, .int .i64 0, .string (⟨#[]⟩ : ByteArray), .string (⟨#[]⟩ : ByteArray)] 35 ?_; intro gb112 hg w10 hbox hb; have n0_ := Aside0.mk (blk_below (g := gb101) (o := .cells #[.int .i64 0, .int .i64 0, .string (⟨#[]⟩ : ByteArray), .string (⟨#[]⟩ : ByteArray)] 35 (0, 0)) bk hb); have n1_ := Aside0.mk (IsS76.below (by repeat (first | (with_reducible first | exact HI105.out | apply IsS76.alloc | apply IsS76.drewN | apply IsS76.drew | apply IsS76.set_1 | apply IsS76.set_2 | refine IsS76.far ?_ NB105_101.out _) | exact HI105.out)) hb); have n2_ := Aside0.mk (below_step (by repeat (first | (with_reducible first | exact HB.out | apply below_alloc | apply pw_below_drewN | apply below_drew1 | refine below_set ?_ (IsS76.ge HI105.out) | refine below_set ?_ GE101.out) | exact HB.out)) hb); have n3_ := Aside0.mk (hbox); have n4_ := Aside0.mk ((by rw [hg]; exact (below_size (by repeat (first | (with_reducible first | exact HB.out | apply below_alloc | apply pw_below_drewN | apply below_drew1 | refine below_set ?_ (IsS76.ge HI105.out) | refine below_set ?_ GE101.out) | exact HB.out))) : w.heap.size ≤ gb112)); have n5_ := Aside0.mk ((by rw [hg]; exact (below_size (by repeat (first | (with_reducible first | exact HB.out | apply below_alloc | apply pw_below_drewN | apply below_drew1 | refine below_set ?_ (IsS76.ge HI105.out) | refine below_set ?_ GE101.out) | exact HB.out))) : w.heap.size ≤ gb112)); have n6_ := Aside0.mk ((nl (o := .cells #[.int .i64 0, .int .i64 0, .string (⟨#[]⟩ : ByteArray), .string (⟨#[]⟩ : ByteArray)] 35 (0, 0)) hg bk : gb101 ≠ gb112)); have n7_ := Aside0.mk ((ng (o := .cells #[.int .i64 0, .int .i64 0, .string (⟨#[]⟩ : ByteArray), .string (⟨#[]⟩ : ByteArray)] 35 (0, 0)) hg bk : gb112 ≠ gb101)); have n8_ := Aside0.mk ((by rw [hg]; exact Nat.ne_of_lt (IsS76.lt (show IsS76 w _ g105 t102 t110 t111 from by repeat (first | (with_reducible first | exact HI105.out | apply IsS76.alloc | apply IsS76.drewN | apply IsS76.drew | apply IsS76.set_1 | apply IsS76.set_2 | refine IsS76.far ?_ NB105_101.out _) | exact HI105.out))) : g105 ≠ gb112)); have n9_ := Aside0.mk ((by rw [hg]; exact Nat.ne_of_gt (IsS76.lt (show IsS76 w _ g105 t102 t110 t111 from by repeat (first | (with_reducible first | exact HI105.out | apply IsS76.alloc | apply IsS76.drewN | apply IsS76.drew | apply IsS76.set_1 | apply IsS76.set_2 | refine IsS76.far ?_ NB105_101.out _) | exact HI105.out))) : gb112 ≠ g105)); clear BK101; clear HI105; clear HB; have BK101 := n0_; have HI105 := n1_; have HB := n2_; have BK112 := n3_; have GW112 := n4_; have GE112 := n5_; have NB101_112 := n6_; have NB112_101 := n7_; have NB105_112 := n8_; have NB112_105 := n9_; clear n0_ n1_ n2_ n3_ n4_ n5_ n6_ n7_ n8_ n9_; clear hb hbox hg; have hnb11 := NB112_101.out; have hnc11 := NB101_112.out; have hnb12 := NB112_105.out; have hnc12 := NB105_112.out; obtain ⟨hcz13_0, hcz13_1, hcz13_2, hcz13_3⟩ := zcf4 BK112; obtain ⟨hfz13_0, hfz13_1, hfz13_2, hfz13_3⟩ := zff4 BK112) | ((with_reducible refine gate_callee (f := 35) rfl ?_); refine goesL_ (some 11) rfl rfl Tryd.func35 (by kernel_rfl) rfl #[.pointer (some ⟨g105, 0, none⟩), .int .i64 2] rfl mc ?_; (with_reducible refine (spec_l1Once.calls g105 t102 t110 t111 2 true t114 t115 w _ ?side1 ?side2 A4.out).mono ?_); (case side1 => repeat (first | (with_reducible first | exact HI105.out | apply IsS76.alloc | apply IsS76.drewN | apply IsS76.drew | apply IsS76.set_1 | apply IsS76.set_2 | refine IsS76.far ?_ NB105_101.out _ | refine IsS76.far ?_ NB105_112.out _) | exact HI105.out)); (case side2 => repeat (first | (with_reducible first | exact HB.out | apply below_alloc | apply pw_below_drewN | apply below_drew1 | refine below_set ?_ (IsS76.ge HI105.out) | refine below_set ?_ GE101.out | refine below_set ?_ GE112.out) | exact HB.out)); rintro e w14 ⟨rfl, hi, hb, hk⟩; refine ⟨_, rfl, ?_⟩; replace BK101 := Aside0.mk (KeepBut.blk hk (g' := gb101) (o := .cells #[.int .i64 0, .int .i64 0, .string (⟨#[]⟩ : ByteArray), .string (⟨#[]⟩ : ByteArray)] 35 (0, 0)) bkp NB101_105.out (by simp)); replace BK112 := Aside0.mk (KeepBut.blk hk (g' := gb112) (o := .cells #[.int .i64 t106, .int .i64 t107, .string t108, .string t109] 35 (0, 0)) bkp NB112_105.out (by simp)); replace HI105 := Aside0.mk (hi); replace HB := Aside0.mk (hb); (try clear hb); (try clear hb2); (try clear hk); (try clear hi); obtain ⟨hcz15_0, hcz15_1, hcz15_2, hcz15_3⟩ := zcf4 BK112; obtain ⟨hfz15_0, hfz15_1, hfz15_2, hfz15_3⟩ := zff4 BK112))
  have n0_ : Aside0 (((((w14.setCell ⟨gb112, 0, none⟩ (.int .i64 1)).setCell ⟨gb112, 1, none⟩ (.int .i64 0)).setCell ⟨gb112, 2, none⟩ (.string (⟨#[]⟩ : ByteArray))).setCell ⟨gb112, 3, none⟩ (.string (⟨#[]⟩ : ByteArray))).heap[gb101]? = some (.cells #[.int .i64 0, .int .i64 0, .string (⟨#[]⟩ : ByteArray), .string (⟨#[]⟩ : ByteArray)] 35 (0, 0))) := ⟨bkp⟩
  have n1_ : Aside0 (((((w14.setCell ⟨gb112, 0, none⟩ (.int .i64 1)).setCell ⟨gb112, 1, none⟩ (.int .i64 0)).setCell ⟨gb112, 2, none⟩ (.string (⟨#[]⟩ : ByteArray))).setCell ⟨gb112, 3, none⟩ (.string (⟨#[]⟩ : ByteArray))).heap[gb112]? = some (.cells #[.int .i64 1, .int .i64 0, .string (⟨#[]⟩ : ByteArray), .string (⟨#[]⟩ : ByteArray)] 35 (0, 0))) := ⟨bkp⟩
  have n2_ : Aside0 (IsS76 w ((((w14.setCell ⟨gb112, 0, none⟩ (.int .i64 1)).setCell ⟨gb112, 1, none⟩ (.int .i64 0)).setCell ⟨gb112, 2, none⟩ (.string (⟨#[]⟩ : ByteArray))).setCell ⟨gb112, 3, none⟩ (.string (⟨#[]⟩ : ByteArray))) g105 t102 t114 t115) := ⟨by repeat (first | (with_reducible first | exact HI105.out | apply IsS76.alloc | apply IsS76.drewN | apply IsS76.drew | apply IsS76.set_1 | apply IsS76.set_2 | refine IsS76.far ?_ NB105_101.out _ | refine IsS76.far ?_ NB105_112.out _) | exact HI105.out)⟩
  have n3_ : Aside0 (Below w.heap.size w ((((w14.setCell ⟨gb112, 0, none⟩ (.int .i64 1)).setCell ⟨gb112, 1, none⟩ (.int .i64 0)).setCell ⟨gb112, 2, none⟩ (.string (⟨#[]⟩ : ByteArray))).setCell ⟨gb112, 3, none⟩ (.string (⟨#[]⟩ : ByteArray)))) := ⟨by repeat (first | (with_reducible first | exact HB.out | apply below_alloc | apply pw_below_drewN | apply below_drew1 | refine below_set ?_ (IsS76.ge HI105.out) | refine below_set ?_ GE101.out | refine below_set ?_ GE112.out) | exact HB.out)⟩
  (try clear BK101)
  (try clear BK112)
  (try clear HI105)
  (try clear HB)
  generalize ((((w14.setCell ⟨gb112, 0, none⟩ (.int .i64 1)).setCell ⟨gb112, 1, none⟩ (.int .i64 0)).setCell ⟨gb112, 2, none⟩ (.string (⟨#[]⟩ : ByteArray))).setCell ⟨gb112, 3, none⟩ (.string (⟨#[]⟩ : ByteArray))) = w16 at n0_ n1_ n2_ n3_ ⊢
  have BK101 := n0_
  have BK112 := n1_
  have HI105 := n2_
  have HB := n3_
  clear n0_ n1_ n2_ n3_
  replace BK101 := Aside0.mk (blk_drew BK101.out)
  replace BK112 := Aside0.mk (blk_drew BK112.out)
  replace HI105 := Aside0.mk (IsS76.drew HI105.out)
  replace HB := Aside0.mk (below_drew1 HB.out)
  refine start_ (n := 5) (S := fun w' => w'.cell? ⟨gb112, 0, none⟩ = some (.int .i64 1) ∧ w'.cell? ⟨gb112, 1, none⟩ = some (.int .i64 0) ∧ w'.cell? ⟨gb112, 2, none⟩ = some (.string (⟨#[]⟩ : ByteArray)) ∧ w'.cell? ⟨gb112, 3, none⟩ = some (.string (⟨#[]⟩ : ByteArray))) (ds := []) #[false, false, false, false, false] (by kernel_rfl) rfl rfl ⟨bc BK112 0, bc BK112 1, bc BK112 2, bc BK112 3⟩ (fun hHeld => ?_)
  generalize w16.drew = w17 at BK101 BK112 HI105 HB hHeld ⊢
  refine pure_ (i := 1) (N := some 14) (v := ?_) (a' := ?_) #[false, true, false, false, false] rfl rfl (by kernel_rfl) (fun _ _ _ h => h) (Or.inl ⟨by rfl, ?_⟩) ?_ ?_
  rotate_left
  ·
   intro w'
   go_simp
   with_reducible rfl
  rotate_left
  ·
   simp only [Act.put, List.setIfInBounds_toArray, List.set_cons_zero, List.set_cons_succ, i64_w, i32_w]
   rfl
  refine take_ (i := 0) (N := some 13) (v := ?_) (a' := ?_) #[true, true, false, false, false] rfl rfl (by kernel_rfl) (fun _ _ _ h => h) (Or.inl ⟨by rfl, ?_⟩) hHeld ?_ ?_
  rotate_left
  ·
   rintro w' ⟨s0, s1, s2, s3⟩
   go_simp
   with_reducible rfl
  rotate_left
  ·
   simp only [Act.put, List.setIfInBounds_toArray, List.set_cons_zero, List.set_cons_succ, i64_w, i32_w]
   rfl
  refine one_ (i := 2) (N := some 15) #[true, true, true, false, false] rfl rfl (by kernel_rfl) (by decide) (fun K hK => ?_)
  refine gs Tryd.func53 #[.pointer (some ⟨g105, 0, none⟩)] ?_
  with_reducible refine (spec_l5DrawText.calls k g105 t102 t114 t115 t116 t117 t118 w _ ?side1 ?side2 A6.out).mono ?_
  (case side1 => repeat (first | (with_reducible first | exact HI105.out | apply IsS76.alloc | apply IsS76.drewN | apply IsS76.drew | apply IsS76.set_1 | apply IsS76.set_2 | refine IsS76.far ?_ NB105_101.out _ | refine IsS76.far ?_ NB105_112.out _) | exact HI105.out))
  (case side2 => repeat (first | (with_reducible first | exact HB.out | apply below_alloc | apply pw_below_drewN | apply below_drew1 | refine below_set ?_ (IsS76.ge HI105.out) | refine below_set ?_ GE101.out | refine below_set ?_ GE112.out) | exact HB.out))
  rintro e w18 ⟨rfl, hi, hb, hk⟩
  refine ⟨_, rfl, ?_⟩
  replace BK101 := bkk_ BK101 hk NB101_105
  replace BK112 := bkk_ BK112 hk NB112_105
  replace HI105 := Aside0.mk (hi)
  replace HB := Aside0.mk (hb)
  (try clear hb)
  (try clear hb2)
  (try clear hk)
  (try clear hi)
  refine hK.out _ _ ⟨bc BK112 0, bc BK112 1, bc BK112 2, bc BK112 3⟩ (fun hHeld => ?_)
  clear hK K
  refine nm 15 ?_
  refine one_ (i := 3) (N := none) #[true, true, true, true, false] rfl rfl (by kernel_rfl) (by decide) (fun K hK => ?_)
  have hs19 : w18.cell? ⟨gb101, 0, none⟩ = some (.int .i64 0) := bc BK101 0
  have hfs19 := blk_frozen BK101.out 0
  have hns19_1 := NB112_101.out
  have hms19_1 := NB101_112.out
  have hs20 : w18.cell? ⟨gb101, 1, none⟩ = some (.int .i64 0) := bc BK101 1
  have hfs20 := blk_frozen BK101.out 1
  have hns20_1 := NB112_101.out
  have hms20_1 := NB101_112.out
  have hs21 : w18.cell? ⟨gb101, 2, none⟩ = some (.string (⟨#[]⟩ : ByteArray)) := bc BK101 2
  have hfs21 := blk_frozen BK101.out 2
  have hns21_1 := NB112_101.out
  have hms21_1 := NB101_112.out
  have hs22 : w18.cell? ⟨gb101, 3, none⟩ = some (.string (⟨#[]⟩ : ByteArray)) := bc BK101 3
  have hfs22 := blk_frozen BK101.out 3
  have hns22_1 := NB112_101.out
  have hms22_1 := NB101_112.out
  refine skip_ (w1 := ?_) (by rfl) rfl ?_ ?_
  rotate_left
  ·
   go_simp
   rfl
  refine hK.out _ _ ⟨((cell_far (p := ⟨gb101, _, none⟩) NB112_101.out _).trans (((cell_far (p := ⟨gb101, _, none⟩) NB112_101.out _).trans (((cell_far (p := ⟨gb101, _, none⟩) NB112_101.out _).trans (((cell_far (p := ⟨gb101, _, none⟩) NB112_101.out _).trans (hHeld.1)))))))), ((cell_far (p := ⟨gb101, _, none⟩) NB112_101.out _).trans (((cell_far (p := ⟨gb101, _, none⟩) NB112_101.out _).trans (((cell_far (p := ⟨gb101, _, none⟩) NB112_101.out _).trans (((cell_far (p := ⟨gb101, _, none⟩) NB112_101.out _).trans (hHeld.2.1)))))))), ((cell_far (p := ⟨gb101, _, none⟩) NB112_101.out _).trans (((cell_far (p := ⟨gb101, _, none⟩) NB112_101.out _).trans (((cell_far (p := ⟨gb101, _, none⟩) NB112_101.out _).trans (((cell_far (p := ⟨gb101, _, none⟩) NB112_101.out _).trans (hHeld.2.2.1)))))))), ((cell_far (p := ⟨gb101, _, none⟩) NB112_101.out _).trans (((cell_far (p := ⟨gb101, _, none⟩) NB112_101.out _).trans (((cell_far (p := ⟨gb101, _, none⟩) NB112_101.out _).trans (((cell_far (p := ⟨gb101, _, none⟩) NB112_101.out _).trans (hHeld.2.2.2))))))))⟩ (fun hHeld => ?_)
  clear hK K
  refine pure_ (i := 4) (N := some 3) (v := ?_) (a' := ?_) #[true, true, true, true, true] rfl rfl (by kernel_rfl) (fun _ _ _ h => h) (Or.inl ⟨by rfl, ?_⟩) ?_ ?_
  rotate_left
  ·
   intro w'
   go_simp
   with_reducible rfl
  rotate_left
  ·
   simp only [Act.put, List.setIfInBounds_toArray, List.set_cons_zero, List.set_cons_succ, i64_w, i32_w]
   rfl
  refine done_ (by kernel_rfl) ?_
  try go_wp2
  refine bodyPost_ret (results_ct rfl _ _ gb101 35 #[.int .i64 1, .int .i64 0, .string (⟨#[]⟩ : ByteArray), .string (⟨#[]⟩ : ByteArray)] (0, 0) _ rfl bkp Tryd.underlying35 rfl (by kernel_rfl)) rfl ?_
  exact ⟨er, by repeat (first | (with_reducible first | exact HB.out | apply below_alloc | apply pw_below_drewN | apply below_drew1 | refine below_set ?_ (IsS76.ge HI105.out) | refine below_set ?_ GE101.out | refine below_set ?_ GE112.out) | exact HB.out)⟩
 ·
  replace c5 := Bool.eq_false_iff.mpr c5
  subst c5
  rw [if_neg (show ¬ (false = true) by decide)] at H
  obtain ⟨⟨t119, t120, t121⟩, A230, H⟩ := Option.bind_eq_some_iff.mp H
  try dsimp only at H
  have A23 := Aside0.mk A230
  clear A230
  simp only [Option.some.injEq, Prod.mk.injEq] at H
  obtain ⟨rfl, rfl, rfl, rfl, rfl⟩ := H
  go_enter Tryd.func31, Tryd.ntmps31
  try go_wp2_with (first | ((with_reducible refine gate_dst (N := 2) rfl ?_); refine bx 2 #[.int .i64 0, .int .i64 0, .string (⟨#[]⟩ : ByteArray), .string (⟨#[]⟩ : ByteArray)] 35 ?_; intro gb101 hg w24 hbox hb; have BK101 := Aside0.mk (hbox); have GW101 := Aside0.mk (bz hg); have GE101 := Aside0.mk (bz hg); replace HB := Aside0.mk (below_step bh hb); clear hb hbox hg) | ((with_reducible refine gate_callee (f := 34) rfl ?_); refine goesL_ (some 7) rfl rfl Tryd.func34 (by kernel_rfl) rfl #[.slice A0 l0.length c0] rfl mc ?_; (with_reducible refine (spec_l1New.calls k _ _ l0 t102 t103 t104 w _ ?side1 ?side2 ?side3 A2.out).mono ?_); (case side1 => exact zbh); (case side2 => exact HR0.out); (case side3 => exact HC0.out); rintro e w25 ⟨g105, rfl, hi, hb, hb2⟩; refine ⟨_, rfl, ?_⟩; have HI105 := Aside0.mk (hi); have NB105_101 := Aside0.mk (IsS76.ne_blk hi (blk_below (g := gb101) (o := .cells #[.int .i64 0, .int .i64 0, .string (⟨#[]⟩ : ByteArray), .string (⟨#[]⟩ : ByteArray)] 35 (0, 0)) bk hb2) (by decide)); have NB101_105 := Aside0.mk (Ne.symm (IsS76.ne_blk hi (blk_below (g := gb101) (o := .cells #[.int .i64 0, .int .i64 0, .string (⟨#[]⟩ : ByteArray), .string (⟨#[]⟩ : ByteArray)] 35 (0, 0)) bk hb2) (by decide))); replace BK101 := Aside0.mk (blk_below (g := gb101) (o := .cells #[.int .i64 0, .int .i64 0, .string (⟨#[]⟩ : ByteArray), .string (⟨#[]⟩ : ByteArray)] 35 (0, 0)) bk hb2); replace HB := Aside0.mk (hb); (try clear hb); (try clear hb2); (try clear hk); (try clear hi)) | ((with_reducible refine gate_callee (f := 56) rfl ?_); refine goesL_ (some 9) rfl rfl Tryd.func56 (by kernel_rfl) rfl #[.pointer (some ⟨g105, 0, none⟩)] rfl mc ?_; (with_reducible refine (spec_l5DrawAny.calls k g105 t102 t103 t104 t106 t107 t108 t109 t110 t111 w _ ?side1 ?side2 A3.out).mono ?_); (case side1 => repeat (first | (with_reducible first | exact HI105.out | apply IsS76.alloc | apply IsS76.drewN | apply IsS76.drew | apply IsS76.set_1 | apply IsS76.set_2 | refine IsS76.far ?_ NB105_101.out _) | exact HI105.out)); (case side2 => repeat (first | (with_reducible first | exact HB.out | apply below_alloc | apply pw_below_drewN | apply below_drew1 | refine below_set ?_ (IsS76.ge HI105.out) | refine below_set ?_ GE101.out) | exact HB.out)); rintro e w26 ⟨rfl, hi, hb, hk⟩; refine ⟨_, rfl, ?_⟩; replace BK101 := bkk_ BK101 hk NB101_105; replace HI105 := Aside0.mk (hi); replace HB := Aside0.mk (hb); (try clear hb); (try clear hb2); (try clear hk); (try clear hi)) | ((with_reducible refine gate_dst (N := 5) rfl ?_); refine bx 5 #[.int .i64 0, .int .i64 0, .string (⟨#[]⟩ : ByteArray), .string (⟨#[]⟩ : ByteArray)] 35 ?_; intro gb112 hg w27 hbox hb; have n0_ := Aside0.mk (blk_below (g := gb101) (o := .cells #[.int .i64 0, .int .i64 0, .string (⟨#[]⟩ : ByteArray), .string (⟨#[]⟩ : ByteArray)] 35 (0, 0)) bk hb); have n1_ := Aside0.mk (IsS76.below (by repeat (first | (with_reducible first | exact HI105.out | apply IsS76.alloc | apply IsS76.drewN | apply IsS76.drew | apply IsS76.set_1 | apply IsS76.set_2 | refine IsS76.far ?_ NB105_101.out _) | exact HI105.out)) hb); have n2_ := Aside0.mk (below_step (by repeat (first | (with_reducible first | exact HB.out | apply below_alloc | apply pw_below_drewN | apply below_drew1 | refine below_set ?_ (IsS76.ge HI105.out) | refine below_set ?_ GE101.out) | exact HB.out)) hb); have n3_ := Aside0.mk (hbox); have n4_ := Aside0.mk ((by rw [hg]; exact (below_size (by repeat (first | (with_reducible first | exact HB.out | apply below_alloc | apply pw_below_drewN | apply below_drew1 | refine below_set ?_ (IsS76.ge HI105.out) | refine below_set ?_ GE101.out) | exact HB.out))) : w.heap.size ≤ gb112)); have n5_ := Aside0.mk ((by rw [hg]; exact (below_size (by repeat (first | (with_reducible first | exact HB.out | apply below_alloc | apply pw_below_drewN | apply below_drew1 | refine below_set ?_ (IsS76.ge HI105.out) | refine below_set ?_ GE101.out) | exact HB.out))) : w.heap.size ≤ gb112)); have n6_ := Aside0.mk ((nl (o := .cells #[.int .i64 0, .int .i64 0, .string (⟨#[]⟩ : ByteArray), .string (⟨#[]⟩ : ByteArray)] 35 (0, 0)) hg bk : gb101 ≠ gb112)); have n7_ := Aside0.mk ((ng (o := .cells #[.int .i64 0, .int .i64 0, .string (⟨#[]⟩ : ByteArray), .string (⟨#[]⟩ : ByteArray)] 35 (0, 0)) hg bk : gb112 ≠ gb101)); have n8_ := Aside0.mk ((by rw [hg]; exact Nat.ne_of_lt (IsS76.lt (show IsS76 w _ g105 t102 t110 t111 from by repeat (first | (with_reducible first | exact HI105.out | apply IsS76.alloc | apply IsS76.drewN | apply IsS76.drew | apply IsS76.set_1 | apply IsS76.set_2 | refine IsS76.far ?_ NB105_101.out _) | exact HI105.out))) : g105 ≠ gb112)); have n9_ := Aside0.mk ((by rw [hg]; exact Nat.ne_of_gt (IsS76.lt (show IsS76 w _ g105 t102 t110 t111 from by repeat (first | (with_reducible first | exact HI105.out | apply IsS76.alloc | apply IsS76.drewN | apply IsS76.drew | apply IsS76.set_1 | apply IsS76.set_2 | refine IsS76.far ?_ NB105_101.out _) | exact HI105.out))) : gb112 ≠ g105)); clear BK101; clear HI105; clear HB; have BK101 := n0_; have HI105 := n1_; have HB := n2_; have BK112 := n3_; have GW112 := n4_; have GE112 := n5_; have NB101_112 := n6_; have NB112_101 := n7_; have NB105_112 := n8_; have NB112_105 := n9_; clear n0_ n1_ n2_ n3_ n4_ n5_ n6_ n7_ n8_ n9_; clear hb hbox hg; have hnb28 := NB112_101.out; have hnc28 := NB101_112.out; have hnb29 := NB112_105.out; have hnc29 := NB105_112.out; obtain ⟨hcz30_0, hcz30_1, hcz30_2, hcz30_3⟩ := zcf4 BK112; obtain ⟨hfz30_0, hfz30_1, hfz30_2, hfz30_3⟩ := zff4 BK112) | ((with_reducible refine gate_callee (f := 35) rfl ?_); refine goesL_ (some 11) rfl rfl Tryd.func35 (by kernel_rfl) rfl #[.pointer (some ⟨g105, 0, none⟩), .int .i64 2] rfl mc ?_; (with_reducible refine (spec_l1Once.calls g105 t102 t110 t111 2 false t114 t115 w _ ?side1 ?side2 A4.out).mono ?_); (case side1 => repeat (first | (with_reducible first | exact HI105.out | apply IsS76.alloc | apply IsS76.drewN | apply IsS76.drew | apply IsS76.set_1 | apply IsS76.set_2 | refine IsS76.far ?_ NB105_101.out _ | refine IsS76.far ?_ NB105_112.out _) | exact HI105.out)); (case side2 => repeat (first | (with_reducible first | exact HB.out | apply below_alloc | apply pw_below_drewN | apply below_drew1 | refine below_set ?_ (IsS76.ge HI105.out) | refine below_set ?_ GE101.out | refine below_set ?_ GE112.out) | exact HB.out)); rintro e w31 ⟨rfl, hi, hb, hk⟩; refine ⟨_, rfl, ?_⟩; replace BK101 := Aside0.mk (KeepBut.blk hk (g' := gb101) (o := .cells #[.int .i64 0, .int .i64 0, .string (⟨#[]⟩ : ByteArray), .string (⟨#[]⟩ : ByteArray)] 35 (0, 0)) bkp NB101_105.out (by simp)); replace BK112 := Aside0.mk (KeepBut.blk hk (g' := gb112) (o := .cells #[.int .i64 t106, .int .i64 t107, .string t108, .string t109] 35 (0, 0)) bkp NB112_105.out (by simp)); replace HI105 := Aside0.mk (hi); replace HB := Aside0.mk (hb); (try clear hb); (try clear hb2); (try clear hk); (try clear hi)))
  replace BK101 := Aside0.mk (blk_drew BK101.out)
  replace BK112 := Aside0.mk (blk_drew BK112.out)
  replace HI105 := Aside0.mk (IsS76.drew HI105.out)
  replace HB := Aside0.mk (below_drew1 HB.out)
  refine start_ (n := 5) (S := fun w' => w'.cell? ⟨gb112, 0, none⟩ = some (.int .i64 t106) ∧ w'.cell? ⟨gb112, 1, none⟩ = some (.int .i64 t107) ∧ w'.cell? ⟨gb112, 2, none⟩ = some (.string t108) ∧ w'.cell? ⟨gb112, 3, none⟩ = some (.string t109)) (ds := []) #[false, false, false, false, false] (by kernel_rfl) rfl rfl ⟨bc BK112 0, bc BK112 1, bc BK112 2, bc BK112 3⟩ (fun hHeld => ?_)
  generalize w31.drew = w32 at BK101 BK112 HI105 HB hHeld ⊢
  refine pure_ (i := 1) (N := some 14) (v := ?_) (a' := ?_) #[false, true, false, false, false] rfl rfl (by kernel_rfl) (fun _ _ _ h => h) (Or.inl ⟨by rfl, ?_⟩) ?_ ?_
  rotate_left
  ·
   intro w'
   go_simp
   with_reducible rfl
  rotate_left
  ·
   simp only [Act.put, List.setIfInBounds_toArray, List.set_cons_zero, List.set_cons_succ, i64_w, i32_w]
   rfl
  refine take_ (i := 0) (N := some 13) (v := ?_) (a' := ?_) #[true, true, false, false, false] rfl rfl (by kernel_rfl) (fun _ _ _ h => h) (Or.inl ⟨by rfl, ?_⟩) hHeld ?_ ?_
  rotate_left
  ·
   rintro w' ⟨s0, s1, s2, s3⟩
   go_simp
   with_reducible rfl
  rotate_left
  ·
   simp only [Act.put, List.setIfInBounds_toArray, List.set_cons_zero, List.set_cons_succ, i64_w, i32_w]
   rfl
  refine one_ (i := 2) (N := some 15) #[true, true, true, false, false] rfl rfl (by kernel_rfl) (by decide) (fun K hK => ?_)
  refine gs Tryd.func53 #[.pointer (some ⟨g105, 0, none⟩)] ?_
  with_reducible refine (spec_l5DrawText.calls k g105 t102 t114 t115 t119 t120 t121 w _ ?side1 ?side2 A23.out).mono ?_
  (case side1 => repeat (first | (with_reducible first | exact HI105.out | apply IsS76.alloc | apply IsS76.drewN | apply IsS76.drew | apply IsS76.set_1 | apply IsS76.set_2 | refine IsS76.far ?_ NB105_101.out _ | refine IsS76.far ?_ NB105_112.out _) | exact HI105.out))
  (case side2 => repeat (first | (with_reducible first | exact HB.out | apply below_alloc | apply pw_below_drewN | apply below_drew1 | refine below_set ?_ (IsS76.ge HI105.out) | refine below_set ?_ GE101.out | refine below_set ?_ GE112.out) | exact HB.out))
  rintro e w33 ⟨rfl, hi, hb, hk⟩
  refine ⟨_, rfl, ?_⟩
  replace BK101 := bkk_ BK101 hk NB101_105
  replace BK112 := bkk_ BK112 hk NB112_105
  replace HI105 := Aside0.mk (hi)
  replace HB := Aside0.mk (hb)
  (try clear hb)
  (try clear hb2)
  (try clear hk)
  (try clear hi)
  refine hK.out _ _ ⟨bc BK112 0, bc BK112 1, bc BK112 2, bc BK112 3⟩ (fun hHeld => ?_)
  clear hK K
  refine nm 15 ?_
  refine one_ (i := 3) (N := none) #[true, true, true, true, false] rfl rfl (by kernel_rfl) (by decide) (fun K hK => ?_)
  have hs34 : w33.cell? ⟨gb101, 0, none⟩ = some (.int .i64 0) := bc BK101 0
  have hfs34 := blk_frozen BK101.out 0
  have hns34_1 := NB112_101.out
  have hms34_1 := NB101_112.out
  have hs35 : w33.cell? ⟨gb101, 1, none⟩ = some (.int .i64 0) := bc BK101 1
  have hfs35 := blk_frozen BK101.out 1
  have hns35_1 := NB112_101.out
  have hms35_1 := NB101_112.out
  have hs36 : w33.cell? ⟨gb101, 2, none⟩ = some (.string (⟨#[]⟩ : ByteArray)) := bc BK101 2
  have hfs36 := blk_frozen BK101.out 2
  have hns36_1 := NB112_101.out
  have hms36_1 := NB101_112.out
  have hs37 : w33.cell? ⟨gb101, 3, none⟩ = some (.string (⟨#[]⟩ : ByteArray)) := bc BK101 3
  have hfs37 := blk_frozen BK101.out 3
  have hns37_1 := NB112_101.out
  have hms37_1 := NB101_112.out
  refine skip_ (w1 := ?_) (by rfl) rfl ?_ ?_
  rotate_left
  ·
   go_simp
   rfl
  refine hK.out _ _ ⟨((cell_far (p := ⟨gb101, _, none⟩) NB112_101.out _).trans (((cell_far (p := ⟨gb101, _, none⟩) NB112_101.out _).trans (((cell_far (p := ⟨gb101, _, none⟩) NB112_101.out _).trans (((cell_far (p := ⟨gb101, _, none⟩) NB112_101.out _).trans (hHeld.1)))))))), ((cell_far (p := ⟨gb101, _, none⟩) NB112_101.out _).trans (((cell_far (p := ⟨gb101, _, none⟩) NB112_101.out _).trans (((cell_far (p := ⟨gb101, _, none⟩) NB112_101.out _).trans (((cell_far (p := ⟨gb101, _, none⟩) NB112_101.out _).trans (hHeld.2.1)))))))), ((cell_far (p := ⟨gb101, _, none⟩) NB112_101.out _).trans (((cell_far (p := ⟨gb101, _, none⟩) NB112_101.out _).trans (((cell_far (p := ⟨gb101, _, none⟩) NB112_101.out _).trans (((cell_far (p := ⟨gb101, _, none⟩) NB112_101.out _).trans (hHeld.2.2.1)))))))), ((cell_far (p := ⟨gb101, _, none⟩) NB112_101.out _).trans (((cell_far (p := ⟨gb101, _, none⟩) NB112_101.out _).trans (((cell_far (p := ⟨gb101, _, none⟩) NB112_101.out _).trans (((cell_far (p := ⟨gb101, _, none⟩) NB112_101.out _).trans (hHeld.2.2.2))))))))⟩ (fun hHeld => ?_)
  clear hK K
  refine pure_ (i := 4) (N := some 3) (v := ?_) (a' := ?_) #[true, true, true, true, true] rfl rfl (by kernel_rfl) (fun _ _ _ h => h) (Or.inl ⟨by rfl, ?_⟩) ?_ ?_
  rotate_left
  ·
   intro w'
   go_simp
   with_reducible rfl
  rotate_left
  ·
   simp only [Act.put, List.setIfInBounds_toArray, List.set_cons_zero, List.set_cons_succ, i64_w, i32_w]
   rfl
  refine done_ (by kernel_rfl) ?_
  try go_wp2
  refine bodyPost_ret (results_ct rfl _ _ gb101 35 #[.int .i64 t106, .int .i64 t107, .string t108, .string t109] (0, 0) _ rfl bkp Tryd.underlying35 rfl (by kernel_rfl)) rfl ?_
  exact ⟨er, by repeat (first | (with_reducible first | exact HB.out | apply below_alloc | apply pw_below_drewN | apply below_drew1 | refine below_set ?_ (IsS76.ge HI105.out) | refine below_set ?_ GE101.out | refine below_set ?_ GE112.out) | exact HB.out)⟩
/-! ### spec_Eat: function 28 -/
def spec_Eat.f (k : Nat) (a0_0 : Int) (a0_1 : Int) (a0_2 : ByteArray) (a0_3 : ByteArray) (a1 : Int) : Option (Int × Int × ByteArray × ByteArray) := (spec_ChunkerOk.f k a0_0 a0_1 a0_2 a0_3).bind fun t103 => (if t103 = true then ((spec_l5Eat.f k a0_0 a0_1 a0_2 a0_3 a1).bind fun bt104 => (some (bt104.1, bt104.2.1, bt104.2.2.1, bt104.2.2.2))) else (some (0, 0, (⟨#[]⟩ : ByteArray), (⟨#[]⟩ : ByteArray))))
theorem spec_Eat.mono : ∀ a0 a1 a2 a3 a4 k, LeO (spec_Eat.f k a0 a1 a2 a3 a4) (spec_Eat.f (k + 1) a0 a1 a2 a3 a4) := by
 intro a0 a1 a2 a3 a4 k
 unfold spec_Eat.f
 repeat' first
   | (with_reducible exact spec_ChunkerOk.mono _ _ _ _ _)
   | (with_reducible exact spec_l5Eat.mono _ _ _ _ _ _)
   | (with_reducible exact LeO.refl _)
   | (with_reducible exact LeO.none _)
   | (with_reducible refine LeO.ite ?_ ?_)
   | (with_reducible refine LeO.bind ?_ (fun _ => ?_))
   | exact spec_ChunkerOk.mono _ _ _ _ _
   | exact spec_l5Eat.mono _ _ _ _ _ _
   | exact LeO.none _
   | refine LeO.ite ?_ ?_
   | refine LeO.bind ?_ (fun _ => ?_)
set_option maxHeartbeats 8000000 in
set_option maxRecDepth 100000 in
theorem spec_Eat.calls (k : Nat) (a0_0 : Int) (a0_1 : Int) (a0_2 : ByteArray) (a0_3 : ByteArray) (a1 : Int) (r1 : Int) (r2 : Int) (r3 : ByteArray) (r4 : ByteArray) (w : World) (h : spec_Eat.f k a0_0 a0_1 a0_2 a0_3 a1 = some (r1, r2, r3, r4)) :
  Calls Tryd.prog 28 #[.agg #[.int .i64 a0_0, .int .i64 a0_1, .string a0_2, .string a0_3], .int .u8 a1] w fun e w' => e = .returned (.agg #[.int .i64 r1, .int .i64 r2, .string r3, .string r4]) ∧ Below w.heap.size w w' := by
 have hu35 := Tryd.underlying35
 have HB := Aside0.mk (Below.refl w.heap.size w)
 have H : ((spec_ChunkerOk.f k a0_0 a0_1 a0_2 a0_3).bind fun t103 => (if t103 = true then ((spec_l5Eat.f k a0_0 a0_1 a0_2 a0_3 a1).bind fun bt104 => (some (bt104.1, bt104.2.1, bt104.2.2.1, bt104.2.2.2))) else (some (0, 0, (⟨#[]⟩ : ByteArray), (⟨#[]⟩ : ByteArray))))) = some (r1, r2, r3, r4) := h
 clear h
 obtain ⟨t103, A30, H⟩ := Option.bind_eq_some_iff.mp H
 try dsimp only at H
 have A3 := Aside0.mk A30
 clear A30
 by_cases c4 : t103 = true
 ·
  subst c4
  rw [if_pos rfl] at H
  replace H := Option.bind_eq_some_iff.mp H
  obtain ⟨⟨t104, t105, t106, t107⟩, A50, H⟩ := H
  replace H : (some (t104, t105, t106, t107)) = some (r1, r2, r3, r4) := H
  have A5 := Aside0.mk A50
  clear A50
  simp only [Option.some.injEq, Prod.mk.injEq] at H
  obtain ⟨rfl, rfl, rfl, rfl⟩ := H
  go_enter Tryd.func28, Tryd.ntmps28
  go_wp2_with (first | ((with_reducible refine gate_dst (N := 2) rfl ?_); refine bx 2 #[.int .i64 a0_0, .int .i64 a0_1, .string a0_2, .string a0_3] 35 ?_; intro gb101 hg w6 hbox hb; have BK101 := Aside0.mk (hbox); have GW101 := Aside0.mk (bz hg); have GE101 := Aside0.mk (bz hg); replace HB := Aside0.mk (below_step bh hb); clear hb hbox hg) | ((with_reducible refine gate_dst (N := 4) rfl ?_); refine bx 4 #[.int .i64 0, .int .i64 0, .string (⟨#[]⟩ : ByteArray), .string (⟨#[]⟩ : ByteArray)] 35 ?_; intro gb102 hg w7 hbox hb; have BK102 := Aside0.mk (hbox); have GW102 := Aside0.mk (bz hg); have GE102 := Aside0.mk (bz hg); have NB101_102 := Aside0.mk ((nl (o := .cells #[.int .i64 a0_0, .int .i64 a0_1, .string a0_2, .string a0_3] 35 (0, 0)) hg bk : gb101 ≠ gb102)); have NB102_101 := Aside0.mk ((ng (o := .cells #[.int .i64 a0_0, .int .i64 a0_1, .string a0_2, .string a0_3] 35 (0, 0)) hg bk : gb102 ≠ gb101)); replace BK101 := bkb_ BK101 hb; replace HB := Aside0.mk (below_step bh hb); clear hb hbox hg; have hnb8 := NB101_102.out; have hnc8 := NB102_101.out; obtain ⟨hcz9_0, hcz9_1, hcz9_2, hcz9_3⟩ := zcf4 BK101; obtain ⟨hfz9_0, hfz9_1, hfz9_2, hfz9_3⟩ := zff4 BK101) | ((with_reducible refine gate_callee (f := 30) rfl ?_); refine goesL_ (some 6) rfl rfl Tryd.func30 (by kernel_rfl) rfl #[.agg #[.int .i64 a0_0, .int .i64 a0_1, .string a0_2, .string a0_3]] rfl mc ?_; (with_reducible refine (spec_ChunkerOk.calls k a0_0 a0_1 a0_2 a0_3 true _ A3.out).mono ?_); rintro e w10 ⟨rfl, hb⟩; refine ⟨_, rfl, ?_⟩; replace BK101 := bkb_ BK101 hb; replace BK102 := bkb_ BK102 hb; replace HB := Aside0.mk (below_step bh hb); (try clear hb); (try clear hb2); (try clear hk); (try clear hi); obtain ⟨hcz11_0, hcz11_1, hcz11_2, hcz11_3⟩ := zcf4 BK101; obtain ⟨hfz11_0, hfz11_1, hfz11_2, hfz11_3⟩ := zff4 BK101) | ((with_reducible refine gate_callee (f := 59) rfl ?_); refine goesL_ (some 11) rfl rfl Tryd.func59 (by kernel_rfl) rfl #[.agg #[.int .i64 a0_0, .int .i64 a0_1, .string a0_2, .string a0_3], .int .u8 a1] rfl mc ?_; (with_reducible refine (spec_l5Eat.calls k a0_0 a0_1 a0_2 a0_3 a1 t104 t105 t106 t107 _ A5.out).mono ?_); rintro e w12 ⟨rfl, hb⟩; refine ⟨_, rfl, ?_⟩; replace BK101 := bkb_ BK101 hb; replace BK102 := bkb_ BK102 hb; replace HB := Aside0.mk (below_step bh hb); (try clear hb); (try clear hb2); (try clear hk); (try clear hi); obtain ⟨hcz13_0, hcz13_1, hcz13_2, hcz13_3⟩ := zcf4 BK102; obtain ⟨hfz13_0, hfz13_1, hfz13_2, hfz13_3⟩ := zff4 BK102))
  refine bodyPost_ret (results_cell_row rfl _ _ gb102 35 #[.int .i64 t104, .int .i64 t105, .string t106, .string t107] (0, 0) _ rfl bkp Tryd.underlying35 rfl (by kernel_rfl)) rfl ?_
  exact ⟨er, bh⟩
 ·
  replace c4 := Bool.eq_false_iff.mpr c4
  subst c4
  rw [if_neg (show ¬ (false = true) by decide)] at H
  simp only [Option.some.injEq, Prod.mk.injEq] at H
  obtain ⟨rfl, rfl, rfl, rfl⟩ := H
  go_enter Tryd.func28, Tryd.ntmps28
  go_wp2_with (first | ((with_reducible refine gate_dst (N := 2) rfl ?_); refine bx 2 #[.int .i64 a0_0, .int .i64 a0_1, .string a0_2, .string a0_3] 35 ?_; intro gb101 hg w14 hbox hb; have BK101 := Aside0.mk (hbox); have GW101 := Aside0.mk (bz hg); have GE101 := Aside0.mk (bz hg); replace HB := Aside0.mk (below_step bh hb); clear hb hbox hg) | ((with_reducible refine gate_dst (N := 4) rfl ?_); refine bx 4 #[.int .i64 0, .int .i64 0, .string (⟨#[]⟩ : ByteArray), .string (⟨#[]⟩ : ByteArray)] 35 ?_; intro gb102 hg w15 hbox hb; have BK102 := Aside0.mk (hbox); have GW102 := Aside0.mk (bz hg); have GE102 := Aside0.mk (bz hg); have NB101_102 := Aside0.mk ((nl (o := .cells #[.int .i64 a0_0, .int .i64 a0_1, .string a0_2, .string a0_3] 35 (0, 0)) hg bk : gb101 ≠ gb102)); have NB102_101 := Aside0.mk ((ng (o := .cells #[.int .i64 a0_0, .int .i64 a0_1, .string a0_2, .string a0_3] 35 (0, 0)) hg bk : gb102 ≠ gb101)); replace BK101 := bkb_ BK101 hb; replace HB := Aside0.mk (below_step bh hb); clear hb hbox hg; have hnb16 := NB101_102.out; have hnc16 := NB102_101.out; obtain ⟨hcz17_0, hcz17_1, hcz17_2, hcz17_3⟩ := zcf4 BK101; obtain ⟨hfz17_0, hfz17_1, hfz17_2, hfz17_3⟩ := zff4 BK101) | ((with_reducible refine gate_callee (f := 30) rfl ?_); refine goesL_ (some 6) rfl rfl Tryd.func30 (by kernel_rfl) rfl #[.agg #[.int .i64 a0_0, .int .i64 a0_1, .string a0_2, .string a0_3]] rfl mc ?_; (with_reducible refine (spec_ChunkerOk.calls k a0_0 a0_1 a0_2 a0_3 false _ A3.out).mono ?_); rintro e w18 ⟨rfl, hb⟩; refine ⟨_, rfl, ?_⟩; replace BK101 := bkb_ BK101 hb; replace BK102 := bkb_ BK102 hb; replace HB := Aside0.mk (below_step bh hb); (try clear hb); (try clear hb2); (try clear hk); (try clear hi); obtain ⟨hcz19_0, hcz19_1, hcz19_2, hcz19_3⟩ := zcf4 BK102; obtain ⟨hfz19_0, hfz19_1, hfz19_2, hfz19_3⟩ := zff4 BK102))
  refine bodyPost_ret (results_cell_row rfl _ _ gb102 35 #[.int .i64 0, .int .i64 0, .string (⟨#[]⟩ : ByteArray), .string (⟨#[]⟩ : ByteArray)] (0, 0) _ rfl bkp Tryd.underlying35 rfl (by kernel_rfl)) rfl ?_
  exact ⟨er, bh⟩
end Go.Proofs.YtfbgpjhnjdhpcaaDoor.P
namespace Go.Proofs.YtfbgpjhnjdhpcaaDoor.P
open Go.RowKit Go.Proofs.YtfbgpjhnjdhpcaaDoorW.PrintWords Go.Proofs.YtfbgpjhnjdhpcaaDoorW.PrintLast Go.Proofs.YtfbgpjhnjdhpcaaDoorW.PrintMore
attribute [local go_sem] max2_int min2_int max_two min_two max_three min_three max_four min_four   -- for this text's walks alone
set_option linter.unusedVariables false
set_option linter.unusedSimpArgs false

attribute [local go_sem high] eqA35
/-! ### laws_FnEaten: function 5 -/
abbrev laws_FnEaten.d0 : Array Bool := #[false, false, false, false, false, false, false, false, false, false, false, false]
abbrev laws_FnEaten.d1 : Array Bool := #[false, false, true, false, false, false, false, false, false, false, false, false]
abbrev laws_FnEaten.d2 : Array Bool := #[true, false, true, false, false, false, false, false, false, false, false, false]
abbrev laws_FnEaten.d3 : Array Bool := #[true, true, true, false, false, false, false, false, false, false, false, false]
abbrev laws_FnEaten.d4 : Array Bool := #[true, true, true, true, false, false, false, false, false, false, false, false]
abbrev laws_FnEaten.d5 : Array Bool := #[true, true, true, true, true, false, false, false, false, false, false, false]
abbrev laws_FnEaten.d6 : Array Bool := #[true, true, true, true, true, true, false, false, false, false, false, false]
abbrev laws_FnEaten.d7 : Array Bool := #[true, true, true, true, true, true, true, false, false, false, false, false]
abbrev laws_FnEaten.d8 : Array Bool := #[true, true, true, true, true, true, true, true, true, false, false, false]
abbrev laws_FnEaten.d9 : Array Bool := #[true, true, true, true, true, true, true, true, true, true, false, false]
abbrev laws_FnEaten.d10 : Array Bool := #[true, true, true, true, true, true, true, true, true, true, true, false]
abbrev laws_FnEaten.d11 : Array Bool := #[true, true, true, true, true, true, true, true, true, true, true, true]
mutual
def laws_FnEaten.j0 : Nat → List Int → Bool → Int → Int → ByteArray → ByteArray → Int → Int → ByteArray → ByteArray → Option (Bool)
 | 0, _, _, _, _, _, _, _, _, _, _ => none
 | k + 1, x0, x35, x108000, x108001, x108002, x108003, x113000, x113001, x113002, x113003 => if x35 = true then (some false) else ((spec_DrawEatAll.f k x0).bind fun bt119 => ((impl_EatAll.f k bt119.1 bt119.2.1 bt119.2.2.1 bt119.2.2.2.1 bt119.2.2.2.2).bind fun bt125 => ((spec_EatAll.f k bt119.1 bt119.2.1 bt119.2.2.1 bt119.2.2.2.1 bt119.2.2.2.2).bind fun bt131 => (if (!(bt125.1 == bt131.1) || (!(bt125.2.1 == bt131.2.1) || (!(bt125.2.2.1.toList == bt131.2.2.1.toList) || (!(bt125.2.2.2.1.toList == bt131.2.2.2.1.toList))))) = true then (laws_FnEaten.j1 k bt119.2.2.2.2 bt125.2.2.2.2 true x108000 x108001 x108002 x108003 x113000 x113001 x113002 x113003 bt119.1 bt119.2.1 bt119.2.2.1 bt119.2.2.2.1 bt125.1 bt125.2.1 bt125.2.2.1 bt125.2.2.2.1) else (laws_FnEaten.j1 k bt119.2.2.2.2 bt125.2.2.2.2 (bt125.2.2.2.2 != bt131.2.2.2.2) x108000 x108001 x108002 x108003 x113000 x113001 x113002 x113003 bt119.1 bt119.2.1 bt119.2.2.1 bt119.2.2.2.1 bt125.1 bt125.2.1 bt125.2.2.1 bt125.2.2.2.1)))))
def laws_FnEaten.j1 : Nat → ByteArray → Int → Bool → Int → Int → ByteArray → ByteArray → Int → Int → ByteArray → ByteArray → Int → Int → ByteArray → ByteArray → Int → Int → ByteArray → ByteArray → Option (Bool)
 | 0, _, _, _, _, _, _, _, _, _, _, _, _, _, _, _, _, _, _, _ => none
 | k + 1, x7, x9, x60, x108000, x108001, x108002, x108003, x113000, x113001, x113002, x113003, x125000, x125001, x125002, x125003, x131000, x131001, x131002, x131003 => if x60 = true then (some false) else ((spec_ChunkerOk.f k x108000 x108001 x108002 x108003).bind fun t137 => (if t137 = true then ((impl_ChunkerOk.f k x113000 x113001 x113002 x113003).bind fun t138 => (if t138 = true then ((spec_ChunkerOk.f k x125000 x125001 x125002 x125003).bind fun t139 => (laws_FnEaten.j2 k x7 x9 (!t139) x113000 x113001 x113002 x113003 x125000 x125001 x125002 x125003 x131000 x131001 x131002 x131003)) else (laws_FnEaten.j2 k x7 x9 true x113000 x113001 x113002 x113003 x125000 x125001 x125002 x125003 x131000 x131001 x131002 x131003))) else (some (x113000 == 0 && (x113001 == 0 && (x113002.toList == ([] : List UInt8) && (x113003.toList == ([] : List UInt8))))))))
def laws_FnEaten.j2 : Nat → ByteArray → Int → Bool → Int → Int → ByteArray → ByteArray → Int → Int → ByteArray → ByteArray → Int → Int → ByteArray → ByteArray → Option (Bool)
 | 0, _, _, _, _, _, _, _, _, _, _, _, _, _, _, _ => none
 | k + 1, x7, x9, x74, x113000, x113001, x113002, x113003, x125000, x125001, x125002, x125003, x131000, x131001, x131002, x131003 => if x74 = true then ((spec_ChunkerOk.f k x113000 x113001 x113002 x113003).bind fun t140 => (some t140)) else (laws_FnEaten.l0 k x7 x9 0 x131000 x131001 x131002 x131003 x125000 x125001 x125002 x125003)
def laws_FnEaten.l0 : Nat → ByteArray → Int → Int → Int → Int → ByteArray → ByteArray → Int → Int → ByteArray → ByteArray → Option (Bool)
 | 0, _, _, _, _, _, _, _, _, _, _, _ => none
 | k + 1, x7, x9, x13, x131000, x131001, x131002, x131003, x142000, x142001, x142002, x142003 => if x13 < x9 then (if 0 ≤ x13 then (if x13 < (x7.size : Int) then ((impl_Eat.f k x142000 x142001 x142002 x142003 (bt x7 x13)).bind fun bt142 => (laws_FnEaten.l0 k x7 x9 (wrap64 (x13 + 1)) x131000 x131001 x131002 x131003 bt142.1 bt142.2.1 bt142.2.2.1 bt142.2.2.2)) else (none)) else (none)) else (if (x142000 == x131000 && (x142001 == x131001 && (x142002.toList == x131002.toList && (x142003.toList == x131003.toList)))) = true then ((impl_ChunkerOk.f k x131000 x131001 x131002 x131003).bind fun t146 => (if t146 = true then (if x9 = (x7.size : Int) then (some true) else (some (decide (x131000 ≥ 8)))) else (some false))) else (some false))
end
def laws_FnEaten.f (k : Nat) (l0 : List Int) : Option (Bool) := (laws_big.f l0).bind fun t101 => (if t101 = true then (some true) else ((spec_DrawEat.f k l0).bind fun bt102 => ((impl_Eat.f k bt102.1 bt102.2.1 bt102.2.2.1 bt102.2.2.2.1 bt102.2.2.2.2).bind fun bt108 => ((spec_Eat.f k bt102.1 bt102.2.1 bt102.2.2.1 bt102.2.2.2.1 bt102.2.2.2.2).bind fun bt113 => (if (!(bt108.1 == bt113.1) || (!(bt108.2.1 == bt113.2.1) || (!(bt108.2.2.1.toList == bt113.2.2.1.toList) || (!(bt108.2.2.2.toList == bt113.2.2.2.toList))))) = true then (laws_FnEaten.j0 k l0 true bt102.1 bt102.2.1 bt102.2.2.1 bt102.2.2.2.1 bt108.1 bt108.2.1 bt108.2.2.1 bt108.2.2.2) else ((impl_ChunkerOk.f k bt102.1 bt102.2.1 bt102.2.2.1 bt102.2.2.2.1).bind fun t117 => ((spec_ChunkerOk.f k bt102.1 bt102.2.1 bt102.2.2.1 bt102.2.2.2.1).bind fun t118 => (laws_FnEaten.j0 k l0 (t117 != t118) bt102.1 bt102.2.1 bt102.2.2.1 bt102.2.2.2.1 bt108.1 bt108.2.1 bt108.2.2.1 bt108.2.2.2))))))))
theorem laws_FnEaten.mono_l : ∀ k, (∀ y0 y1 y2 y3 y4 y5 y6 y7 y8 y9, LeO (laws_FnEaten.j0 k y0 y1 y2 y3 y4 y5 y6 y7 y8 y9) (laws_FnEaten.j0 (k + 1) y0 y1 y2 y3 y4 y5 y6 y7 y8 y9)) ∧ (∀ y0 y1 y2 y3 y4 y5 y6 y7 y8 y9 y10 y11 y12 y13 y14 y15 y16 y17 y18, LeO (laws_FnEaten.j1 k y0 y1 y2 y3 y4 y5 y6 y7 y8 y9 y10 y11 y12 y13 y14 y15 y16 y17 y18) (laws_FnEaten.j1 (k + 1) y0 y1 y2 y3 y4 y5 y6 y7 y8 y9 y10 y11 y12 y13 y14 y15 y16 y17 y18)) ∧ (∀ y0 y1 y2 y3 y4 y5 y6 y7 y8 y9 y10 y11 y12 y13 y14, LeO (laws_FnEaten.j2 k y0 y1 y2 y3 y4 y5 y6 y7 y8 y9 y10 y11 y12 y13 y14) (laws_FnEaten.j2 (k + 1) y0 y1 y2 y3 y4 y5 y6 y7 y8 y9 y10 y11 y12 y13 y14)) ∧ (∀ y0 y1 y2 y3 y4 y5 y6 y7 y8 y9 y10, LeO (laws_FnEaten.l0 k y0 y1 y2 y3 y4 y5 y6 y7 y8 y9 y10) (laws_FnEaten.l0 (k + 1) y0 y1 y2 y3 y4 y5 y6 y7 y8 y9 y10))
 | 0 => ⟨fun _ _ _ _ _ _ _ _ _ _ r h => by simp [laws_FnEaten.j0] at h, fun _ _ _ _ _ _ _ _ _ _ _ _ _ _ _ _ _ _ _ r h => by simp [laws_FnEaten.j1] at h, fun _ _ _ _ _ _ _ _ _ _ _ _ _ _ _ r h => by simp [laws_FnEaten.j2] at h, fun _ _ _ _ _ _ _ _ _ _ _ r h => by simp [laws_FnEaten.l0] at h⟩
 | k + 1 => by
  obtain ⟨ih0, ih1, ih2, ih3⟩ := laws_FnEaten.mono_l k
  refine ⟨?_, ?_, ?_, ?_⟩
  ·
   intro y0 y1 y2 y3 y4 y5 y6 y7 y8 y9
   unfold laws_FnEaten.j0
   repeat' first
   | (with_reducible exact ih0 _ _ _ _ _ _ _ _ _ _)
   | (with_reducible exact ih1 _ _ _ _ _ _ _ _ _ _ _ _ _ _ _ _ _ _ _)
   | (with_reducible exact ih2 _ _ _ _ _ _ _ _ _ _ _ _ _ _ _)
   | (with_reducible exact ih3 _ _ _ _ _ _ _ _ _ _ _)
   | (with_reducible exact impl_ChunkerOk.mono _ _ _ _ _)
   | (with_reducible exact impl_Eat.mono _ _ _ _ _ _)
   | (with_reducible exact impl_EatAll.mono _ _ _ _ _ _)
   | (with_reducible exact spec_ChunkerOk.mono _ _ _ _ _)
   | (with_reducible exact spec_DrawEat.mono _ _)
   | (with_reducible exact spec_DrawEatAll.mono _ _)
   | (with_reducible exact spec_Eat.mono _ _ _ _ _ _)
   | (with_reducible exact spec_EatAll.mono _ _ _ _ _ _)
   | (with_reducible exact LeO.refl _)
   | (with_reducible exact LeO.none _)
   | (with_reducible refine LeO.ite ?_ ?_)
   | (with_reducible refine LeO.bind ?_ (fun _ => ?_))
   | exact ih0 _ _ _ _ _ _ _ _ _ _
   | exact ih1 _ _ _ _ _ _ _ _ _ _ _ _ _ _ _ _ _ _ _
   | exact ih2 _ _ _ _ _ _ _ _ _ _ _ _ _ _ _
   | exact ih3 _ _ _ _ _ _ _ _ _ _ _
   | exact impl_ChunkerOk.mono _ _ _ _ _
   | exact impl_Eat.mono _ _ _ _ _ _
   | exact impl_EatAll.mono _ _ _ _ _ _
   | exact spec_ChunkerOk.mono _ _ _ _ _
   | exact spec_DrawEat.mono _ _
   | exact spec_DrawEatAll.mono _ _
   | exact spec_Eat.mono _ _ _ _ _ _
   | exact spec_EatAll.mono _ _ _ _ _ _
   | exact LeO.none _
   | refine LeO.ite ?_ ?_
   | refine LeO.bind ?_ (fun _ => ?_)
  ·
   intro y0 y1 y2 y3 y4 y5 y6 y7 y8 y9 y10 y11 y12 y13 y14 y15 y16 y17 y18
   unfold laws_FnEaten.j1
   repeat' first
   | (with_reducible exact ih0 _ _ _ _ _ _ _ _ _ _)
   | (with_reducible exact ih1 _ _ _ _ _ _ _ _ _ _ _ _ _ _ _ _ _ _ _)
   | (with_reducible exact ih2 _ _ _ _ _ _ _ _ _ _ _ _ _ _ _)
   | (with_reducible exact ih3 _ _ _ _ _ _ _ _ _ _ _)
   | (with_reducible exact impl_ChunkerOk.mono _ _ _ _ _)
   | (with_reducible exact impl_Eat.mono _ _ _ _ _ _)
   | (with_reducible exact impl_EatAll.mono _ _ _ _ _ _)
   | (with_reducible exact spec_ChunkerOk.mono _ _ _ _ _)
   | (with_reducible exact spec_DrawEat.mono _ _)
   | (with_reducible exact spec_DrawEatAll.mono _ _)
   | (with_reducible exact spec_Eat.mono _ _ _ _ _ _)
   | (with_reducible exact spec_EatAll.mono _ _ _ _ _ _)
   | (with_reducible exact LeO.refl _)
   | (with_reducible exact LeO.none _)
   | (with_reducible refine LeO.ite ?_ ?_)
   | (with_reducible refine LeO.bind ?_ (fun _ => ?_))
   | exact ih0 _ _ _ _ _ _ _ _ _ _
   | exact ih1 _ _ _ _ _ _ _ _ _ _ _ _ _ _ _ _ _ _ _
   | exact ih2 _ _ _ _ _ _ _ _ _ _ _ _ _ _ _
   | exact ih3 _ _ _ _ _ _ _ _ _ _ _
   | exact impl_ChunkerOk.mono _ _ _ _ _
   | exact impl_Eat.mono _ _ _ _ _ _
   | exact impl_EatAll.mono _ _ _ _ _ _
   | exact spec_ChunkerOk.mono _ _ _ _ _
   | exact spec_DrawEat.mono _ _
   | exact spec_DrawEatAll.mono _ _
   | exact spec_Eat.mono _ _ _ _ _ _
   | exact spec_EatAll.mono _ _ _ _ _ _
   | exact LeO.none _
   | refine LeO.ite ?_ ?_
   | refine LeO.bind ?_ (fun _ => ?_)
  ·
   intro y0 y1 y2 y3 y4 y5 y6 y7 y8 y9 y10 y11 y12 y13 y14
   unfold laws_FnEaten.j2
   repeat' first
   | (with_reducible exact ih0 _ _ _ _ _ _ _ _ _ _)
   | (with_reducible exact ih1 _ _ _ _ _ _ _ _ _ _ _ _ _ _ _ _ _ _ _)
   | (with_reducible exact ih2 _ _ _ _ _ _ _ _ _ _ _ _ _ _ _)
   | (with_reducible exact ih3 _ _ _ _ _ _ _ _ _ _ _)
   | (with_reducible exact impl_ChunkerOk.mono _ _ _ _ _)
   | (with_reducible exact impl_Eat.mono _ _ _ _ _ _)
   | (with_reducible exact impl_EatAll.mono _ _ _ _ _ _)
   | (with_reducible exact spec_ChunkerOk.mono _ _ _ _ _)
   | (with_reducible exact spec_DrawEat.mono _ _)
   | (with_reducible exact spec_DrawEatAll.mono _ _)
   | (with_reducible exact spec_Eat.mono _ _ _ _ _ _)
   | (with_reducible exact spec_EatAll.mono _ _ _ _ _ _)
   | (with_reducible exact LeO.refl _)
   | (with_reducible exact LeO.none _)
   | (with_reducible refine LeO.ite ?_ ?_)
   | (with_reducible refine LeO.bind ?_ (fun _ => ?_))
   | exact ih0 _ _ _ _ _ _ _ _ _ _
   | exact ih1 _ _ _ _ _ _ _ _ _ _ _ _ _ _ _ _ _ _ _
   | exact ih2 _ _ _ _ _ _ _ _ _ _ _ _ _ _ _
   | exact ih3 _ _ _ _ _ _ _ _ _ _ _
   | exact impl_ChunkerOk.mono _ _ _ _ _
   | exact impl_Eat.mono _ _ _ _ _ _
   | exact impl_EatAll.mono _ _ _ _ _ _
   | exact spec_ChunkerOk.mono _ _ _ _ _
   | exact spec_DrawEat.mono _ _
   | exact spec_DrawEatAll.mono _ _
   | exact spec_Eat.mono _ _ _ _ _ _
   | exact spec_EatAll.mono _ _ _ _ _ _
   | exact LeO.none _
   | refine LeO.ite ?_ ?_
   | refine LeO.bind ?_ (fun _ => ?_)
  ·
   intro y0 y1 y2 y3 y4 y5 y6 y7 y8 y9 y10
   unfold laws_FnEaten.l0
   repeat' first
   | (with_reducible exact ih0 _ _ _ _ _ _ _ _ _ _)
   | (with_reducible exact ih1 _ _ _ _ _ _ _ _ _ _ _ _ _ _ _ _ _ _ _)
   | (with_reducible exact ih2 _ _ _ _ _ _ _ _ _ _ _ _ _ _ _)
   | (with_reducible exact ih3 _ _ _ _ _ _ _ _ _ _ _)
   | (with_reducible exact impl_ChunkerOk.mono _ _ _ _ _)
   | (with_reducible exact impl_Eat.mono _ _ _ _ _ _)
   | (with_reducible exact impl_EatAll.mono _ _ _ _ _ _)
   | (with_reducible exact spec_ChunkerOk.mono _ _ _ _ _)
   | (with_reducible exact spec_DrawEat.mono _ _)
   | (with_reducible exact spec_DrawEatAll.mono _ _)
   | (with_reducible exact spec_Eat.mono _ _ _ _ _ _)
   | (with_reducible exact spec_EatAll.mono _ _ _ _ _ _)
   | (with_reducible exact LeO.refl _)
   | (with_reducible exact LeO.none _)
   | (with_reducible refine LeO.ite ?_ ?_)
   | (with_reducible refine LeO.bind ?_ (fun _ => ?_))
   | exact ih0 _ _ _ _ _ _ _ _ _ _
   | exact ih1 _ _ _ _ _ _ _ _ _ _ _ _ _ _ _ _ _ _ _
   | exact ih2 _ _ _ _ _ _ _ _ _ _ _ _ _ _ _
   | exact ih3 _ _ _ _ _ _ _ _ _ _ _
   | exact impl_ChunkerOk.mono _ _ _ _ _
   | exact impl_Eat.mono _ _ _ _ _ _
   | exact impl_EatAll.mono _ _ _ _ _ _
   | exact spec_ChunkerOk.mono _ _ _ _ _
   | exact spec_DrawEat.mono _ _
   | exact spec_DrawEatAll.mono _ _
   | exact spec_Eat.mono _ _ _ _ _ _
   | exact spec_EatAll.mono _ _ _ _ _ _
   | exact LeO.none _
   | refine LeO.ite ?_ ?_
   | refine LeO.bind ?_ (fun _ => ?_)
theorem laws_FnEaten.mono : ∀ a0 k, LeO (laws_FnEaten.f k a0) (laws_FnEaten.f (k + 1) a0) := by
 intro a0 k
 obtain ⟨ih0, ih1, ih2, ih3⟩ := laws_FnEaten.mono_l k
 unfold laws_FnEaten.f
 repeat' first
   | (with_reducible exact ih0 _ _ _ _ _ _ _ _ _ _)
   | (with_reducible exact ih1 _ _ _ _ _ _ _ _ _ _ _ _ _ _ _ _ _ _ _)
   | (with_reducible exact ih2 _ _ _ _ _ _ _ _ _ _ _ _ _ _ _)
   | (with_reducible exact ih3 _ _ _ _ _ _ _ _ _ _ _)
   | (with_reducible exact impl_ChunkerOk.mono _ _ _ _ _)
   | (with_reducible exact impl_Eat.mono _ _ _ _ _ _)
   | (with_reducible exact impl_EatAll.mono _ _ _ _ _ _)
   | (with_reducible exact spec_ChunkerOk.mono _ _ _ _ _)
   | (with_reducible exact spec_DrawEat.mono _ _)
   | (with_reducible exact spec_DrawEatAll.mono _ _)
   | (with_reducible exact spec_Eat.mono _ _ _ _ _ _)
   | (with_reducible exact spec_EatAll.mono _ _ _ _ _ _)
   | (with_reducible exact LeO.refl _)
   | (with_reducible exact LeO.none _)
   | (with_reducible refine LeO.ite ?_ ?_)
   | (with_reducible refine LeO.bind ?_ (fun _ => ?_))
   | exact ih0 _ _ _ _ _ _ _ _ _ _
   | exact ih1 _ _ _ _ _ _ _ _ _ _ _ _ _ _ _ _ _ _ _
   | exact ih2 _ _ _ _ _ _ _ _ _ _ _ _ _ _ _
   | exact ih3 _ _ _ _ _ _ _ _ _ _ _
   | exact impl_ChunkerOk.mono _ _ _ _ _
   | exact impl_Eat.mono _ _ _ _ _ _
   | exact impl_EatAll.mono _ _ _ _ _ _
   | exact spec_ChunkerOk.mono _ _ _ _ _
   | exact spec_DrawEat.mono _ _
   | exact spec_DrawEatAll.mono _ _
   | exact spec_Eat.mono _ _ _ _ _ _
   | exact spec_EatAll.mono _ _ _ _ _ _
   | exact LeO.none _
   | refine LeO.ite ?_ ?_
   | refine LeO.bind ?_ (fun _ => ?_)
def laws_FnEaten.T5 : Bool × List (List Nat × List Nat) := (true, [([], []), ([], []), ([], []), ([1, 2], [1, 2]), ([0, 3], [0, 3]), ([4, 3], [4]), ([5], [5]), ([6, 5, 5], [5, 6]), ([5], [5]), ([8, 7, 5], [5, 8]), ([7, 9, 5], [5, 7, 9]), ([5, 10], [5, 10])])
def laws_FnEaten.B5 : List Nat := [0, 0, 0, 6, 15, 31, 63, 127, 63, 511, 1023, 2047]
theorem laws_FnEaten.tab5 : rtab .any (opsOf Tryd.f5 5) = laws_FnEaten.T5 := by kernel_rfl
theorem laws_FnEaten.bits5 : waitsOk laws_FnEaten.T5.2 laws_FnEaten.B5 = true := by kernel_rfl
set_option maxHeartbeats 8000000 in
set_option maxRecDepth 100000 in
theorem laws_FnEaten.calls (k : Nat) (A0 : Option Addr) (c0 : Nat) (l0 : List Int) (r : Bool) (w : World) (hr0 : Kd.C (Kd.int .u8) w A0 l0.length l0) (hc0 : l0.length ≤ c0) (h : laws_FnEaten.f k l0 = some r) :
  Calls Tryd.prog 5 #[.slice A0 l0.length c0] w fun e w' => e = .returned (.bool r) ∧ Below w.heap.size w w' := by
 have hu35 := Tryd.underlying35
 have HR0 := Aside0.mk hr0
 have HC0 := Aside0.mk hc0
 clear hr0 hc0
 have HB := Aside0.mk (Below.refl w.heap.size w)
 have H : ((laws_big.f l0).bind fun t101 => (if t101 = true then (some true) else ((spec_DrawEat.f k l0).bind fun bt102 => ((impl_Eat.f k bt102.1 bt102.2.1 bt102.2.2.1 bt102.2.2.2.1 bt102.2.2.2.2).bind fun bt108 => ((spec_Eat.f k bt102.1 bt102.2.1 bt102.2.2.1 bt102.2.2.2.1 bt102.2.2.2.2).bind fun bt113 => (if (!(bt108.1 == bt113.1) || (!(bt108.2.1 == bt113.2.1) || (!(bt108.2.2.1.toList == bt113.2.2.1.toList) || (!(bt108.2.2.2.toList == bt113.2.2.2.toList))))) = true then (laws_FnEaten.j0 k l0 true bt102.1 bt102.2.1 bt102.2.2.1 bt102.2.2.2.1 bt108.1 bt108.2.1 bt108.2.2.1 bt108.2.2.2) else ((impl_ChunkerOk.f k bt102.1 bt102.2.1 bt102.2.2.1 bt102.2.2.2.1).bind fun t117 => ((spec_ChunkerOk.f k bt102.1 bt102.2.1 bt102.2.2.1 bt102.2.2.2.1).bind fun t118 => (laws_FnEaten.j0 k l0 (t117 != t118) bt102.1 bt102.2.1 bt102.2.2.1 bt102.2.2.2.1 bt108.1 bt108.2.1 bt108.2.2.1 bt108.2.2.2))))))))) = some r := h
 clear h
 obtain ⟨t101, A20, H⟩ := Option.bind_eq_some_iff.mp H
 try dsimp only at H
 have A2 := Aside0.mk A20
 clear A20
 by_cases c3 : t101 = true
 ·
  subst c3
  have H1 : (some true) = some r := by rw [if_pos rfl] at H; exact H
  clear H
  have H := H1
  clear H1
  obtain rfl := Option.some.inj H
  go_enter Tryd.func5, Tryd.ntmps5
  go_wp2_with (first | ((with_reducible refine gate_callee (f := 6) rfl ?_); refine goesL_ (some 15) rfl rfl Tryd.func6 (by kernel_rfl) rfl #[.slice A0 l0.length c0] rfl mc ?_; (with_reducible refine (laws_big.calls _ _ l0 true _ ?side1 ?side2 A2.out).mono ?_); (case side1 => repeat (first | exact HR0.out | (with_reducible refine Kd.C_alloc ?_ _) | (with_reducible refine Kd.C_drewN ?_ _) | (with_reducible refine Kd.C_drew ?_))); (case side2 => exact HC0.out); rintro e w' ⟨rfl, ⟨nd, rfl⟩⟩; refine ⟨_, rfl, ?_⟩))
  go_ret
  exact ⟨er, bh⟩
 ·
  replace c3 := Bool.eq_false_iff.mpr c3
  subst c3
  rw [if_neg (show ¬ (false = true) by decide)] at H
  obtain ⟨⟨t102, t103, t104, t105, t106⟩, A40, H⟩ := Option.bind_eq_some_iff.mp H
  try dsimp only at H
  have A4 := Aside0.mk A40
  clear A40
  obtain ⟨⟨t108, t109, t110, t111⟩, A50, H⟩ := Option.bind_eq_some_iff.mp H
  try dsimp only at H
  have A5 := Aside0.mk A50
  clear A50
  have HC6 := Aside0.mk H
  clear H
  go_enter Tryd.func5, Tryd.ntmps5
  go_upto_region 5 with (first | ((with_reducible refine gate_callee (f := 6) rfl ?_); refine goesL_ (some 15) rfl rfl Tryd.func6 (by kernel_rfl) rfl #[.slice A0 l0.length c0] rfl mc ?_; (with_reducible refine (laws_big.calls _ _ l0 false _ ?side1 ?side2 A2.out).mono ?_); (case side1 => repeat (first | exact HR0.out | (with_reducible refine Kd.C_alloc ?_ _) | (with_reducible refine Kd.C_drewN ?_ _) | (with_reducible refine Kd.C_drew ?_))); (case side2 => exact HC0.out); rintro e w' ⟨rfl, ⟨nd, rfl⟩⟩; refine ⟨_, rfl, ?_⟩) | ((with_reducible refine gate_callee (f := 26) rfl ?_); refine goesL_ (some 18) rfl rfl Tryd.func26 (by kernel_rfl) rfl #[.slice A0 l0.length c0] rfl mc ?_; (with_reducible refine (spec_DrawEat.calls k _ _ l0 t102 t103 t104 t105 t106 _ ?side1 ?side2 A4.out).mono ?_); (case side1 => repeat (first | exact HR0.out | (with_reducible refine Kd.C_alloc ?_ _) | (with_reducible refine Kd.C_drewN ?_ _) | (with_reducible refine Kd.C_drew ?_))); (case side2 => exact HC0.out); rintro e w7 ⟨rfl, hb⟩; refine ⟨_, rfl, ?_⟩; replace HB := Aside0.mk (below_step bh hb); (try clear hb); (try clear hb2); (try clear hk); (try clear hi)) | ((with_reducible refine gate_dst (N := 3) rfl ?_); (try (refine gate_guard (by rfl) ?_; dsimp only)); refine bx 3 #[.int .i64 0, .int .i64 0, .string (⟨#[]⟩ : ByteArray), .string (⟨#[]⟩ : ByteArray)] 35 ?_; intro gb107 hg w8 hbox hb; have BK107 := Aside0.mk (hbox); have GW107 := Aside0.mk (bz hg); have GE107 := Aside0.mk (bz hg); replace HB := Aside0.mk (below_step bh hb); clear hb hbox hg; obtain ⟨hcz9_0, hcz9_1, hcz9_2, hcz9_3⟩ := zcf4 BK107; obtain ⟨hfz9_0, hfz9_1, hfz9_2, hfz9_3⟩ := zff4 BK107) | ((with_reducible refine gate_callee (f := 27) rfl ?_); refine goesL_ (some 23) rfl rfl Tryd.func27 (by kernel_rfl) rfl #[.agg #[.int .i64 t102, .int .i64 t103, .string t104, .string t105], .int .u8 t106] rfl mc ?_; (with_reducible refine (impl_Eat.calls k t102 t103 t104 t105 t106 t108 t109 t110 t111 _ A5.out).mono ?_); rintro e w10 ⟨rfl, hb⟩; refine ⟨_, rfl, ?_⟩; replace BK107 := Aside0.mk (blk_below (g := gb107) (o := .cells #[.int .i64 t102, .int .i64 t103, .string t104, .string t105] 35 (0, 0)) bkp hb); replace HB := Aside0.mk (below_step bh hb); (try clear hb); (try clear hb2); (try clear hk); (try clear hi)) | ((with_reducible refine gate_dst (N := 5) rfl ?_); (try (refine gate_guard (by rfl) ?_; dsimp only)); refine bx 5 #[.int .i64 0, .int .i64 0, .string (⟨#[]⟩ : ByteArray), .string (⟨#[]⟩ : ByteArray)] 35 ?_; intro gb112 hg w11 hbox hb; have BK112 := Aside0.mk (hbox); have GW112 := Aside0.mk (bz hg); have GE112 := Aside0.mk (bz hg); have NB107_112 := Aside0.mk ((nl (o := .cells #[.int .i64 t102, .int .i64 t103, .string t104, .string t105] 35 (0, 0)) hg bk : gb107 ≠ gb112)); have NB112_107 := Aside0.mk ((ng (o := .cells #[.int .i64 t102, .int .i64 t103, .string t104, .string t105] 35 (0, 0)) hg bk : gb112 ≠ gb107)); replace BK107 := bkb_ BK107 hb; replace HB := Aside0.mk (below_step bh hb); clear hb hbox hg; have hnb12 := NB112_107.out; have hnc12 := NB107_112.out; obtain ⟨hcz13_0, hcz13_1, hcz13_2, hcz13_3⟩ := zcf4 BK112; obtain ⟨hfz13_0, hfz13_1, hfz13_2, hfz13_3⟩ := zff4 BK112))
  (try simp only [Act.put, List.setIfInBounds_toArray, List.set_cons_zero, List.set_cons_succ])
  go_cut [35] (fun v35 wc => ∃ (kq : Nat) (x35_5 : Bool), v35 = .bool x35_5 ∧ Aside0 (laws_FnEaten.j0 kq l0 x35_5 t102 t103 t104 t105 t108 t109 t110 t111 = some r) ∧ Aside0 (kq ≤ k) ∧ Aside0 (wc.heap[gb107]? = some (.cells #[.int .i64 t102, .int .i64 t103, .string t104, .string t105] 35 (0, 0))) ∧ Aside0 (wc.heap[gb112]? = some (.cells #[.int .i64 t108, .int .i64 t109, .string t110, .string t111] 35 (0, 0))) ∧ Aside0 (Below w.heap.size w wc))
  case first =>
   have H := HC6.out
   clear HC6
   obtain ⟨⟨t113, t114, t115, t116⟩, A140, H⟩ := Option.bind_eq_some_iff.mp H
   try dsimp only at H
   have A14 := Aside0.mk A140
   clear A140
   by_cases c15 : (!(t108 == t113) || (!(t109 == t114) || (!(t110.toList == t115.toList) || (!(t111.toList == t116.toList))))) = true
   ·
    rw [if_pos c15] at H
    have c15b0 : (!(t108 == t113) || (!(t109 == t114) || (!(t110.toList == t115.toList) || (!(t111.toList == t116.toList))))) = true := c15
    clear c15
    (first | rw [c15b0] | (simp only [i64_w, i32_w]; rw [c15b0]) | skip)
    have H' := Aside0.mk H
    clear H
    try go_wp2
    have n0_ : Aside0 (((((w11.setCell ⟨gb112, 0, none⟩ (.int .i64 t108)).setCell ⟨gb112, 1, none⟩ (.int .i64 t109)).setCell ⟨gb112, 2, none⟩ (.string t110)).setCell ⟨gb112, 3, none⟩ (.string t111)).heap[gb107]? = some (.cells #[.int .i64 t102, .int .i64 t103, .string t104, .string t105] 35 (0, 0))) := ⟨bkp⟩
    have n1_ : Aside0 (((((w11.setCell ⟨gb112, 0, none⟩ (.int .i64 t108)).setCell ⟨gb112, 1, none⟩ (.int .i64 t109)).setCell ⟨gb112, 2, none⟩ (.string t110)).setCell ⟨gb112, 3, none⟩ (.string t111)).heap[gb112]? = some (.cells #[.int .i64 t108, .int .i64 t109, .string t110, .string t111] 35 (0, 0))) := ⟨bkp⟩
    have n2_ : Aside0 (Below w.heap.size w ((((w11.setCell ⟨gb112, 0, none⟩ (.int .i64 t108)).setCell ⟨gb112, 1, none⟩ (.int .i64 t109)).setCell ⟨gb112, 2, none⟩ (.string t110)).setCell ⟨gb112, 3, none⟩ (.string t111))) := ⟨bh⟩
    (try clear BK107)
    (try clear BK112)
    (try clear HB)
    generalize ((((w11.setCell ⟨gb112, 0, none⟩ (.int .i64 t108)).setCell ⟨gb112, 1, none⟩ (.int .i64 t109)).setCell ⟨gb112, 2, none⟩ (.string t110)).setCell ⟨gb112, 3, none⟩ (.string t111)) = w16 at n0_ n1_ n2_ ⊢
    have BK107 := n0_
    have BK112 := n1_
    have HB := n2_
    clear n0_ n1_ n2_
    replace BK107 := Aside0.mk (blk_drew BK107.out)
    replace BK112 := Aside0.mk (blk_drew BK112.out)
    replace HB := Aside0.mk (below_drew1 HB.out)
    refine start_ (n := 12) (S := fun w' => w'.cell? ⟨gb112, 0, none⟩ = some (.int .i64 t108) ∧ w'.cell? ⟨gb112, 1, none⟩ = some (.int .i64 t109) ∧ w'.cell? ⟨gb112, 2, none⟩ = some (.string t110) ∧ w'.cell? ⟨gb112, 3, none⟩ = some (.string t111) ∧ w'.cell? ⟨gb107, 0, none⟩ = some (.int .i64 t102) ∧ w'.cell? ⟨gb107, 1, none⟩ = some (.int .i64 t103) ∧ w'.cell? ⟨gb107, 2, none⟩ = some (.string t104) ∧ w'.cell? ⟨gb107, 3, none⟩ = some (.string t105)) (ds := []) laws_FnEaten.d0 (by kernel_rfl) rfl rfl ⟨bc BK112 0, bc BK112 1, bc BK112 2, bc BK112 3, bc BK107 0, bc BK107 1, bc BK107 2, bc BK107 3⟩ (fun hHeld => ?_); refine with_tabW laws_FnEaten.tab5 laws_FnEaten.bits5 (fun HT_ HW_ => ?_)
    generalize w16.drew = w17 at BK107 BK112 HB hHeld ⊢
    refine pu 2 26 laws_FnEaten.d1 HT_ ?_
    refine tk 0 24 laws_FnEaten.d2 HT_ HW_ hHeld ?_
    refine tk 1 25 laws_FnEaten.d3 HT_ HW_ hHeld ?_
    refine onx 3 27 laws_FnEaten.d4 HT_ (fun K hK => ?_)
    refine gs Tryd.func28 #[.agg #[.int .i64 t102, .int .i64 t103, .string t104, .string t105], .int .u8 t106] ?_
    with_reducible refine (spec_Eat.calls k t102 t103 t104 t105 t106 t113 t114 t115 t116 _ A14.out).mono ?_
    rintro e w18 ⟨rfl, hb⟩
    refine ⟨_, rfl, ?_⟩
    replace BK107 := bkb_ BK107 hb
    replace BK112 := bkb_ BK112 hb
    replace HB := Aside0.mk (below_step bh hb)
    (try clear hb)
    (try clear hb2)
    (try clear hk)
    (try clear hi)
    refine hK.out _ _ ⟨bc BK112 0, bc BK112 1, bc BK112 2, bc BK112 3, bc BK107 0, bc BK107 1, bc BK107 2, bc BK107 3⟩ (fun hHeld => ?_)
    clear hK K
    refine nm 27 ?_
    refine pu 4 28 laws_FnEaten.d5 HT_ ?_
    refine pu 5 29 laws_FnEaten.d6 HT_ ?_
    refine un 6 30 laws_FnEaten.d7 HT_ ?_
    refine un 7 31 #[true, true, true, true, true, true, true, true, false, false, false, false] HT_ ?_
    refine un 8 32 laws_FnEaten.d8 HT_ ?_
    refine un 9 33 laws_FnEaten.d9 HT_ ?_
    refine un 10 34 laws_FnEaten.d10 HT_ ?_
    refine pu 11 35 laws_FnEaten.d11 HT_ ?_
    refine dn HT_ ?_
    try go_wp2
    go_meet
    case rel => exact ⟨_, (true), (by first | rfl | (simp; done) | (simp [*]; done)), H', ⟨by first | omega | exact Nat.le_refl _⟩, ⟨bk⟩, ⟨bk⟩, ⟨bh⟩⟩
   ·
    rw [if_neg c15] at H
    have c15b0 : (!(t108 == t113) || (!(t109 == t114) || (!(t110.toList == t115.toList) || (!(t111.toList == t116.toList))))) = false := by simpa using c15
    clear c15
    (first | rw [c15b0] | (simp only [i64_w, i32_w]; rw [c15b0]) | skip)
    obtain ⟨t117, A190, H⟩ := Option.bind_eq_some_iff.mp H
    try dsimp only at H
    have A19 := Aside0.mk A190
    clear A190
    obtain ⟨t118, A200, H⟩ := Option.bind_eq_some_iff.mp H
    try dsimp only at H
    have A20 := Aside0.mk A200
    clear A200
    have H' := Aside0.mk H
    clear H
    try go_wp2
    have n0_ : Aside0 (((((w11.setCell ⟨gb112, 0, none⟩ (.int .i64 t108)).setCell ⟨gb112, 1, none⟩ (.int .i64 t109)).setCell ⟨gb112, 2, none⟩ (.string t110)).setCell ⟨gb112, 3, none⟩ (.string t111)).heap[gb107]? = some (.cells #[.int .i64 t102, .int .i64 t103, .string t104, .string t105] 35 (0, 0))) := ⟨bkp⟩
    have n1_ : Aside0 (((((w11.setCell ⟨gb112, 0, none⟩ (.int .i64 t108)).setCell ⟨gb112, 1, none⟩ (.int .i64 t109)).setCell ⟨gb112, 2, none⟩ (.string t110)).setCell ⟨gb112, 3, none⟩ (.string t111)).heap[gb112]? = some (.cells #[.int .i64 t108, .int .i64 t109, .string t110, .string t111] 35 (0, 0))) := ⟨bkp⟩
    have n2_ : Aside0 (Below w.heap.size w ((((w11.setCell ⟨gb112, 0, none⟩ (.int .i64 t108)).setCell ⟨gb112, 1, none⟩ (.int .i64 t109)).setCell ⟨gb112, 2, none⟩ (.string t110)).setCell ⟨gb112, 3, none⟩ (.string t111))) := ⟨bh⟩
    (try clear BK107)
    (try clear BK112)
    (try clear HB)
    generalize ((((w11.setCell ⟨gb112, 0, none⟩ (.int .i64 t108)).setCell ⟨gb112, 1, none⟩ (.int .i64 t109)).setCell ⟨gb112, 2, none⟩ (.string t110)).setCell ⟨gb112, 3, none⟩ (.string t111)) = w21 at n0_ n1_ n2_ ⊢
    have BK107 := n0_
    have BK112 := n1_
    have HB := n2_
    clear n0_ n1_ n2_
    replace BK107 := Aside0.mk (blk_drew BK107.out)
    replace BK112 := Aside0.mk (blk_drew BK112.out)
    replace HB := Aside0.mk (below_drew1 HB.out)
    refine start_ (n := 12) (S := fun w' => w'.cell? ⟨gb112, 0, none⟩ = some (.int .i64 t108) ∧ w'.cell? ⟨gb112, 1, none⟩ = some (.int .i64 t109) ∧ w'.cell? ⟨gb112, 2, none⟩ = some (.string t110) ∧ w'.cell? ⟨gb112, 3, none⟩ = some (.string t111) ∧ w'.cell? ⟨gb107, 0, none⟩ = some (.int .i64 t102) ∧ w'.cell? ⟨gb107, 1, none⟩ = some (.int .i64 t103) ∧ w'.cell? ⟨gb107, 2, none⟩ = some (.string t104) ∧ w'.cell? ⟨gb107, 3, none⟩ = some (.string t105)) (ds := []) laws_FnEaten.d0 (by kernel_rfl) rfl rfl ⟨bc BK112 0, bc BK112 1, bc BK112 2, bc BK112 3, bc BK107 0, bc BK107 1, bc BK107 2, bc BK107 3⟩ (fun hHeld => ?_); refine with_tabW laws_FnEaten.tab5 laws_FnEaten.bits5 (fun HT_ HW_ => ?_)
    generalize w21.drew = w22 at BK107 BK112 HB hHeld ⊢
    refine pu 2 26 laws_FnEaten.d1 HT_ ?_
    refine tk 0 24 laws_FnEaten.d2 HT_ HW_ hHeld ?_
    refine tk 1 25 laws_FnEaten.d3 HT_ HW_ hHeld ?_
    refine onx 3 27 laws_FnEaten.d4 HT_ (fun K hK => ?_)
    refine gs Tryd.func28 #[.agg #[.int .i64 t102, .int .i64 t103, .string t104, .string t105], .int .u8 t106] ?_
    with_reducible refine (spec_Eat.calls k t102 t103 t104 t105 t106 t113 t114 t115 t116 _ A14.out).mono ?_
    rintro e w23 ⟨rfl, hb⟩
    refine ⟨_, rfl, ?_⟩
    replace BK107 := bkb_ BK107 hb
    replace BK112 := bkb_ BK112 hb
    replace HB := Aside0.mk (below_step bh hb)
    (try clear hb)
    (try clear hb2)
    (try clear hk)
    (try clear hi)
    refine hK.out _ _ ⟨bc BK112 0, bc BK112 1, bc BK112 2, bc BK112 3, bc BK107 0, bc BK107 1, bc BK107 2, bc BK107 3⟩ (fun hHeld => ?_)
    clear hK K
    refine nm 27 ?_
    refine pu 4 28 laws_FnEaten.d5 HT_ ?_
    refine pu 5 29 laws_FnEaten.d6 HT_ ?_
    refine tk 6 30 laws_FnEaten.d7 HT_ HW_ hHeld ?_
    refine tk 8 32 #[true, true, true, true, true, true, true, false, true, false, false, false] HT_ HW_ hHeld ?_
    refine onx 7 31 laws_FnEaten.d8 HT_ (fun K hK => ?_)
    refine gs Tryd.func29 #[.agg #[.int .i64 t102, .int .i64 t103, .string t104, .string t105]] ?_
    with_reducible refine (impl_ChunkerOk.calls k t102 t103 t104 t105 t117 _ A19.out).mono ?_
    rintro e w24 ⟨rfl, hb⟩
    refine ⟨_, rfl, ?_⟩
    replace BK107 := bkb_ BK107 hb
    replace BK112 := bkb_ BK112 hb
    replace HB := Aside0.mk (below_step bh hb)
    (try clear hb)
    (try clear hb2)
    (try clear hk)
    (try clear hi)
    refine hK.out _ _ ⟨bc BK112 0, bc BK112 1, bc BK112 2, bc BK112 3, bc BK107 0, bc BK107 1, bc BK107 2, bc BK107 3⟩ (fun hHeld => ?_)
    clear hK K
    refine nm 31 ?_
    refine onx 9 33 laws_FnEaten.d9 HT_ (fun K hK => ?_)
    refine gs Tryd.func30 #[.agg #[.int .i64 t102, .int .i64 t103, .string t104, .string t105]] ?_
    with_reducible refine (spec_ChunkerOk.calls k t102 t103 t104 t105 t118 _ A20.out).mono ?_
    rintro e w25 ⟨rfl, hb⟩
    refine ⟨_, rfl, ?_⟩
    replace BK107 := bkb_ BK107 hb
    replace BK112 := bkb_ BK112 hb
    replace HB := Aside0.mk (below_step bh hb)
    (try clear hb)
    (try clear hb2)
    (try clear hk)
    (try clear hi)
    refine hK.out _ _ ⟨bc BK112 0, bc BK112 1, bc BK112 2, bc BK112 3, bc BK107 0, bc BK107 1, bc BK107 2, bc BK107 3⟩ (fun hHeld => ?_)
    clear hK K
    refine nm 33 ?_
    refine pu 10 34 laws_FnEaten.d10 HT_ ?_
    refine pu 11 35 laws_FnEaten.d11 HT_ ?_
    refine dn HT_ ?_
    try go_wp2
    go_meet
    case rel => exact ⟨_, ((t117 != t118)), (by first | rfl | (simp; done) | (simp [*]; done)), H', ⟨by first | omega | exact Nat.le_refl _⟩, ⟨bk⟩, ⟨bk⟩, ⟨bh⟩⟩
  case rest =>
   clear HC6
   try clear c1
   try clear c2
   try clear p2
   try clear c3
   try clear c5
   try clear c6
   try clear c12
   try clear c15
   try clear c15b0
   try clear hcz13_0
   try clear hcz13_1
   try clear hcz13_2
   try clear hcz13_3
   try clear hcz9_0
   try clear hcz9_1
   try clear hcz9_2
   try clear hcz9_3
   try clear hfz13_0
   try clear hfz13_1
   try clear hfz13_2
   try clear hfz13_3
   try clear hfz9_0
   try clear hfz9_1
   try clear hfz9_2
   try clear hfz9_3
   obtain ⟨kq, x35_5, rfl, HA, HJ5, BK107, BK112, HB⟩ := hcut
   cases kq with
   | zero => exact absurd HA.out (by simp [laws_FnEaten.j0])
   | succ kj5 =>
    have H := HA.out
    clear HA
    simp only [laws_FnEaten.j0] at H
    by_cases c26 : x35_5 = true
    ·
     subst c26
     have H1 : (some false) = some r := by rw [if_pos rfl] at H; exact H
     clear H
     have H := H1
     clear H1
     obtain rfl := Option.some.inj H
     go_wp2
     go_ret
     exact ⟨er, bh⟩
    ·
     replace c26 := Bool.eq_false_iff.mpr c26
     subst c26
     rw [if_neg (show ¬ (false = true) by decide)] at H
     obtain ⟨⟨t119, t120, t121, t122, t123⟩, A270, H⟩ := Option.bind_eq_some_iff.mp H
     try dsimp only at H
     have A27 := Aside0.mk A270
     clear A270
     obtain ⟨⟨t125, t126, t127, t128, t129⟩, A280, H⟩ := Option.bind_eq_some_iff.mp H
     try dsimp only at H
     have A28 := Aside0.mk A280
     clear A280
     obtain ⟨⟨t131, t132, t133, t134, t135⟩, A290, H⟩ := Option.bind_eq_some_iff.mp H
     try dsimp only at H
     have A29 := Aside0.mk A290
     clear A290
     have HC30 := Aside0.mk H
     clear H
     go_upto_region 10 with (first | ((with_reducible refine gate_callee (f := 31) rfl ?_); refine goesL_ (some 38) rfl rfl Tryd.func31 (by kernel_rfl) rfl #[.slice A0 l0.length c0] rfl mc ?_; (with_reducible refine (spec_DrawEatAll.calls kj5 _ _ l0 t119 t120 t121 t122 t123 _ ?side1 ?side2 A27.out).mono ?_); (case side1 => repeat (first | exact (Kd.C_below HR0.out HB.out) | (with_reducible refine Kd.C_alloc ?_ _) | (with_reducible refine Kd.C_drewN ?_ _) | (with_reducible refine Kd.C_drew ?_))); (case side2 => exact HC0.out); rintro e w31 ⟨rfl, hb⟩; refine ⟨_, rfl, ?_⟩; replace BK107 := bkb_ BK107 hb; replace BK112 := bkb_ BK112 hb; replace HB := Aside0.mk (below_step bh hb); (try clear hb); (try clear hb2); (try clear hk); (try clear hi)) | ((with_reducible refine gate_dst (N := 6) rfl ?_); (try (refine gate_guard (by rfl) ?_; dsimp only)); refine bx 6 #[.int .i64 0, .int .i64 0, .string (⟨#[]⟩ : ByteArray), .string (⟨#[]⟩ : ByteArray)] 35 ?_; intro gb124 hg w32 hbox hb; have BK124 := Aside0.mk (hbox); have GW124 := Aside0.mk (bz hg); have GE124 := Aside0.mk (bz hg); have NB107_124 := Aside0.mk ((nl (o := .cells #[.int .i64 t102, .int .i64 t103, .string t104, .string t105] 35 (0, 0)) hg bk : gb107 ≠ gb124)); have NB124_107 := Aside0.mk ((ng (o := .cells #[.int .i64 t102, .int .i64 t103, .string t104, .string t105] 35 (0, 0)) hg bk : gb124 ≠ gb107)); have NB112_124 := Aside0.mk ((nl (o := .cells #[.int .i64 t108, .int .i64 t109, .string t110, .string t111] 35 (0, 0)) hg bk : gb112 ≠ gb124)); have NB124_112 := Aside0.mk ((ng (o := .cells #[.int .i64 t108, .int .i64 t109, .string t110, .string t111] 35 (0, 0)) hg bk : gb124 ≠ gb112)); replace BK107 := bkb_ BK107 hb; replace BK112 := bkb_ BK112 hb; replace HB := Aside0.mk (below_step bh hb); clear hb hbox hg; have hnb33 := NB124_107.out; have hnc33 := NB107_124.out; have hnb34 := NB124_112.out; have hnc34 := NB112_124.out; obtain ⟨hcz35_0, hcz35_1, hcz35_2, hcz35_3⟩ := zcf4 BK124; obtain ⟨hfz35_0, hfz35_1, hfz35_2, hfz35_3⟩ := zff4 BK124) | ((with_reducible refine gate_callee (f := 32) rfl ?_); refine goesL_ (some 44) rfl rfl Tryd.func32 (by kernel_rfl) rfl #[.agg #[.int .i64 t119, .int .i64 t120, .string t121, .string t122], .string t123] rfl mc ?_; (with_reducible refine (impl_EatAll.calls kj5 t119 t120 t121 t122 t123 t125 t126 t127 t128 t129 _ A28.out).mono ?_); rintro e w36 ⟨rfl, hb⟩; refine ⟨_, rfl, ?_⟩; replace BK107 := Aside0.mk (blk_below (g := gb107) (o := .cells #[.int .i64 t102, .int .i64 t103, .string t104, .string t105] 35 (0, 0)) bkp hb); replace BK112 := Aside0.mk (blk_below (g := gb112) (o := .cells #[.int .i64 t108, .int .i64 t109, .string t110, .string t111] 35 (0, 0)) bkp hb); replace BK124 := Aside0.mk (blk_below (g := gb124) (o := .cells #[.int .i64 t119, .int .i64 t120, .string t121, .string t122] 35 (0, 0)) bkp hb); replace HB := Aside0.mk (below_step bh hb); (try clear hb); (try clear hb2); (try clear hk); (try clear hi)) | ((with_reducible refine gate_dst (N := 8) rfl ?_); (try (refine gate_guard (by rfl) ?_; dsimp only)); refine bx 8 #[.int .i64 0, .int .i64 0, .string (⟨#[]⟩ : ByteArray), .string (⟨#[]⟩ : ByteArray)] 35 ?_; intro gb130 hg w37 hbox hb; have BK130 := Aside0.mk (hbox); have GW130 := Aside0.mk (bz hg); have GE130 := Aside0.mk (bz hg); have NB107_130 := Aside0.mk ((nl (o := .cells #[.int .i64 t102, .int .i64 t103, .string t104, .string t105] 35 (0, 0)) hg bk : gb107 ≠ gb130)); have NB130_107 := Aside0.mk ((ng (o := .cells #[.int .i64 t102, .int .i64 t103, .string t104, .string t105] 35 (0, 0)) hg bk : gb130 ≠ gb107)); have NB112_130 := Aside0.mk ((nl (o := .cells #[.int .i64 t108, .int .i64 t109, .string t110, .string t111] 35 (0, 0)) hg bk : gb112 ≠ gb130)); have NB130_112 := Aside0.mk ((ng (o := .cells #[.int .i64 t108, .int .i64 t109, .string t110, .string t111] 35 (0, 0)) hg bk : gb130 ≠ gb112)); have NB124_130 := Aside0.mk ((nl (o := .cells #[.int .i64 t119, .int .i64 t120, .string t121, .string t122] 35 (0, 0)) hg bk : gb124 ≠ gb130)); have NB130_124 := Aside0.mk ((ng (o := .cells #[.int .i64 t119, .int .i64 t120, .string t121, .string t122] 35 (0, 0)) hg bk : gb130 ≠ gb124)); replace BK107 := bkb_ BK107 hb; replace BK112 := bkb_ BK112 hb; replace BK124 := bkb_ BK124 hb; replace HB := Aside0.mk (below_step bh hb); clear hb hbox hg; have hnb38 := NB130_107.out; have hnc38 := NB107_130.out; have hnb39 := NB130_112.out; have hnc39 := NB112_130.out; have hnb40 := NB130_124.out; have hnc40 := NB124_130.out; obtain ⟨hcz41_0, hcz41_1, hcz41_2, hcz41_3⟩ := zcf4 BK130; obtain ⟨hfz41_0, hfz41_1, hfz41_2, hfz41_3⟩ := zff4 BK130; obtain ⟨hcz42_0, hcz42_1, hcz42_2, hcz42_3⟩ := zcf4 BK124; obtain ⟨hfz42_0, hfz42_1, hfz42_2, hfz42_3⟩ := zff4 BK124) | ((with_reducible refine gate_callee (f := 33) rfl ?_); refine goesL_ (some 50) rfl rfl Tryd.func33 (by kernel_rfl) rfl #[.agg #[.int .i64 t119, .int .i64 t120, .string t121, .string t122], .string t123] rfl mc ?_; (with_reducible refine (spec_EatAll.calls kj5 t119 t120 t121 t122 t123 t131 t132 t133 t134 t135 _ A29.out).mono ?_); rintro e w43 ⟨rfl, hb⟩; refine ⟨_, rfl, ?_⟩; replace BK107 := Aside0.mk (blk_below (g := gb107) (o := .cells #[.int .i64 t102, .int .i64 t103, .string t104, .string t105] 35 (0, 0)) bkp hb); replace BK112 := Aside0.mk (blk_below (g := gb112) (o := .cells #[.int .i64 t108, .int .i64 t109, .string t110, .string t111] 35 (0, 0)) bkp hb); replace BK124 := Aside0.mk (blk_below (g := gb124) (o := .cells #[.int .i64 t119, .int .i64 t120, .string t121, .string t122] 35 (0, 0)) bkp hb); replace BK130 := Aside0.mk (blk_below (g := gb130) (o := .cells #[.int .i64 t125, .int .i64 t126, .string t127, .string t128] 35 (0, 0)) bkp hb); replace HB := Aside0.mk (below_step bh hb); (try clear hb); (try clear hb2); (try clear hk); (try clear hi)) | ((with_reducible refine gate_dst (N := 10) rfl ?_); (try (refine gate_guard (by rfl) ?_; dsimp only)); refine bx 10 #[.int .i64 0, .int .i64 0, .string (⟨#[]⟩ : ByteArray), .string (⟨#[]⟩ : ByteArray)] 35 ?_; intro gb136 hg w44 hbox hb; have BK136 := Aside0.mk (hbox); have GW136 := Aside0.mk (bz hg); have GE136 := Aside0.mk (bz hg); have NB107_136 := Aside0.mk ((nl (o := .cells #[.int .i64 t102, .int .i64 t103, .string t104, .string t105] 35 (0, 0)) hg bk : gb107 ≠ gb136)); have NB136_107 := Aside0.mk ((ng (o := .cells #[.int .i64 t102, .int .i64 t103, .string t104, .string t105] 35 (0, 0)) hg bk : gb136 ≠ gb107)); have NB112_136 := Aside0.mk ((nl (o := .cells #[.int .i64 t108, .int .i64 t109, .string t110, .string t111] 35 (0, 0)) hg bk : gb112 ≠ gb136)); have NB136_112 := Aside0.mk ((ng (o := .cells #[.int .i64 t108, .int .i64 t109, .string t110, .string t111] 35 (0, 0)) hg bk : gb136 ≠ gb112)); have NB124_136 := Aside0.mk ((nl (o := .cells #[.int .i64 t119, .int .i64 t120, .string t121, .string t122] 35 (0, 0)) hg bk : gb124 ≠ gb136)); have NB136_124 := Aside0.mk ((ng (o := .cells #[.int .i64 t119, .int .i64 t120, .string t121, .string t122] 35 (0, 0)) hg bk : gb136 ≠ gb124)); have NB130_136 := Aside0.mk ((nl (o := .cells #[.int .i64 t125, .int .i64 t126, .string t127, .string t128] 35 (0, 0)) hg bk : gb130 ≠ gb136)); have NB136_130 := Aside0.mk ((ng (o := .cells #[.int .i64 t125, .int .i64 t126, .string t127, .string t128] 35 (0, 0)) hg bk : gb136 ≠ gb130)); replace BK107 := bkb_ BK107 hb; replace BK112 := bkb_ BK112 hb; replace BK124 := bkb_ BK124 hb; replace BK130 := bkb_ BK130 hb; replace HB := Aside0.mk (below_step bh hb); clear hb hbox hg; have hnb45 := NB136_107.out; have hnc45 := NB107_136.out; have hnb46 := NB136_112.out; have hnc46 := NB112_136.out; have hnb47 := NB136_124.out; have hnc47 := NB124_136.out; have hnb48 := NB136_130.out; have hnc48 := NB130_136.out; obtain ⟨hcz49_0, hcz49_1, hcz49_2, hcz49_3⟩ := zcf4 BK136; obtain ⟨hfz49_0, hfz49_1, hfz49_2, hfz49_3⟩ := zff4 BK136))
     (try simp only [Act.put, List.setIfInBounds_toArray, List.set_cons_zero, List.set_cons_succ])
     go_cut [60] (fun v60 wc => ∃ (kq : Nat) (x60_29 : Bool), v60 = .bool x60_29 ∧ Aside0 (laws_FnEaten.j1 kq t123 t129 x60_29 t102 t103 t104 t105 t108 t109 t110 t111 t119 t120 t121 t122 t125 t126 t127 t128 = some r) ∧ Aside0 (kq ≤ kj5) ∧ Aside0 (wc.heap[gb107]? = some (.cells #[.int .i64 t102, .int .i64 t103, .string t104, .string t105] 35 (0, 0))) ∧ Aside0 (wc.heap[gb112]? = some (.cells #[.int .i64 t108, .int .i64 t109, .string t110, .string t111] 35 (0, 0))) ∧ Aside0 (wc.heap[gb124]? = some (.cells #[.int .i64 t119, .int .i64 t120, .string t121, .string t122] 35 (0, 0))) ∧ Aside0 (wc.heap[gb130]? = some (.cells #[.int .i64 t125, .int .i64 t126, .string t127, .string t128] 35 (0, 0))) ∧ Aside0 (wc.heap[gb136]? = some (.cells #[.int .i64 t131, .int .i64 t132, .string t133, .string t134] 35 (0, 0))) ∧ Aside0 (Below w.heap.size w wc))
     case first =>
      have H := HC30.out
      clear HC30
      by_cases c50 : (!(t125 == t131) || (!(t126 == t132) || (!(t127.toList == t133.toList) || (!(t128.toList == t134.toList))))) = true
      ·
       rw [if_pos c50] at H
       have c50b0 : (!(t125 == t131) || (!(t126 == t132) || (!(t127.toList == t133.toList) || (!(t128.toList == t134.toList))))) = true := c50
       clear c50
       (first | rw [c50b0] | (simp only [i64_w, i32_w]; rw [c50b0]) | skip)
       have H' := Aside0.mk H
       clear H
       have hnb51 := NB130_107.out
       have hnc51 := NB107_130.out
       have hnb52 := NB130_112.out
       have hnc52 := NB112_130.out
       have hnb53 := NB130_124.out
       have hnc53 := NB124_130.out
       have hnb54 := NB130_136.out
       have hnc54 := NB136_130.out
       obtain ⟨hcz55_0, hcz55_1, hcz55_2, hcz55_3⟩ := zcf4 BK130
       obtain ⟨hfz55_0, hfz55_1, hfz55_2, hfz55_3⟩ := zff4 BK130
       have hnb56 := NB136_107.out
       have hnc56 := NB107_136.out
       have hnb57 := NB136_112.out
       have hnc57 := NB112_136.out
       have hnb58 := NB136_124.out
       have hnc58 := NB124_136.out
       obtain ⟨hcz59_0, hcz59_1, hcz59_2, hcz59_3⟩ := zcf4 BK136
       obtain ⟨hfz59_0, hfz59_1, hfz59_2, hfz59_3⟩ := zff4 BK136
       go_wp2
       go_meet
       case rel => exact ⟨_, (true), (by first | rfl | (simp; done) | (simp [*]; done)), H', ⟨by have := HJ5.out; first | omega | exact Nat.le_refl _⟩, ⟨bkp⟩, ⟨bkp⟩, ⟨bkp⟩, ⟨bkp⟩, ⟨bkp⟩, ⟨bh⟩⟩
      ·
       rw [if_neg c50] at H
       have c50b0 : (!(t125 == t131) || (!(t126 == t132) || (!(t127.toList == t133.toList) || (!(t128.toList == t134.toList))))) = false := by simpa using c50
       clear c50
       (first | rw [c50b0] | (simp only [i64_w, i32_w]; rw [c50b0]) | skip)
       have H' := Aside0.mk H
       clear H
       have hnb60 := NB130_107.out
       have hnc60 := NB107_130.out
       have hnb61 := NB130_112.out
       have hnc61 := NB112_130.out
       have hnb62 := NB130_124.out
       have hnc62 := NB124_130.out
       have hnb63 := NB130_136.out
       have hnc63 := NB136_130.out
       obtain ⟨hcz64_0, hcz64_1, hcz64_2, hcz64_3⟩ := zcf4 BK130
       obtain ⟨hfz64_0, hfz64_1, hfz64_2, hfz64_3⟩ := zff4 BK130
       have hnb65 := NB136_107.out
       have hnc65 := NB107_136.out
       have hnb66 := NB136_112.out
       have hnc66 := NB112_136.out
       have hnb67 := NB136_124.out
       have hnc67 := NB124_136.out
       obtain ⟨hcz68_0, hcz68_1, hcz68_2, hcz68_3⟩ := zcf4 BK136
       obtain ⟨hfz68_0, hfz68_1, hfz68_2, hfz68_3⟩ := zff4 BK136
       go_wp2
       go_meet
       case rel => exact ⟨_, ((t129 != t135)), (by first | rfl | (simp; done) | (simp [*]; done)), H', ⟨by have := HJ5.out; first | omega | exact Nat.le_refl _⟩, ⟨bkp⟩, ⟨bkp⟩, ⟨bkp⟩, ⟨bkp⟩, ⟨bkp⟩, ⟨bh⟩⟩
     case rest =>
      clear HC30
      try clear c1
      try clear c2
      try clear p2
      try clear c3
      try clear c4
      try clear c5
      try clear c6
      try clear c12
      try clear c15
      try clear c15b0
      try clear c26
      try clear c27
      try clear c28
      try clear c29
      try clear c30
      try clear c31
      try clear c32
      try clear c33
      try clear c34
      try clear c38
      try clear c39
      try clear c40
      try clear c45
      try clear c46
      try clear c47
      try clear c48
      try clear c50
      try clear c50b0
      try clear c51
      try clear c52
      try clear c53
      try clear c54
      try clear c56
      try clear c57
      try clear c58
      try clear c60
      try clear c61
      try clear c62
      try clear c63
      try clear c65
      try clear c66
      try clear c67
      try clear hcz13_0
      try clear hcz13_1
      try clear hcz13_2
      try clear hcz13_3
      try clear hcz35_0
      try clear hcz35_1
      try clear hcz35_2
      try clear hcz35_3
      try clear hcz41_0
      try clear hcz41_1
      try clear hcz41_2
      try clear hcz41_3
      try clear hcz42_0
      try clear hcz42_1
      try clear hcz42_2
      try clear hcz42_3
      try clear hcz49_0
      try clear hcz49_1
      try clear hcz49_2
      try clear hcz49_3
      try clear hcz55_0
      try clear hcz55_1
      try clear hcz55_2
      try clear hcz55_3
      try clear hcz59_0
      try clear hcz59_1
      try clear hcz59_2
      try clear hcz59_3
      try clear hcz64_0
      try clear hcz64_1
      try clear hcz64_2
      try clear hcz64_3
      try clear hcz68_0
      try clear hcz68_1
      try clear hcz68_2
      try clear hcz68_3
      try clear hcz9_0
      try clear hcz9_1
      try clear hcz9_2
      try clear hcz9_3
      try clear hfz13_0
      try clear hfz13_1
      try clear hfz13_2
      try clear hfz13_3
      try clear hfz35_0
      try clear hfz35_1
      try clear hfz35_2
      try clear hfz35_3
      try clear hfz41_0
      try clear hfz41_1
      try clear hfz41_2
      try clear hfz41_3
      try clear hfz42_0
      try clear hfz42_1
      try clear hfz42_2
      try clear hfz42_3
      try clear hfz49_0
      try clear hfz49_1
      try clear hfz49_2
      try clear hfz49_3
      try clear hfz55_0
      try clear hfz55_1
      try clear hfz55_2
      try clear hfz55_3
      try clear hfz59_0
      try clear hfz59_1
      try clear hfz59_2
      try clear hfz59_3
      try clear hfz64_0
      try clear hfz64_1
      try clear hfz64_2
      try clear hfz64_3
      try clear hfz68_0
      try clear hfz68_1
      try clear hfz68_2
      try clear hfz68_3
      try clear hfz9_0
      try clear hfz9_1
      try clear hfz9_2
      try clear hfz9_3
      try clear p2
      obtain ⟨kq, x60_29, rfl, HA, HJ29, BK107, BK112, BK124, BK130, BK136, HB⟩ := hcut
      cases kq with
      | zero => exact absurd HA.out (by simp [laws_FnEaten.j1])
      | succ kj29 =>
       have H := HA.out
       clear HA
       simp only [laws_FnEaten.j1] at H
       by_cases c69 : x60_29 = true
       ·
        subst c69
        have H1 : (some false) = some r := by rw [if_pos rfl] at H; exact H
        clear H
        have H := H1
        clear H1
        obtain rfl := Option.some.inj H
        go_wp2
        go_ret
        exact ⟨er, bh⟩
       ·
        replace c69 := Bool.eq_false_iff.mpr c69
        subst c69
        rw [if_neg (show ¬ (false = true) by decide)] at H
        obtain ⟨t137, A700, H⟩ := Option.bind_eq_some_iff.mp H
        try dsimp only at H
        have A70 := Aside0.mk A700
        clear A700
        by_cases c71 : t137 = true
        ·
         subst c71
         rw [if_pos rfl] at H
         have HC72 := Aside0.mk H
         clear H
         have hnb73 := NB107_112.out
         have hnc73 := NB112_107.out
         have hnb74 := NB107_124.out
         have hnc74 := NB124_107.out
         have hnb75 := NB107_130.out
         have hnc75 := NB130_107.out
         have hnb76 := NB107_136.out
         have hnc76 := NB136_107.out
         obtain ⟨hcz77_0, hcz77_1, hcz77_2, hcz77_3⟩ := zcf4 BK107
         obtain ⟨hfz77_0, hfz77_1, hfz77_2, hfz77_3⟩ := zff4 BK107
         go_upto_region 14 with (first | ((with_reducible refine gate_callee (f := 30) rfl ?_); refine goesL_ (some 62) rfl rfl Tryd.func30 (by kernel_rfl) rfl #[.agg #[.int .i64 t102, .int .i64 t103, .string t104, .string t105]] rfl mc ?_; (with_reducible refine (spec_ChunkerOk.calls kj29 t102 t103 t104 t105 true _ A70.out).mono ?_); rintro e w78 ⟨rfl, hb⟩; refine ⟨_, rfl, ?_⟩; replace BK107 := bkb_ BK107 hb; replace BK112 := bkb_ BK112 hb; replace BK124 := bkb_ BK124 hb; replace BK130 := bkb_ BK130 hb; replace BK136 := bkb_ BK136 hb; replace HB := Aside0.mk (below_step bh hb); (try clear hb); (try clear hb2); (try clear hk); (try clear hi)))
         (try simp only [Act.put, List.setIfInBounds_toArray, List.set_cons_zero, List.set_cons_succ])
         go_cut [74] (fun v74 wc => ∃ (kq : Nat) (x74_71 : Bool), v74 = .bool x74_71 ∧ Aside0 (laws_FnEaten.j2 kq t123 t129 x74_71 t108 t109 t110 t111 t119 t120 t121 t122 t125 t126 t127 t128 = some r) ∧ Aside0 (kq ≤ kj29) ∧ Aside0 (wc.heap[gb107]? = some (.cells #[.int .i64 t102, .int .i64 t103, .string t104, .string t105] 35 (0, 0))) ∧ Aside0 (wc.heap[gb112]? = some (.cells #[.int .i64 t108, .int .i64 t109, .string t110, .string t111] 35 (0, 0))) ∧ Aside0 (wc.heap[gb124]? = some (.cells #[.int .i64 t119, .int .i64 t120, .string t121, .string t122] 35 (0, 0))) ∧ Aside0 (wc.heap[gb130]? = some (.cells #[.int .i64 t125, .int .i64 t126, .string t127, .string t128] 35 (0, 0))) ∧ Aside0 (wc.heap[gb136]? = some (.cells #[.int .i64 t131, .int .i64 t132, .string t133, .string t134] 35 (0, 0))) ∧ Aside0 (Below w.heap.size w wc))
         case first =>
          have H := HC72.out
          clear HC72
          obtain ⟨t138, A790, H⟩ := Option.bind_eq_some_iff.mp H
          try dsimp only at H
          have A79 := Aside0.mk A790
          clear A790
          by_cases c80 : t138 = true
          ·
           subst c80
           rw [if_pos rfl] at H
           obtain ⟨t139, A810, H⟩ := Option.bind_eq_some_iff.mp H
           try dsimp only at H
           have A81 := Aside0.mk A810
           clear A810
           have H' := Aside0.mk H
           clear H
           have hnb82 := NB112_107.out
           have hnc82 := NB107_112.out
           have hnb83 := NB112_124.out
           have hnc83 := NB124_112.out
           have hnb84 := NB112_130.out
           have hnc84 := NB130_112.out
           have hnb85 := NB112_136.out
           have hnc85 := NB136_112.out
           obtain ⟨hcz86_0, hcz86_1, hcz86_2, hcz86_3⟩ := zcf4 BK112
           obtain ⟨hfz86_0, hfz86_1, hfz86_2, hfz86_3⟩ := zff4 BK112
           go_wp2_with (first | ((with_reducible refine gate_callee (f := 29) rfl ?_); refine goesL_ (some 68) rfl rfl Tryd.func29 (by kernel_rfl) rfl #[.agg #[.int .i64 t108, .int .i64 t109, .string t110, .string t111]] rfl mc ?_; (with_reducible refine (impl_ChunkerOk.calls kj29 t108 t109 t110 t111 true _ A79.out).mono ?_); rintro e w87 ⟨rfl, hb⟩; refine ⟨_, rfl, ?_⟩; replace BK107 := bkb_ BK107 hb; replace BK112 := bkb_ BK112 hb; replace BK124 := bkb_ BK124 hb; replace BK130 := bkb_ BK130 hb; replace BK136 := bkb_ BK136 hb; replace HB := Aside0.mk (below_step bh hb); (try clear hb); (try clear hb2); (try clear hk); (try clear hi); have hnb88 := NB124_107.out; have hnc88 := NB107_124.out; have hnb89 := NB124_130.out; have hnc89 := NB130_124.out; have hnb90 := NB124_136.out; have hnc90 := NB136_124.out; obtain ⟨hcz91_0, hcz91_1, hcz91_2, hcz91_3⟩ := zcf4 BK124; obtain ⟨hfz91_0, hfz91_1, hfz91_2, hfz91_3⟩ := zff4 BK124) | (go_at_call 30; (with_reducible refine (spec_ChunkerOk.calls kj29 t119 t120 t121 t122 t139 _ A81.out).mono ?_); rintro e w92 ⟨rfl, hb⟩; replace BK107 := bkb_ BK107 hb; replace BK112 := bkb_ BK112 hb; replace BK124 := bkb_ BK124 hb; replace BK130 := bkb_ BK130 hb; replace BK136 := bkb_ BK136 hb; replace HB := Aside0.mk (below_step bh hb); (try clear hb); (try clear hb2); (try clear hk); (try clear hi)))
           go_meet
           case rel => exact ⟨_, (!t139), (by first | rfl | (simp; done) | (simp [*]; done)), H', ⟨by have := HJ5.out; have := HJ29.out; first | omega | exact Nat.le_refl _⟩, ⟨bk⟩, ⟨bk⟩, ⟨bk⟩, ⟨bk⟩, ⟨bk⟩, ⟨bh⟩⟩
          ·
           replace c80 := Bool.eq_false_iff.mpr c80
           subst c80
           rw [if_neg (show ¬ (false = true) by decide)] at H
           have H' := Aside0.mk H
           clear H
           have hnb93 := NB112_107.out
           have hnc93 := NB107_112.out
           have hnb94 := NB112_124.out
           have hnc94 := NB124_112.out
           have hnb95 := NB112_130.out
           have hnc95 := NB130_112.out
           have hnb96 := NB112_136.out
           have hnc96 := NB136_112.out
           obtain ⟨hcz97_0, hcz97_1, hcz97_2, hcz97_3⟩ := zcf4 BK112
           obtain ⟨hfz97_0, hfz97_1, hfz97_2, hfz97_3⟩ := zff4 BK112
           go_wp2_with (first | ((with_reducible refine gate_callee (f := 29) rfl ?_); refine goesL_ (some 68) rfl rfl Tryd.func29 (by kernel_rfl) rfl #[.agg #[.int .i64 t108, .int .i64 t109, .string t110, .string t111]] rfl mc ?_; (with_reducible refine (impl_ChunkerOk.calls kj29 t108 t109 t110 t111 false _ A79.out).mono ?_); rintro e w98 ⟨rfl, hb⟩; refine ⟨_, rfl, ?_⟩; replace BK107 := bkb_ BK107 hb; replace BK112 := bkb_ BK112 hb; replace BK124 := bkb_ BK124 hb; replace BK130 := bkb_ BK130 hb; replace BK136 := bkb_ BK136 hb; replace HB := Aside0.mk (below_step bh hb); (try clear hb); (try clear hb2); (try clear hk); (try clear hi)))
           go_meet
           case rel => exact ⟨_, (true), (by first | rfl | (simp; done) | (simp [*]; done)), H', ⟨by have := HJ5.out; have := HJ29.out; first | omega | exact Nat.le_refl _⟩, ⟨bk⟩, ⟨bk⟩, ⟨bk⟩, ⟨bk⟩, ⟨bk⟩, ⟨bh⟩⟩
         case rest =>
          clear HC72
          try clear c1
          try clear c2
          try clear p2
          try clear c3
          try clear c4
          try clear c5
          try clear c6
          try clear c7
          try clear c8
          try clear c9
          try clear c12
          try clear c15
          try clear c15b0
          try clear c26
          try clear c27
          try clear c28
          try clear c29
          try clear c30
          try clear c31
          try clear c32
          try clear c33
          try clear c34
          try clear c38
          try clear c39
          try clear c40
          try clear c45
          try clear c46
          try clear c47
          try clear c48
          try clear c50
          try clear c50b0
          try clear c51
          try clear c52
          try clear c53
          try clear c54
          try clear c56
          try clear c57
          try clear c58
          try clear c60
          try clear c61
          try clear c62
          try clear c63
          try clear c65
          try clear c66
          try clear c67
          try clear c69
          try clear c71
          try clear c73
          try clear c74
          try clear c75
          try clear c76
          try clear c80
          try clear c82
          try clear c83
          try clear c84
          try clear c85
          try clear c88
          try clear c89
          try clear c90
          try clear c93
          try clear c94
          try clear c95
          try clear c96
          try clear hcz13_0
          try clear hcz13_1
          try clear hcz13_2
          try clear hcz13_3
          try clear hcz35_0
          try clear hcz35_1
          try clear hcz35_2
          try clear hcz35_3
          try clear hcz41_0
          try clear hcz41_1
          try clear hcz41_2
          try clear hcz41_3
          try clear hcz42_0
          try clear hcz42_1
          try clear hcz42_2
          try clear hcz42_3
          try clear hcz49_0
          try clear hcz49_1
          try clear hcz49_2
          try clear hcz49_3
          try clear hcz55_0
          try clear hcz55_1
          try clear hcz55_2
          try clear hcz55_3
          try clear hcz59_0
          try clear hcz59_1
          try clear hcz59_2
          try clear hcz59_3
          try clear hcz64_0
          try clear hcz64_1
          try clear hcz64_2
          try clear hcz64_3
          try clear hcz68_0
          try clear hcz68_1
          try clear hcz68_2
          try clear hcz68_3
          try clear hcz77_0
          try clear hcz77_1
          try clear hcz77_2
          try clear hcz77_3
          try clear hcz86_0
          try clear hcz86_1
          try clear hcz86_2
          try clear hcz86_3
          try clear hcz91_0
          try clear hcz91_1
          try clear hcz91_2
          try clear hcz91_3
          try clear hcz97_0
          try clear hcz97_1
          try clear hcz97_2
          try clear hcz97_3
          try clear hcz9_0
          try clear hcz9_1
          try clear hcz9_2
          try clear hcz9_3
          try clear hfz13_0
          try clear hfz13_1
          try clear hfz13_2
          try clear hfz13_3
          try clear hfz35_0
          try clear hfz35_1
          try clear hfz35_2
          try clear hfz35_3
          try clear hfz41_0
          try clear hfz41_1
          try clear hfz41_2
          try clear hfz41_3
          try clear hfz42_0
          try clear hfz42_1
          try clear hfz42_2
          try clear hfz42_3
          try clear hfz49_0
          try clear hfz49_1
          try clear hfz49_2
          try clear hfz49_3
          try clear hfz55_0
          try clear hfz55_1
          try clear hfz55_2
          try clear hfz55_3
          try clear hfz59_0
          try clear hfz59_1
          try clear hfz59_2
          try clear hfz59_3
          try clear hfz64_0
          try clear hfz64_1
          try clear hfz64_2
          try clear hfz64_3
          try clear hfz68_0
          try clear hfz68_1
          try clear hfz68_2
          try clear hfz68_3
          try clear hfz77_0
          try clear hfz77_1
          try clear hfz77_2
          try clear hfz77_3
          try clear hfz86_0
          try clear hfz86_1
          try clear hfz86_2
          try clear hfz86_3
          try clear hfz91_0
          try clear hfz91_1
          try clear hfz91_2
          try clear hfz91_3
          try clear hfz97_0
          try clear hfz97_1
          try clear hfz97_2
          try clear hfz97_3
          try clear hfz9_0
          try clear hfz9_1
          try clear hfz9_2
          try clear hfz9_3
          try clear p2
          obtain ⟨kq, x74_71, rfl, HA, HJ71, BK107, BK112, BK124, BK130, BK136, HB⟩ := hcut
          cases kq with
          | zero => exact absurd HA.out (by simp [laws_FnEaten.j2])
          | succ kj71 =>
           have H := HA.out
           clear HA
           simp only [laws_FnEaten.j2] at H
           by_cases c99 : x74_71 = true
           ·
            subst c99
            rw [if_pos rfl] at H
            replace H := Option.bind_eq_some_iff.mp H
            obtain ⟨t140, A1000, H⟩ := H
            replace H : (some t140) = some r := H
            have A100 := Aside0.mk A1000
            clear A1000
            obtain rfl := Option.some.inj H
            have hnb101 := NB112_107.out
            have hnc101 := NB107_112.out
            have hnb102 := NB112_124.out
            have hnc102 := NB124_112.out
            have hnb103 := NB112_130.out
            have hnc103 := NB130_112.out
            have hnb104 := NB112_136.out
            have hnc104 := NB136_112.out
            obtain ⟨hcz105_0, hcz105_1, hcz105_2, hcz105_3⟩ := zcf4 BK112
            obtain ⟨hfz105_0, hfz105_1, hfz105_2, hfz105_3⟩ := zff4 BK112
            go_wp2_with (first | ((with_reducible refine gate_callee (f := 30) rfl ?_); refine goesL_ (some 76) rfl rfl Tryd.func30 (by kernel_rfl) rfl #[.agg #[.int .i64 t108, .int .i64 t109, .string t110, .string t111]] rfl mc ?_; (with_reducible refine (spec_ChunkerOk.calls kj71 t108 t109 t110 t111 t140 _ A100.out).mono ?_); rintro e w106 ⟨rfl, hb⟩; refine ⟨_, rfl, ?_⟩; replace BK107 := bkb_ BK107 hb; replace BK112 := bkb_ BK112 hb; replace BK124 := bkb_ BK124 hb; replace BK130 := bkb_ BK130 hb; replace BK136 := bkb_ BK136 hb; replace HB := Aside0.mk (below_step bh hb); (try clear hb); (try clear hb2); (try clear hk); (try clear hi)))
            go_ret
            exact ⟨er, bh⟩
           ·
            replace c99 := Bool.eq_false_iff.mpr c99
            subst c99
            rw [if_neg (show ¬ (false = true) by decide)] at H
            have H' := Aside0.mk H
            clear H
            have hnb107 := NB124_107.out
            have hnc107 := NB107_124.out
            have hnb108 := NB124_112.out
            have hnc108 := NB112_124.out
            have hnb109 := NB124_130.out
            have hnc109 := NB130_124.out
            have hnb110 := NB124_136.out
            have hnc110 := NB136_124.out
            obtain ⟨hcz111_0, hcz111_1, hcz111_2, hcz111_3⟩ := zcf4 BK124
            obtain ⟨hfz111_0, hfz111_1, hfz111_2, hfz111_3⟩ := zff4 BK124
            go_wp2_with (first | ((with_reducible refine gate_dst (N := 12) rfl ?_); (try (refine gate_guard (by rfl) ?_; dsimp only)); refine bx 12 #[.int .i64 0, .int .i64 0, .string (⟨#[]⟩ : ByteArray), .string (⟨#[]⟩ : ByteArray)] 35 ?_; intro gb141 hg w112 hbox hb; have BK141 := Aside0.mk (hbox); have GW141 := Aside0.mk (bz hg); have GE141 := Aside0.mk (bz hg); have NB107_141 := Aside0.mk ((nl (o := .cells #[.int .i64 t102, .int .i64 t103, .string t104, .string t105] 35 (0, 0)) hg bk : gb107 ≠ gb141)); have NB141_107 := Aside0.mk ((ng (o := .cells #[.int .i64 t102, .int .i64 t103, .string t104, .string t105] 35 (0, 0)) hg bk : gb141 ≠ gb107)); have NB112_141 := Aside0.mk ((nl (o := .cells #[.int .i64 t108, .int .i64 t109, .string t110, .string t111] 35 (0, 0)) hg bk : gb112 ≠ gb141)); have NB141_112 := Aside0.mk ((ng (o := .cells #[.int .i64 t108, .int .i64 t109, .string t110, .string t111] 35 (0, 0)) hg bk : gb141 ≠ gb112)); have NB124_141 := Aside0.mk ((nl (o := .cells #[.int .i64 t119, .int .i64 t120, .string t121, .string t122] 35 (0, 0)) hg bk : gb124 ≠ gb141)); have NB141_124 := Aside0.mk ((ng (o := .cells #[.int .i64 t119, .int .i64 t120, .string t121, .string t122] 35 (0, 0)) hg bk : gb141 ≠ gb124)); have NB130_141 := Aside0.mk ((nl (o := .cells #[.int .i64 t125, .int .i64 t126, .string t127, .string t128] 35 (0, 0)) hg bk : gb130 ≠ gb141)); have NB141_130 := Aside0.mk ((ng (o := .cells #[.int .i64 t125, .int .i64 t126, .string t127, .string t128] 35 (0, 0)) hg bk : gb141 ≠ gb130)); have NB136_141 := Aside0.mk ((nl (o := .cells #[.int .i64 t131, .int .i64 t132, .string t133, .string t134] 35 (0, 0)) hg bk : gb136 ≠ gb141)); have NB141_136 := Aside0.mk ((ng (o := .cells #[.int .i64 t131, .int .i64 t132, .string t133, .string t134] 35 (0, 0)) hg bk : gb141 ≠ gb136)); replace BK107 := bkb_ BK107 hb; replace BK112 := bkb_ BK112 hb; replace BK124 := bkb_ BK124 hb; replace BK130 := bkb_ BK130 hb; replace BK136 := bkb_ BK136 hb; replace HB := Aside0.mk (below_step bh hb); clear hb hbox hg; have hnb113 := NB141_107.out; have hnc113 := NB107_141.out; have hnb114 := NB141_112.out; have hnc114 := NB112_141.out; have hnb115 := NB141_124.out; have hnc115 := NB124_141.out; have hnb116 := NB141_130.out; have hnc116 := NB130_141.out; have hnb117 := NB141_136.out; have hnc117 := NB136_141.out; obtain ⟨hcz118_0, hcz118_1, hcz118_2, hcz118_3⟩ := zcf4 BK141; obtain ⟨hfz118_0, hfz118_1, hfz118_2, hfz118_3⟩ := zff4 BK141))
            go_loopg [13] kj71 (fun kq v13 w' => ∃ (x13_4 : Int) (x142000_4 : Int) (x142001_4 : Int) (x142002_4 : ByteArray) (x142003_4 : ByteArray), v13 = .int .i64 x13_4 ∧ Aside0 (laws_FnEaten.l0 kq t123 t129 x13_4 t125 t126 t127 t128 x142000_4 x142001_4 x142002_4 x142003_4 = some r) ∧ Aside0 (kq ≤ kj71) ∧ Aside0 (w'.heap[gb107]? = some (.cells #[.int .i64 t102, .int .i64 t103, .string t104, .string t105] 35 (0, 0))) ∧ Aside0 (w'.heap[gb112]? = some (.cells #[.int .i64 t108, .int .i64 t109, .string t110, .string t111] 35 (0, 0))) ∧ Aside0 (w'.heap[gb124]? = some (.cells #[.int .i64 t119, .int .i64 t120, .string t121, .string t122] 35 (0, 0))) ∧ Aside0 (w'.heap[gb130]? = some (.cells #[.int .i64 t125, .int .i64 t126, .string t127, .string t128] 35 (0, 0))) ∧ Aside0 (w'.heap[gb136]? = some (.cells #[.int .i64 t131, .int .i64 t132, .string t133, .string t134] 35 (0, 0))) ∧ Aside0 (w'.heap[gb141]? = some (.cells #[.int .i64 x142000_4, .int .i64 x142001_4, .string x142002_4, .string x142003_4] 35 (0, 0))) ∧ Aside0 (Below w.heap.size w w'))
            case atStart => exact ⟨(0), (t119), (t120), (t121), (t122), (by first | rfl | (simp; done) | (simp [*]; done)), H', ⟨Nat.le_refl _⟩, ⟨bkp⟩, ⟨bkp⟩, ⟨bkp⟩, ⟨bkp⟩, ⟨bkp⟩, ⟨bkp⟩, ⟨bh⟩⟩
            case round =>
             clear H'
             try clear c1
             try clear c2
             try clear p2
             try clear c3
             try clear c4
             try clear c5
             try clear c6
             try clear c7
             try clear c8
             try clear c9
             try clear c10
             try clear c11
             try clear c12
             try clear c15
             try clear c15b0
             try clear c26
             try clear c27
             try clear c28
             try clear c29
             try clear c30
             try clear c31
             try clear c32
             try clear c33
             try clear c34
             try clear c38
             try clear c39
             try clear c40
             try clear c45
             try clear c46
             try clear c47
             try clear c48
             try clear c50
             try clear c50b0
             try clear c51
             try clear c52
             try clear c53
             try clear c54
             try clear c56
             try clear c57
             try clear c58
             try clear c60
             try clear c61
             try clear c62
             try clear c63
             try clear c65
             try clear c66
             try clear c67
             try clear c69
             try clear c71
             try clear c73
             try clear c74
             try clear c75
             try clear c76
             try clear c80
             try clear c82
             try clear c83
             try clear c84
             try clear c85
             try clear c88
             try clear c89
             try clear c90
             try clear c93
             try clear c94
             try clear c95
             try clear c96
             try clear c99
             try clear c101
             try clear c102
             try clear c103
             try clear c104
             try clear c107
             try clear c108
             try clear c109
             try clear c110
             try clear c113
             try clear c114
             try clear c115
             try clear c116
             try clear c117
             try clear hcz105_0
             try clear hcz105_1
             try clear hcz105_2
             try clear hcz105_3
             try clear hcz111_0
             try clear hcz111_1
             try clear hcz111_2
             try clear hcz111_3
             try clear hcz118_0
             try clear hcz118_1
             try clear hcz118_2
             try clear hcz118_3
             try clear hcz13_0
             try clear hcz13_1
             try clear hcz13_2
             try clear hcz13_3
             try clear hcz35_0
             try clear hcz35_1
             try clear hcz35_2
             try clear hcz35_3
             try clear hcz41_0
             try clear hcz41_1
             try clear hcz41_2
             try clear hcz41_3
             try clear hcz42_0
             try clear hcz42_1
             try clear hcz42_2
             try clear hcz42_3
             try clear hcz49_0
             try clear hcz49_1
             try clear hcz49_2
             try clear hcz49_3
             try clear hcz55_0
             try clear hcz55_1
             try clear hcz55_2
             try clear hcz55_3
             try clear hcz59_0
             try clear hcz59_1
             try clear hcz59_2
             try clear hcz59_3
             try clear hcz64_0
             try clear hcz64_1
             try clear hcz64_2
             try clear hcz64_3
             try clear hcz68_0
             try clear hcz68_1
             try clear hcz68_2
             try clear hcz68_3
             try clear hcz77_0
             try clear hcz77_1
             try clear hcz77_2
             try clear hcz77_3
             try clear hcz86_0
             try clear hcz86_1
             try clear hcz86_2
             try clear hcz86_3
             try clear hcz91_0
             try clear hcz91_1
             try clear hcz91_2
             try clear hcz91_3
             try clear hcz97_0
             try clear hcz97_1
             try clear hcz97_2
             try clear hcz97_3
             try clear hcz9_0
             try clear hcz9_1
             try clear hcz9_2
             try clear hcz9_3
             try clear hfz105_0
             try clear hfz105_1
             try clear hfz105_2
             try clear hfz105_3
             try clear hfz111_0
             try clear hfz111_1
             try clear hfz111_2
             try clear hfz111_3
             try clear hfz118_0
             try clear hfz118_1
             try clear hfz118_2
             try clear hfz118_3
             try clear hfz13_0
             try clear hfz13_1
             try clear hfz13_2
             try clear hfz13_3
             try clear hfz35_0
             try clear hfz35_1
             try clear hfz35_2
             try clear hfz35_3
             try clear hfz41_0
             try clear hfz41_1
             try clear hfz41_2
             try clear hfz41_3
             try clear hfz42_0
             try clear hfz42_1
             try clear hfz42_2
             try clear hfz42_3
             try clear hfz49_0
             try clear hfz49_1
             try clear hfz49_2
             try clear hfz49_3
             try clear hfz55_0
             try clear hfz55_1
             try clear hfz55_2
             try clear hfz55_3
             try clear hfz59_0
             try clear hfz59_1
             try clear hfz59_2
             try clear hfz59_3
             try clear hfz64_0
             try clear hfz64_1
             try clear hfz64_2
             try clear hfz64_3
             try clear hfz68_0
             try clear hfz68_1
             try clear hfz68_2
             try clear hfz68_3
             try clear hfz77_0
             try clear hfz77_1
             try clear hfz77_2
             try clear hfz77_3
             try clear hfz86_0
             try clear hfz86_1
             try clear hfz86_2
             try clear hfz86_3
             try clear hfz91_0
             try clear hfz91_1
             try clear hfz91_2
             try clear hfz91_3
             try clear hfz97_0
             try clear hfz97_1
             try clear hfz97_2
             try clear hfz97_3
             try clear hfz9_0
             try clear hfz9_1
             try clear hfz9_2
             try clear hfz9_3
             try clear p2
             obtain ⟨x13_4, x142000_4, x142001_4, x142002_4, x142003_4, rfl, HA, HK4, BK107, BK112, BK124, BK130, BK136, BK141, HB⟩ := hrel
             cases gk with
             | zero => exact absurd HA.out (by simp [laws_FnEaten.l0])
             | succ k4 =>
              have H := HA.out
              clear HA
              simp only [laws_FnEaten.l0] at H
              by_cases c119 : x13_4 < t129
              ·
               rw [if_pos c119] at H
               have c119b0 : decide (x13_4 < t129) = true := decide_eq_true c119
               clear c119
               by_cases c120 : 0 ≤ x13_4
               ·
                rw [if_pos c120] at H
                have c120b0 : decide (0 ≤ x13_4) = true := decide_eq_true c120
                clear c120
                by_cases c121 : x13_4 < (t123.size : Int)
                ·
                 rw [if_pos c121] at H
                 have c121b0 : decide (x13_4 < (t123.size : Int)) = true := decide_eq_true c121
                 clear c121
                 obtain ⟨⟨t142, t143, t144, t145⟩, A1230, H⟩ := Option.bind_eq_some_iff.mp H
                 try dsimp only at H
                 have A123 := Aside0.mk A1230
                 clear A1230
                 have H' := Aside0.mk H
                 clear H
                 try go_wp2
                 replace BK107 := Aside0.mk (blk_drew BK107.out)
                 replace BK112 := Aside0.mk (blk_drew BK112.out)
                 replace BK124 := Aside0.mk (blk_drew BK124.out)
                 replace BK130 := Aside0.mk (blk_drew BK130.out)
                 replace BK136 := Aside0.mk (blk_drew BK136.out)
                 replace BK141 := Aside0.mk (blk_drew BK141.out)
                 replace HB := Aside0.mk (below_drew1 HB.out)
                 have p122 : 0 ≤ (x13_4 : Int) := of_decide_eq_true (by first | (with_reducible assumption) | assumption)
                 have q122 : x13_4 < (t123.size : Int) := of_decide_eq_true (by first | (with_reducible assumption) | assumption)
                 have hx122 := bt_at t123 x13_4
                 replace p122 := eq_true p122
                 replace q122 := eq_true q122
                 refine start_ (n := 6) (S := fun w' => w'.cell? ⟨gb141, 0, none⟩ = some (.int .i64 x142000_4) ∧ w'.cell? ⟨gb141, 1, none⟩ = some (.int .i64 x142001_4) ∧ w'.cell? ⟨gb141, 2, none⟩ = some (.string x142002_4) ∧ w'.cell? ⟨gb141, 3, none⟩ = some (.string x142003_4)) (ds := [5]) #[false, false, false, false, false, false] (by kernel_rfl) rfl rfl ⟨bc BK141 0, bc BK141 1, bc BK141 2, bc BK141 3⟩ (fun hHeld => ?_)
                 generalize wr.drew = w124 at BK107 BK112 BK124 BK130 BK136 BK141 HB hHeld ⊢
                 refine pure_ (i := 1) (N := some 84) (v := ?_) (a' := ?_) #[false, true, false, false, false, false] rfl rfl (by kernel_rfl) (fun _ _ _ h => h) (Or.inl ⟨by rfl, ?_⟩) ?_ ?_
                 rotate_left
                 ·
                  intro w'
                  go_simp
                  with_reducible rfl
                 rotate_left
                 ·
                  simp only [Act.put, List.setIfInBounds_toArray, List.set_cons_zero, List.set_cons_succ, i64_w, i32_w]
                  rfl
                 refine pure_ (i := 2) (N := some 85) (v := ?_) (a' := ?_) #[false, true, true, false, false, false] rfl rfl (by kernel_rfl) (fun _ _ _ h => h) (Or.inl ⟨by rfl, ?_⟩) ?_ ?_
                 rotate_left
                 ·
                  intro w'
                  go_simp
                  with_reducible rfl
                 rotate_left
                 ·
                  simp only [Act.put, List.setIfInBounds_toArray, List.set_cons_zero, List.set_cons_succ, i64_w, i32_w]
                  rfl
                 refine take_ (i := 0) (N := some 83) (v := ?_) (a' := ?_) #[true, true, true, false, false, false] rfl rfl (by kernel_rfl) (fun _ _ _ h => h) (Or.inl ⟨by rfl, ?_⟩) hHeld ?_ ?_
                 rotate_left
                 ·
                  rintro w' ⟨s0, s1, s2, s3⟩
                  go_simp
                  with_reducible rfl
                 rotate_left
                 ·
                  simp only [Act.put, List.setIfInBounds_toArray, List.set_cons_zero, List.set_cons_succ, i64_w, i32_w]
                  rfl
                 refine take_ (i := 3) (N := some 86) (v := ?_) (a' := ?_) #[true, true, true, true, false, false] rfl rfl (by kernel_rfl) (fun _ _ _ h => h) (Or.inl ⟨by rfl, ?_⟩) hHeld ?_ ?_
                 rotate_left
                 ·
                  rintro w' ⟨s0, s1, s2, s3⟩
                  go_simp
                  with_reducible rfl
                 rotate_left
                 ·
                  simp only [Act.put, List.setIfInBounds_toArray, List.set_cons_zero, List.set_cons_succ, i64_w, i32_w]
                  rfl
                 refine one_ (i := 4) (N := some 87) #[true, true, true, true, true, false] rfl rfl (by kernel_rfl) (by decide) (fun K hK => ?_)
                 refine gs Tryd.func27 #[.agg #[.int .i64 x142000_4, .int .i64 x142001_4, .string x142002_4, .string x142003_4], .int .u8 (bt t123 x13_4)] ?_
                 with_reducible refine (impl_Eat.calls k4 x142000_4 x142001_4 x142002_4 x142003_4 (bt t123 x13_4) t142 t143 t144 t145 _ A123.out).mono ?_
                 rintro e w125 ⟨rfl, hb⟩
                 refine ⟨_, rfl, ?_⟩
                 replace BK107 := bkb_ BK107 hb
                 replace BK112 := bkb_ BK112 hb
                 replace BK124 := bkb_ BK124 hb
                 replace BK130 := bkb_ BK130 hb
                 replace BK136 := bkb_ BK136 hb
                 replace BK141 := bkb_ BK141 hb
                 replace HB := Aside0.mk (below_step bh hb)
                 (try clear hb)
                 (try clear hb2)
                 (try clear hk)
                 (try clear hi)
                 refine hK.out _ _ ⟨bc BK141 0, bc BK141 1, bc BK141 2, bc BK141 3⟩ (fun hHeld => ?_)
                 clear hK K
                 refine nm 87 ?_
                 refine last_ (i := 5) (N := none) #[true, true, true, true, true, true] rfl rfl (by kernel_rfl) (by decide) (fun K hK => ?_)
                 have hs126 : w125.cell? ⟨gb141, 0, none⟩ = some (.int .i64 x142000_4) := bc BK141 0
                 have hfs126 := blk_frozen BK141.out 0
                 have hns126_0 := NB107_141.out
                 have hns126_1 := NB112_141.out
                 have hns126_2 := NB124_141.out
                 have hns126_3 := NB130_141.out
                 have hns126_4 := NB136_141.out
                 have hms126_0 := NB141_107.out
                 have hms126_1 := NB141_112.out
                 have hms126_2 := NB141_124.out
                 have hms126_3 := NB141_130.out
                 have hms126_4 := NB141_136.out
                 have hs127 : w125.cell? ⟨gb141, 1, none⟩ = some (.int .i64 x142001_4) := bc BK141 1
                 have hfs127 := blk_frozen BK141.out 1
                 have hns127_0 := NB107_141.out
                 have hns127_1 := NB112_141.out
                 have hns127_2 := NB124_141.out
                 have hns127_3 := NB130_141.out
                 have hns127_4 := NB136_141.out
                 have hms127_0 := NB141_107.out
                 have hms127_1 := NB141_112.out
                 have hms127_2 := NB141_124.out
                 have hms127_3 := NB141_130.out
                 have hms127_4 := NB141_136.out
                 have hs128 : w125.cell? ⟨gb141, 2, none⟩ = some (.string x142002_4) := bc BK141 2
                 have hfs128 := blk_frozen BK141.out 2
                 have hns128_0 := NB107_141.out
                 have hns128_1 := NB112_141.out
                 have hns128_2 := NB124_141.out
                 have hns128_3 := NB130_141.out
                 have hns128_4 := NB136_141.out
                 have hms128_0 := NB141_107.out
                 have hms128_1 := NB141_112.out
                 have hms128_2 := NB141_124.out
                 have hms128_3 := NB141_130.out
                 have hms128_4 := NB141_136.out
                 have hs129 : w125.cell? ⟨gb141, 3, none⟩ = some (.string x142003_4) := bc BK141 3
                 have hfs129 := blk_frozen BK141.out 3
                 have hns129_0 := NB107_141.out
                 have hns129_1 := NB112_141.out
                 have hns129_2 := NB124_141.out
                 have hns129_3 := NB130_141.out
                 have hns129_4 := NB136_141.out
                 have hms129_0 := NB141_107.out
                 have hms129_1 := NB141_112.out
                 have hms129_2 := NB141_124.out
                 have hms129_3 := NB141_130.out
                 have hms129_4 := NB141_136.out
                 refine skip_ (w1 := ?_) (by rfl) rfl ?_ ?_
                 rotate_left
                 ·
                  go_simp
                  rfl
                 refine hK.out _ _ ?_
                 clear hK K
                 refine done_ (by kernel_rfl) ?_
                 try go_wp2
                 go_roundg k4
                 case measure => have := HJ5.out; have := HJ29.out; have := HJ71.out; have := HK4.out; omega
                 case rel => exact ⟨(wrap64 (x13_4 + 1)), (t142), (t143), (t144), (t145), (by first | rfl | (simp; done) | (simp [*]; done)), H', ⟨by have := HJ5.out; have := HJ29.out; have := HJ71.out; have := HK4.out; omega⟩, ⟨bkp⟩, ⟨bkp⟩, ⟨bkp⟩, ⟨bkp⟩, ⟨bkp⟩, ⟨bkp⟩, ⟨bh⟩⟩
                ·
                 rw [if_neg c121] at H
                 exact absurd H (by simp)
               ·
                rw [if_neg c120] at H
                exact absurd H (by simp)
              ·
               rw [if_neg c119] at H
               have c119b0 : decide (x13_4 < t129) = false := decide_eq_false c119
               clear c119
               by_cases c130 : (x142000_4 == t125 && (x142001_4 == t126 && (x142002_4.toList == t127.toList && (x142003_4.toList == t128.toList)))) = true
               ·
                rw [if_pos c130] at H
                have c130b0 : (x142000_4 == t125 && (x142001_4 == t126 && (x142002_4.toList == t127.toList && (x142003_4.toList == t128.toList)))) = true := c130
                (try (have c130b1 : decide (x142000_4 = t125 && (x142001_4 == t126 && (x142002_4.toList == t127.toList && (x142003_4.toList == t128.toList)))) = true := by simpa using c130))
                (try (have c130b2 : (x142000_4 == t125 && (x142001_4 == t126 && (x142002_4.toList == t127.toList && (x142003_4.toList == t128.toList)))) = true := by simpa using c130))
                clear c130
                obtain ⟨t146, A1310, H⟩ := Option.bind_eq_some_iff.mp H
                try dsimp only at H
                have A131 := Aside0.mk A1310
                clear A1310
                by_cases c132 : t146 = true
                ·
                 subst c132
                 rw [if_pos rfl] at H
                 by_cases c133 : t129 = (t123.size : Int)
                 ·
                  rw [if_pos c133] at H
                  have c133b0 : (t129 == (t123.size : Int)) = true := beq_iff_eq.mpr c133
                  have c133b1 : (t129 != (t123.size : Int)) = false := bne_eq_false_iff_eq.mpr c133
                  clear c133
                  obtain rfl := Option.some.inj H
                  have hnb134 := NB141_107.out
                  have hnc134 := NB107_141.out
                  have hnb135 := NB141_112.out
                  have hnc135 := NB112_141.out
                  have hnb136 := NB141_124.out
                  have hnc136 := NB124_141.out
                  have hnb137 := NB141_130.out
                  have hnc137 := NB130_141.out
                  have hnb138 := NB141_136.out
                  have hnc138 := NB136_141.out
                  obtain ⟨hcz139_0, hcz139_1, hcz139_2, hcz139_3⟩ := zcf4 BK141
                  obtain ⟨hfz139_0, hfz139_1, hfz139_2, hfz139_3⟩ := zff4 BK141
                  have hnb140 := NB130_107.out
                  have hnc140 := NB107_130.out
                  have hnb141 := NB130_112.out
                  have hnc141 := NB112_130.out
                  have hnb142 := NB130_124.out
                  have hnc142 := NB124_130.out
                  have hnb143 := NB130_136.out
                  have hnc143 := NB136_130.out
                  obtain ⟨hcz144_0, hcz144_1, hcz144_2, hcz144_3⟩ := zcf4 BK130
                  obtain ⟨hfz144_0, hfz144_1, hfz144_2, hfz144_3⟩ := zff4 BK130
                  go_wp2_with (first | (go_at_call 29; (with_reducible refine (impl_ChunkerOk.calls k4 t125 t126 t127 t128 true _ A131.out).mono ?_); rintro e w145 ⟨rfl, hb⟩; replace BK107 := bkb_ BK107 hb; replace BK112 := bkb_ BK112 hb; replace BK124 := bkb_ BK124 hb; replace BK130 := bkb_ BK130 hb; replace BK136 := bkb_ BK136 hb; replace BK141 := bkb_ BK141 hb; replace HB := Aside0.mk (below_step bh hb); (try clear hb); (try clear hb2); (try clear hk); (try clear hi)))
                  go_ret
                  exact ⟨er, bh⟩
                 ·
                  rw [if_neg c133] at H
                  have c133b0 : (t129 == (t123.size : Int)) = false := beq_eq_false_iff_ne.mpr c133
                  have c133b1 : (t129 != (t123.size : Int)) = true := bne_iff_ne.mpr c133
                  obtain rfl := Option.some.inj H
                  have hnb146 := NB141_107.out
                  have hnc146 := NB107_141.out
                  have hnb147 := NB141_112.out
                  have hnc147 := NB112_141.out
                  have hnb148 := NB141_124.out
                  have hnc148 := NB124_141.out
                  have hnb149 := NB141_130.out
                  have hnc149 := NB130_141.out
                  have hnb150 := NB141_136.out
                  have hnc150 := NB136_141.out
                  obtain ⟨hcz151_0, hcz151_1, hcz151_2, hcz151_3⟩ := zcf4 BK141
                  obtain ⟨hfz151_0, hfz151_1, hfz151_2, hfz151_3⟩ := zff4 BK141
                  have hnb152 := NB130_107.out
                  have hnc152 := NB107_130.out
                  have hnb153 := NB130_112.out
                  have hnc153 := NB112_130.out
                  have hnb154 := NB130_124.out
                  have hnc154 := NB124_130.out
                  have hnb155 := NB130_136.out
                  have hnc155 := NB136_130.out
                  obtain ⟨hcz156_0, hcz156_1, hcz156_2, hcz156_3⟩ := zcf4 BK130
                  obtain ⟨hfz156_0, hfz156_1, hfz156_2, hfz156_3⟩ := zff4 BK130
                  go_wp2_with (first | (go_at_call 29; (with_reducible refine (impl_ChunkerOk.calls k4 t125 t126 t127 t128 true _ A131.out).mono ?_); rintro e w157 ⟨rfl, hb⟩; replace BK107 := bkb_ BK107 hb; replace BK112 := bkb_ BK112 hb; replace BK124 := bkb_ BK124 hb; replace BK130 := bkb_ BK130 hb; replace BK136 := bkb_ BK136 hb; replace BK141 := bkb_ BK141 hb; replace HB := Aside0.mk (below_step bh hb); (try clear hb); (try clear hb2); (try clear hk); (try clear hi); obtain ⟨hcz158_0, hcz158_1, hcz158_2, hcz158_3⟩ := zcf4 BK130; obtain ⟨hfz158_0, hfz158_1, hfz158_2, hfz158_3⟩ := zff4 BK130))
                  go_ret
                  exact ⟨er, bh⟩
                ·
                 replace c132 := Bool.eq_false_iff.mpr c132
                 subst c132
                 have H1 : (some false) = some r := by rw [if_neg (show ¬ (false = true) by decide)] at H; exact H
                 clear H
                 have H := H1
                 clear H1
                 obtain rfl := Option.some.inj H
                 have hnb159 := NB141_107.out
                 have hnc159 := NB107_141.out
                 have hnb160 := NB141_112.out
                 have hnc160 := NB112_141.out
                 have hnb161 := NB141_124.out
                 have hnc161 := NB124_141.out
                 have hnb162 := NB141_130.out
                 have hnc162 := NB130_141.out
                 have hnb163 := NB141_136.out
                 have hnc163 := NB136_141.out
                 obtain ⟨hcz164_0, hcz164_1, hcz164_2, hcz164_3⟩ := zcf4 BK141
                 obtain ⟨hfz164_0, hfz164_1, hfz164_2, hfz164_3⟩ := zff4 BK141
                 have hnb165 := NB130_107.out
                 have hnc165 := NB107_130.out
                 have hnb166 := NB130_112.out
                 have hnc166 := NB112_130.out
                 have hnb167 := NB130_124.out
                 have hnc167 := NB124_130.out
                 have hnb168 := NB130_136.out
                 have hnc168 := NB136_130.out
                 obtain ⟨hcz169_0, hcz169_1, hcz169_2, hcz169_3⟩ := zcf4 BK130
                 obtain ⟨hfz169_0, hfz169_1, hfz169_2, hfz169_3⟩ := zff4 BK130
                 go_wp2_with (first | (go_at_call 29; (with_reducible refine (impl_ChunkerOk.calls k4 t125 t126 t127 t128 false _ A131.out).mono ?_); rintro e w170 ⟨rfl, hb⟩; replace BK107 := bkb_ BK107 hb; replace BK112 := bkb_ BK112 hb; replace BK124 := bkb_ BK124 hb; replace BK130 := bkb_ BK130 hb; replace BK136 := bkb_ BK136 hb; replace BK141 := bkb_ BK141 hb; replace HB := Aside0.mk (below_step bh hb); (try clear hb); (try clear hb2); (try clear hk); (try clear hi)))
                 go_ret
                 exact ⟨er, bh⟩
               ·
                rw [if_neg c130] at H
                have c130b0 : (x142000_4 == t125 && (x142001_4 == t126 && (x142002_4.toList == t127.toList && (x142003_4.toList == t128.toList)))) = false := by simpa using c130
                (try (have c130b1 : decide (x142000_4 = t125 && (x142001_4 == t126 && (x142002_4.toList == t127.toList && (x142003_4.toList == t128.toList)))) = false := by simpa using c130))
                (try (have c130b2 : (x142000_4 == t125 && (x142001_4 == t126 && (x142002_4.toList == t127.toList && (x142003_4.toList == t128.toList)))) = false := by simpa using c130))
                (try (have c130b3 : ¬ (x142000_4 = t125 && (x142001_4 == t126 && (x142002_4.toList == t127.toList && (x142003_4.toList == t128.toList)))) := by simpa using c130))
                clear c130
                obtain rfl := Option.some.inj H
                have hnb171 := NB141_107.out
                have hnc171 := NB107_141.out
                have hnb172 := NB141_112.out
                have hnc172 := NB112_141.out
                have hnb173 := NB141_124.out
                have hnc173 := NB124_141.out
                have hnb174 := NB141_130.out
                have hnc174 := NB130_141.out
                have hnb175 := NB141_136.out
                have hnc175 := NB136_141.out
                obtain ⟨hcz176_0, hcz176_1, hcz176_2, hcz176_3⟩ := zcf4 BK141
                obtain ⟨hfz176_0, hfz176_1, hfz176_2, hfz176_3⟩ := zff4 BK141
                have hnb177 := NB130_107.out
                have hnc177 := NB107_130.out
                have hnb178 := NB130_112.out
                have hnc178 := NB112_130.out
                have hnb179 := NB130_124.out
                have hnc179 := NB124_130.out
                have hnb180 := NB130_136.out
                have hnc180 := NB136_130.out
                obtain ⟨hcz181_0, hcz181_1, hcz181_2, hcz181_3⟩ := zcf4 BK130
                obtain ⟨hfz181_0, hfz181_1, hfz181_2, hfz181_3⟩ := zff4 BK130
                go_wp2
                go_ret
                exact ⟨er, bh⟩
        ·
         replace c71 := Bool.eq_false_iff.mpr c71
         subst c71
         rw [if_neg (show ¬ (false = true) by decide)] at H
         obtain rfl := Option.some.inj H
         have hnb182 := NB107_112.out
         have hnc182 := NB112_107.out
         have hnb183 := NB107_124.out
         have hnc183 := NB124_107.out
         have hnb184 := NB107_130.out
         have hnc184 := NB130_107.out
         have hnb185 := NB107_136.out
         have hnc185 := NB136_107.out
         obtain ⟨hcz186_0, hcz186_1, hcz186_2, hcz186_3⟩ := zcf4 BK107
         obtain ⟨hfz186_0, hfz186_1, hfz186_2, hfz186_3⟩ := zff4 BK107
         go_wp2_with (first | ((with_reducible refine gate_callee (f := 30) rfl ?_); refine goesL_ (some 62) rfl rfl Tryd.func30 (by kernel_rfl) rfl #[.agg #[.int .i64 t102, .int .i64 t103, .string t104, .string t105]] rfl mc ?_; (with_reducible refine (spec_ChunkerOk.calls kj29 t102 t103 t104 t105 false _ A70.out).mono ?_); rintro e w187 ⟨rfl, hb⟩; refine ⟨_, rfl, ?_⟩; replace BK107 := bkb_ BK107 hb; replace BK112 := bkb_ BK112 hb; replace BK124 := bkb_ BK124 hb; replace BK130 := bkb_ BK130 hb; replace BK136 := bkb_ BK136 hb; replace HB := Aside0.mk (below_step bh hb); (try clear hb); (try clear hb2); (try clear hk); (try clear hi); have hnb188 := NB112_124.out; have hnc188 := NB124_112.out; have hnb189 := NB112_130.out; have hnc189 := NB130_112.out; have hnb190 := NB112_136.out; have hnc190 := NB136_112.out; obtain ⟨hcz191_0, hcz191_1, hcz191_2, hcz191_3⟩ := zcf4 BK112; obtain ⟨hfz191_0, hfz191_1, hfz191_2, hfz191_3⟩ := zff4 BK112))
         go_ret
         exact ⟨er, bh⟩

/-- THE ONE PURE STATEMENT of laws_FnEaten: yours. -/
def laws_FnEaten.Pure : Prop := ∀ (l0 : List Int), l0.length ≤ maxLen → l0.length * 1 ≤ 140737488351232 → (∀ x ∈ l0, (Lit.int .u8 x).wf = true) → ∃ k, laws_FnEaten.f k l0 = some true
theorem laws_FnEaten.walk (P : laws_FnEaten.Pure) (a0 : Option Addr) (len0 cap0 : Nat) (z0 : List Int) (w : World) (w0 : (a0 = none ∧ len0 = 0 ∧ cap0 = 0 ∧ z0 = []) ∨ ∃ x, a0 = some x ∧ len0 ≤ cap0 ∧ cap0 ≤ maxLen ∧ z0.length = cap0 ∧ (∀ i, i < z0.length → w.cell? (x.add i) = some (.int .u8 (z0.getD i 0))) ∧ ∀ n ∈ z0, (Lit.int .u8 n).wf = true) (y0 : len0 * 1 ≤ 140737488351232) :
  Calls Tryd.prog 5 #[.slice a0 len0 cap0] w fun e w' => e = .returned (.bool true) ∧ Below w.heap.size w w' := by
 obtain ⟨l0, rfl, hr0, hm0, hw0, hc0⟩ := ReadsInt.ofRowC w0
 obtain ⟨k, h⟩ := P l0 hm0 y0 hw0
 refine (laws_FnEaten.calls k _ _ l0 true w (Kd.C_of_reads (d := (0 : Int)) (h1 := fun _ => rfl) hr0) hc0 h).mono ?_
 rintro e w' ⟨rfl, hd⟩
 exact ⟨rfl, hd⟩

end Go.Proofs.YtfbgpjhnjdhpcaaDoor.P
namespace Go.Proofs.YtfbgpjhnjdhpcaaDoor.Q
open Go.RowKit Go.Proofs.YtfbgpjhnjdhpcaaDoorW.PrintWords Go.Proofs.YtfbgpjhnjdhpcaaDoorW.PrintLast Go.Proofs.YtfbgpjhnjdhpcaaDoorW.PrintMore

theorem wrap_in {i : Int} (h0 : -9223372036854775808 ≤ i) (h1 : i ≤ 9223372036854775807) : wrap64 i = i := by unfold wrap64; omega
theorem wrap_next {i : Nat} {n : Nat} (h : i < n) (hn : n ≤ 4611686018427387904) : wrap64 ((i : Int) + 1) = ((i + 1 : Nat) : Int) := by unfold wrap64; omega

theorem toList_data (s : ByteArray) : s.toList = s.data.toList := ByteArray.toList_eq s
theorem eq_of_toList {a b : ByteArray} (h : a.toList = b.toList) : a = b := by
  rw [toList_data, toList_data] at h
  exact ByteArray.ext (Array.toList_inj.1 h)
theorem bt_get (s : ByteArray) (i : Nat) (h : i < s.size) : (bytesOf s)[i]? = some (bt s i) := by
  rw [← rd_bytesOf]
  have h1 : i < (bytesOf s).length := by rw [bytesOf_length]; exact h
  simp [rd, List.getD_eq_getElem?_getD, List.getElem?_eq_getElem h1]
theorem drop_bt (s : ByteArray) (i : Nat) (h : i < s.size) : (bytesOf s).drop i = bt s i :: (bytesOf s).drop (i + 1) := by
  have h1 : i < (bytesOf s).length := by rw [bytesOf_length]; exact h
  rw [List.drop_eq_getElem_cons h1]
  have := bt_get s i h
  rw [List.getElem?_eq_getElem h1] at this
  rw [Option.some.inj this]
theorem mem_bytes {s : ByteArray} {c : Int} (h : c ∈ bytesOf s) : 0 ≤ c ∧ c ≤ 255 := by
  unfold bytesOf at h
  obtain ⟨b, _, rfl⟩ := List.mem_map.1 h
  have := b.toNat_lt
  omega
theorem bytes_nums (l : List Int) (h : ∀ c ∈ l, 0 ≤ c ∧ c ≤ 255) : bytesOf (strOfNums l) = l := by
  unfold bytesOf
  rw [strOfNums_data, List.map_map]
  refine (List.map_congr_left fun c hc => ?_).trans (List.map_id l)
  have := h c hc
  simp only [Function.comp, UInt8.toNat_ofNat', id]
  omega
theorem nums_bytes (s : ByteArray) : strOfNums (bytesOf s) = s := by
  apply ByteArray.ext
  apply Array.toList_inj.1
  rw [strOfNums_data]
  unfold bytesOf
  rw [List.map_map]
  refine (List.map_congr_left fun c hc => ?_).trans (List.map_id _)
  simp
theorem bytes_inj {a b : ByteArray} (h : bytesOf a = bytesOf b) : a = b := by rw [← nums_bytes a, ← nums_bytes b, h]
theorem bytes_append (a b : ByteArray) : bytesOf (a ++ b) = bytesOf a ++ bytesOf b := by
  unfold bytesOf
  rw [← List.map_append]
  simp [ByteArray.data_append]

/-- A loop over bytes: what a round does with its state and a byte; an end ahead of time. -/
def runL {σ β : Type} (f : σ → Int → σ ⊕ β) (fin : σ → β) : List Int → σ → β
  | [], st => fin st
  | c :: cs, st => match f st c with
    | .inl st' => runL f fin cs st'
    | .inr b => b
/-- The printed loop comes to what 'runL' comes to, from some number of rounds on. -/
theorem ev_run {σ β : Type} (s : ByteArray) (I : σ → Nat → Prop) (f : σ → Int → σ ⊕ β) (fin : σ → β) (g : Nat → σ → Int → Option β) (K : Nat)
    (hstep : ∀ k st (i : Nat), K ≤ k → i < s.size → I st i → (∀ st', f st (bt s i) = .inl st' → g (k + 1) st i = g k st' ((i + 1 : Nat) : Int) ∧ I st' (i + 1)) ∧ (∀ b, f st (bt s i) = .inr b → g (k + 1) st i = some b))
    (hend : ∀ k st, K ≤ k → I st s.size → g (k + 1) st (s.size : Int) = some (fin st)) (st : σ) (h0 : I st 0) :
    Ev (fun k => g k st 0) (runL f fin (bytesOf s) st) := by
  have key : ∀ (d i : Nat) (st : σ), i + d = s.size → I st i → ∀ k, K + d < k → g k st (i : Int) = some (runL f fin ((bytesOf s).drop i) st) := by
    intro d
    induction d with
    | zero =>
      intro i st hd hI k hk
      obtain ⟨k, rfl⟩ : ∃ m, k = m + 1 := ⟨k - 1, by omega⟩
      have e : i = s.size := by omega
      subst e
      rw [hend k st (by omega) hI, List.drop_of_length_le (by rw [bytesOf_length]; exact Nat.le_refl _)]
      rfl
    | succ d ih =>
      intro i st hd hI k hk
      obtain ⟨k, rfl⟩ : ∃ m, k = m + 1 := ⟨k - 1, by omega⟩
      obtain ⟨h1, h2⟩ := hstep k st i (by omega) (by omega) hI
      rw [drop_bt s i (by omega)]
      show g (k + 1) st i = some (match f st (bt s i) with | .inl st' => runL f fin ((bytesOf s).drop (i + 1)) st' | .inr b => b)
      cases hf : f st (bt s i) with
      | inl st' =>
        obtain ⟨e, hI'⟩ := h1 st' hf
        rw [e]
        exact ih (i + 1) st' (by omega) hI' k (by omega)
      | inr b => exact h2 b hf
  refine ⟨K + s.size + 1, fun k hk => ?_⟩
  have := key s.size 0 st (by omega) h0 k (by omega)
  rw [List.drop_zero] at this
  exact this

/-- A loop that asks each byte. -/
theorem ev_all (s : ByteArray) (p : Int → Bool) (g : Nat → Int → Option Bool) (K : Nat)
    (h1 : ∀ k (i : Nat), K ≤ k → i < s.size → p (bt s i) = true → g (k + 1) i = g k ((i + 1 : Nat) : Int))
    (h0 : ∀ k (i : Nat), K ≤ k → i < s.size → p (bt s i) = false → g (k + 1) i = some false)
    (he : ∀ k, K ≤ k → g (k + 1) (s.size : Int) = some true) : Ev (fun k => g k 0) ((bytesOf s).all p) := by
  have h := ev_run (σ := Unit) (β := Bool) s (fun _ _ => True) (fun _ c => if p c = true then .inl () else .inr false) (fun _ => true) (fun k _ i => g k i) K
    (fun k st i hk hi _ => ⟨fun st' e => ⟨h1 k i hk hi (by
        by_cases hp : p (bt s i) = true
        · exact hp
        · rw [if_neg hp] at e; cases e), trivial⟩, fun b e => by
        by_cases hp : p (bt s i) = true
        · rw [if_pos hp] at e; cases e
        · rw [if_neg hp] at e
          obtain rfl : false = b := by injection e
          exact h0 k i hk hi (by simpa using hp)⟩)
    (fun k st hk _ => he k hk) () trivial
  have e : ∀ l : List Int, runL (σ := Unit) (β := Bool) (fun _ c => if p c = true then .inl () else .inr false) (fun _ => true) l () = l.all p := by
    intro l
    induction l with
    | nil => rfl
    | cons c cs ih =>
      rw [List.all_cons]
      unfold runL
      by_cases hp : p c = true
      · simp only [hp, if_true, Bool.true_and]; exact ih
      · simp only [(by simpa using hp : p c = false), Bool.false_and, Bool.false_eq_true, if_false]
  rw [e] at h
  exact h
theorem runL_all {β : Type} (p : Int → Bool) (r b : β) (l : List Int) : runL (σ := Unit) (fun _ c => if p c = true then .inl () else .inr b) (fun _ => r) l () = if l.all p = true then r else b := by
  induction l with
  | nil => rfl
  | cons c cs ih =>
    rw [List.all_cons]
    unfold runL
    by_cases hp : p c = true
    · simp only [hp, if_true, Bool.true_and]; exact ih
    · simp only [(by simpa using hp : p c = false), Bool.false_and, Bool.false_eq_true, if_false]
/-- A loop that asks each byte, and goes on behind it. -/
theorem ev_allr {β : Type} (s : ByteArray) (p : Int → Bool) (r b : β) (g : Nat → Int → Option β) (K : Nat)
    (h1 : ∀ k (i : Nat), K ≤ k → i < s.size → p (bt s i) = true → g (k + 1) i = g k ((i + 1 : Nat) : Int))
    (h0 : ∀ k (i : Nat), K ≤ k → i < s.size → p (bt s i) = false → g (k + 1) i = some b)
    (he : ∀ k, K ≤ k → g (k + 1) (s.size : Int) = some r) : Ev (fun k => g k 0) (if (bytesOf s).all p = true then r else b) := by
  rw [← runL_all p r b (bytesOf s)]
  refine ev_run (σ := Unit) s (fun _ _ => True) (fun _ c => if p c = true then .inl () else .inr b) (fun _ => r) (fun k _ i => g k i) K
    (fun k st i hk hi _ => ⟨fun st' e => ⟨h1 k i hk hi (by
        by_cases hp : p (bt s i) = true
        · exact hp
        · rw [if_neg hp] at e; cases e), trivial⟩, fun b' e => by
        by_cases hp : p (bt s i) = true
        · rw [if_pos hp] at e; cases e
        · rw [if_neg hp] at e
          obtain rfl : b = b' := by injection e
          exact h0 k i hk hi (by simpa using hp)⟩)
    (fun k st hk _ => he k hk) () trivial
/-- A loop that puts something behind a list for each byte. -/
theorem runL_flat {β : Type} (f : Int → List Int) (fin : List Int → β) (l st : List Int) : runL (fun st c => .inl (st ++ f c)) fin l st = fin (st ++ l.flatMap f) := by
  induction l generalizing st with
  | nil => simp [runL]
  | cons c cs ih =>
    unfold runL
    simp only [ih, List.flatMap_cons, List.append_assoc]
theorem ev_const {α : Type} {x : Option α} {r : α} (h : x = some r) : Ev (fun _ => x) r := ⟨0, fun _ _ => h⟩
theorem ev_eq {α : Type} {g : Nat → Option α} {r r' : α} (h : Ev g r) (e : r = r') : Ev g r' := e ▸ h
/-- From a number of rounds on: a law that holds at each such number. -/
theorem ev_now {α : Type} {g : Nat → Option α} {r : α} (K : Nat) (h : ∀ k, K ≤ k → g k = some r) : Ev g r := ⟨K, h⟩
theorem all_congr' {l : List Int} {p q : Int → Bool} (h : ∀ c ∈ l, p c = q c) : l.all p = l.all q := by
  induction l with
  | nil => rfl
  | cons a l ih =>
    rw [List.all_cons, List.all_cons, h a List.mem_cons_self, ih fun c hc => h c (List.mem_cons_of_mem _ hc)]
end Go.Proofs.YtfbgpjhnjdhpcaaDoor.Q
