/- The statement of FnExactShowTag, for every input: the row, out of the pure statement and the printed walk. No condition. -/
import Derived.Test.YtfckiehbpgbpcaaRows
import Derived.Test.YtfckiehbpgbpcaaPlawsFnExactShowTag
import Derived.Test.YtfckiehbpgbpcaaPureFnExactShowTag
import Derived.Test.YtfckiehbpgbpcaaRowAid
import Derived.WalkKit
import Derived.ProofKit
import Derived.OpenShut
import Derived.ShutString
import Derived.ChangeOld
import Derived.Below
import Derived.SizedLaws
import Derived.Carry
namespace Go.Proofs.Ytfckiehbpgbpcaa.fnExactShowTag
open Go.ChangeShapes Go.WideShapes Go.ChangeAt Go.RowKit
open Go.ChangeMaps (open_string shut_string)
set_option linter.unusedVariables false
theorem own : ownKnob Try.prog.godebug = none := by kernel_rfl
theorem laidOut : laidOutB Try.prog = true := by kernel_rfl
theorem open_p0 {H : Type} {enc : TypeId × Value → H} {w : World} {base b0 : Nat} {spare : Nat → Bool} {held : Bool} {r : Reach} {v : Value} {d : DataW H} {p : List MemPlace} (hv : Value.okWide Try.prog w r b0 33 v) (h : DataW.Trod enc Try.prog w base spare held 33 v d p) :
    ∃ (a0_0 : Bool) (a0_1 : ByteArray), v = .agg #[.bool a0_0, .string a0_1] ∧ a0_1.size ≤ 9223372036854775807 := by
  obtain ⟨cs, rfl, hl, n, hf⟩ := RowAid.open_one Try.underlying33 (by kernel_rfl) (by kernel_rfl) hv h
  have hl' : cs.length = 2 := hl
  clear hl
  match cs, hl' with
  | [c0, c1], _ =>
    obtain ⟨_, h0⟩ := hf 0 _ c0 rfl rfl
    obtain ⟨x0, e0, _⟩ := DataW.trod_bool Try.underlying4 h0
    obtain rfl := (List.cons.inj e0).1
    obtain ⟨_, h1⟩ := hf 1 _ c1 rfl rfl
    obtain ⟨x1, e1, _, w1⟩ := DataW.trod_string Try.underlying9 h1
    obtain rfl := (List.cons.inj e1).1
    exact ⟨x0, x1, rfl, w1⟩
set_option maxRecDepth 100000 in
theorem lifted (os : Os) (started : os.Started) (H : Type) (enc : TypeId × Value → H) :
    ReturnsInHanded {} Try.checked os 13 .any (Rows.fnExactShowTagSpec.pre6 enc Try.prog Try.f13 Rows.fnExactShowTagRow.domain false) (Rows.fnExactShowTagSpec.post enc Try.prog Try.f13 false true false false) := by
  refine returnsInHanded_of_change_sized (C := Try.checked) own started (by kernel_rfl) Try.func13
    (ChangeSpec.witness6 (enc := enc) (C := Try.checked) false ⟨#[], #[.agg #[.bool false, .string ByteArray.empty]], []⟩ 8 (by kernel_rfl) (by kernel_rfl) (by kernel_rfl) (by kernel_rfl)) ?_
  intro W base args ds gs before hval0 hW hcnd hsz0 _
  have hsz : (DataW.weightsEach Try.prog (Try.f13.params.toList ++ Rows.fnExactShowTagSpec.plain.varTypes Try.prog) (ds ++ gs)).all (· ≤ reachBytes) = true := hsz0
  have hval : ∀ (j : Nat) t v, Try.f13.params[j]? = some t → args[j]? = some v → Value.okWide Try.prog W .any base t v := hval0
  have hW' := hW
  obtain ⟨p, q, hA0, hV, rfl, hfz, hnd⟩ := hW
  have hA : DataW.TrodAll enc Try.prog W 0 (fun _ => true) true Try.f13.params.toList args.toList ds p := hA0
  rw [Try.params13] at hA hval hsz
  obtain ⟨v0, vs0, d0, ds0, p0, q0, hargs, rfl, rfl, h0, r0⟩ := trodAll_cons hA
  obtain ⟨rfl, rfl, rfl⟩ := trodAll_nil r0
  obtain rfl : args = #[v0] := by cases args; simp_all
  obtain ⟨rfl, rfl⟩ := trodVars_none hV
  have k0 := h0
  have lt0 : ∀ x ∈ p0, x.block < W.heap.size := by obtain ⟨m, hm⟩ := k0; exact DataW.trod_lt m _ _ _ hm
  obtain ⟨a0_0, a0_1, rfl, w0_1⟩ := open_p0 (hval 0 33 v0 rfl rfl) h0
  clear hA0 hval0 hsz0 hsz
  refine (P.laws_FnExactShowTag.walk Pure.FnExactShowTag a0_0 a0_1 W w0_1).mono fun e W' ⟨he, bel⟩ => ?_
  subst he
  exact ⟨_, rfl, _, _, _, [], _, [], hW', trodAll_mk1 (shut_bool Try.underlying4 _), (trodAll_cons_mk (Below.trod laidOut (by kernel_rfl) (of_decide_eq_true (by kernel_rfl)) k0 bel lt0) trodAll_mk0), rfl, bel.frame _, fun h => by cases h⟩
theorem over : Rows.fnExactShowTagRow.holds Try.pinned (OpenSpec.ofChange Rows.fnExactShowTagSpec) :=
  OpenClaim.holds_of_wide 13 Try.f13 rfl rfl rfl rfl rfl rfl rfl ⟨rfl, rfl, rfl, rfl, rfl⟩ rfl rfl rfl rfl rfl (by kernel_rfl) Try.func13 (by kernel_rfl)
    (of_decide_eq_true (by kernel_rfl)) (by unfold Func.isWrapper; first | (rw [if_pos (by decide +kernel)]; kernel_rfl) | (rw [if_neg (by decide +kernel)]; exact ⟨rfl, rfl⟩))
    (fun os started H enc _ => lifted os started H enc)
theorem proved : Rows.FnExactShowTagSaid := over
#print axioms proved
end Go.Proofs.Ytfckiehbpgbpcaa.fnExactShowTag
namespace Go.Proofs.Ytfckiehbpgbpcaa
/-- The row, under a short name, for the claim. -/
theorem fnExactShowTag_holds : Rows.FnExactShowTagSaid := fnExactShowTag.proved
end Go.Proofs.Ytfckiehbpgbpcaa
