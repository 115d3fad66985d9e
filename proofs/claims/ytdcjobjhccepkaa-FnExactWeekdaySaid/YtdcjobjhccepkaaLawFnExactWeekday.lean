/- The statement of FnExactWeekday, for every input: the row, out of the pure statement and the printed walk. No condition. -/
import Derived.Test.YtdcjobjhccepkaaRows
import Derived.Test.YtdcjobjhccepkaaPlawsFnExactWeekday
import Derived.Test.YtdcjobjhccepkaaPureFnExactWeekday
import Derived.Test.YtdcjobjhccepkaaRowAid
import Derived.WalkKit
import Derived.ProofKit
import Derived.OpenShut
import Derived.ShutString
import Derived.ChangeOld
import Derived.Below
import Derived.SizedLaws
import Derived.Carry
namespace Go.Proofs.Ytdcjobjhccepkaa.fnExactWeekday
open Go.ChangeShapes Go.WideShapes Go.ChangeAt Go.RowKit
open Go.ChangeMaps (open_string shut_string)
set_option linter.unusedVariables false
theorem own : ownKnob Try.prog.godebug = none := by kernel_rfl
theorem laidOut : laidOutB Try.prog = true := by kernel_rfl
theorem open_p0 {H : Type} {enc : TypeId × Value → H} {w : World} {base b0 : Nat} {spare : Nat → Bool} {held : Bool} {r : Reach} {v : Value} {d : DataW H} {p : List MemPlace} (hv : Value.okWide Try.prog w r b0 23 v) (h : DataW.Trod enc Try.prog w base spare held 23 v d p) :
    ∃ (a0_0 : Int) (a0_1 : Int) (a0_2 : Int) (a0_3 : Int) (a0_4 : Int) (a0_5 : Int), v = .agg #[.int .i64 a0_0, .int .i64 a0_1, .int .i64 a0_2, .int .i64 a0_3, .int .i64 a0_4, .int .i64 a0_5] ∧ (Lit.int .i64 a0_0).wf = true ∧ (Lit.int .i64 a0_1).wf = true ∧ (Lit.int .i64 a0_2).wf = true ∧ (Lit.int .i64 a0_3).wf = true ∧ (Lit.int .i64 a0_4).wf = true ∧ (Lit.int .i64 a0_5).wf = true := by
  obtain ⟨cs, rfl, hl, n, hf⟩ := RowAid.open_one Try.underlying23 (by kernel_rfl) (by kernel_rfl) hv h
  have hl' : cs.length = 6 := hl
  clear hl
  match cs, hl' with
  | [c0, c1, c2, c3, c4, c5], _ =>
    obtain ⟨_, h0⟩ := hf 0 _ c0 rfl rfl
    obtain ⟨x0, e0, _, w0⟩ := DataW.trod_int Try.underlying2 h0
    obtain rfl := (List.cons.inj e0).1
    obtain ⟨_, h1⟩ := hf 1 _ c1 rfl rfl
    obtain ⟨x1, e1, _, w1⟩ := DataW.trod_int Try.underlying2 h1
    obtain rfl := (List.cons.inj e1).1
    obtain ⟨_, h2⟩ := hf 2 _ c2 rfl rfl
    obtain ⟨x2, e2, _, w2⟩ := DataW.trod_int Try.underlying2 h2
    obtain rfl := (List.cons.inj e2).1
    obtain ⟨_, h3⟩ := hf 3 _ c3 rfl rfl
    obtain ⟨x3, e3, _, w3⟩ := DataW.trod_int Try.underlying2 h3
    obtain rfl := (List.cons.inj e3).1
    obtain ⟨_, h4⟩ := hf 4 _ c4 rfl rfl
    obtain ⟨x4, e4, _, w4⟩ := DataW.trod_int Try.underlying2 h4
    obtain rfl := (List.cons.inj e4).1
    obtain ⟨_, h5⟩ := hf 5 _ c5 rfl rfl
    obtain ⟨x5, e5, _, w5⟩ := DataW.trod_int Try.underlying2 h5
    obtain rfl := (List.cons.inj e5).1
    exact ⟨x0, x1, x2, x3, x4, x5, rfl, w0, w1, w2, w3, w4, w5⟩
set_option maxRecDepth 100000 in
theorem lifted (os : Os) (started : os.Started) (H : Type) (enc : TypeId × Value → H) :
    ReturnsInHanded {} Try.checked os 5 .any (Rows.fnExactWeekdaySpec.pre6 enc Try.prog Try.f5 Rows.fnExactWeekdayRow.domain false) (Rows.fnExactWeekdaySpec.post enc Try.prog Try.f5 false true false false) := by
  refine returnsInHanded_of_change_sized (C := Try.checked) own started (by kernel_rfl) Try.func5
    (ChangeSpec.witness6 (enc := enc) (C := Try.checked) false ⟨#[], #[.agg #[.int .i64 0, .int .i64 0, .int .i64 0, .int .i64 0, .int .i64 0, .int .i64 0]], []⟩ 8 (by kernel_rfl) (by kernel_rfl) (by kernel_rfl) (by kernel_rfl)) ?_
  intro W base args ds gs before hval0 hW hcnd hsz0 _
  have hsz : (DataW.weightsEach Try.prog (Try.f5.params.toList ++ Rows.fnExactWeekdaySpec.plain.varTypes Try.prog) (ds ++ gs)).all (· ≤ reachBytes) = true := hsz0
  have hval : ∀ (j : Nat) t v, Try.f5.params[j]? = some t → args[j]? = some v → Value.okWide Try.prog W .any base t v := hval0
  have hW' := hW
  obtain ⟨p, q, hA0, hV, rfl, hfz, hnd⟩ := hW
  have hA : DataW.TrodAll enc Try.prog W 0 (fun _ => true) true Try.f5.params.toList args.toList ds p := hA0
  rw [Try.params5] at hA hval hsz
  obtain ⟨v0, vs0, d0, ds0, p0, q0, hargs, rfl, rfl, h0, r0⟩ := trodAll_cons hA
  obtain ⟨rfl, rfl, rfl⟩ := trodAll_nil r0
  obtain rfl : args = #[v0] := by cases args; simp_all
  obtain ⟨rfl, rfl⟩ := trodVars_none hV
  have k0 := h0
  have lt0 : ∀ x ∈ p0, x.block < W.heap.size := by obtain ⟨m, hm⟩ := k0; exact DataW.trod_lt m _ _ _ hm
  obtain ⟨a0_0, a0_1, a0_2, a0_3, a0_4, a0_5, rfl, w0_0, w0_1, w0_2, w0_3, w0_4, w0_5⟩ := open_p0 (hval 0 23 v0 rfl rfl) h0
  clear hA0 hval0 hsz0 hsz
  refine (P.laws_FnExactWeekday.walk Pure.FnExactWeekday a0_0 a0_1 a0_2 a0_3 a0_4 a0_5 W w0_0 w0_1 w0_2 w0_3 w0_4 w0_5).mono fun e W' ⟨he, bel⟩ => ?_
  subst he
  exact ⟨_, rfl, _, _, _, [], _, [], hW', trodAll_mk1 (shut_bool Try.underlying4 _), (trodAll_cons_mk (Below.trod laidOut (by kernel_rfl) (of_decide_eq_true (by kernel_rfl)) k0 bel lt0) trodAll_mk0), rfl, bel.frame _, fun h => by cases h⟩
theorem over : Rows.fnExactWeekdayRow.holds Try.pinned (OpenSpec.ofChange Rows.fnExactWeekdaySpec) :=
  OpenClaim.holds_of_wide 5 Try.f5 rfl rfl rfl rfl rfl rfl rfl ⟨rfl, rfl, rfl, rfl, rfl⟩ rfl rfl rfl rfl rfl (by kernel_rfl) Try.func5 (by kernel_rfl)
    (of_decide_eq_true (by kernel_rfl)) (by unfold Func.isWrapper; first | (rw [if_pos (by decide +kernel)]; kernel_rfl) | (rw [if_neg (by decide +kernel)]; exact ⟨rfl, rfl⟩))
    (fun os started H enc _ => lifted os started H enc)
theorem proved : Rows.FnExactWeekdaySaid := over
#print axioms proved
end Go.Proofs.Ytdcjobjhccepkaa.fnExactWeekday
namespace Go.Proofs.Ytdcjobjhccepkaa
/-- The row, under a short name, for the claim. -/
theorem fnExactWeekday_holds : Rows.FnExactWeekdaySaid := fnExactWeekday.proved
end Go.Proofs.Ytdcjobjhccepkaa
