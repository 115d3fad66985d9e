/- Functions of the Go program as Lean functions, and proofs about them, merged out of this session's texts by its program bundle.py; conditions: those that each theorem states. -/
import Derived.Below
import Derived.ChangeOld
import Derived.Handed
import Derived.HandedShaped
import Derived.LaidMore
import Derived.Lay
import Derived.Lib.Bytealg
import Derived.Lib.ItoaNum
import Derived.Lib.LaidTab
import Derived.Lib.SplitLaws
import Derived.Lib.Strings
import Derived.MakeChecks
import Derived.OpenShut
import Derived.ProofKit
import Derived.SevenTiedAt
import Derived.Shelf.Vars
import Derived.ShutString
import Derived.SizedLaws
import Derived.Stop.Joined
import Derived.Test.YtonimccihcodnaaDoorCards
import Derived.Test.YtonimccihcodnaaDoorGJoin
import Derived.Test.YtonimccihcodnaaDoorGParseInt
import Derived.Test.YtonimccihcodnaaDoorGSplit
import Derived.Test.YtonimccihcodnaaDoorGall
import Derived.Test.YtonimccihcodnaaDoorGspecl3Plain
import Derived.Test.YtonimccihcodnaaDoorP0
import Derived.Test.YtonimccihcodnaaDoorPimplCoded
import Derived.Test.YtonimccihcodnaaDoorPimplDotless
import Derived.Test.YtonimccihcodnaaDoorPimplHexDigits
import Derived.Test.YtonimccihcodnaaDoorPimplNormalPath
import Derived.Test.YtonimccihcodnaaDoorPimplUncoded
import Derived.Test.YtonimccihcodnaaDoorPimplisDigit
import Derived.Test.YtonimccihcodnaaDoorPimplisHex
import Derived.Test.YtonimccihcodnaaDoorPimplisLetter
import Derived.Test.YtonimccihcodnaaDoorPimplisPath
import Derived.Test.YtonimccihcodnaaDoorPimplisPlain
import Derived.Test.YtonimccihcodnaaDoorPspecDotless
import Derived.Test.YtonimccihcodnaaDoorPspecHexDigits
import Derived.Test.YtonimccihcodnaaDoorPspecUncoded
import Derived.Test.YtonimccihcodnaaDoorPspecl1Hex
import Derived.Test.YtonimccihcodnaaDoorPspecl3Coded
import Derived.Test.YtonimccihcodnaaDoorPspecl3Path
import Derived.Test.YtonimccihcodnaaDoorPspecl3Split
import Derived.Test.YtonimccihcodnaaDoorPstringsHasPrefix
import Derived.Test.YtonimccihcodnaaDoorPstringsliteHasPrefix
import Derived.Test.YtonimccihcodnaaDoorRows
import Derived.Test.YtonimccihcodnaaDoorTie
import Derived.Test.YtonimccihcodnaaDoorXA
import Derived.Test.YtonimccihcodnaaDoorXW
import Derived.WalkKit
namespace Go.Proofs.YtonimccihcodnaaDoor.RowAid
open Go
variable {H : Type} {enc : TypeId × Value → H}
theorem handed_both {a : Assume} {C : Checked} {os : Os} {f : FuncId} {fn : Func} {s : ChangeSpec} {conds : List PathCond} {apart fresh handsOn again : Bool} {X : World → Array Value → Prop}
    (hX : ∀ (w w' : World) (args : Array Value), w.heap = w'.heap → X w args → X w' args)
    (own : ownKnob C.prog.godebug = none) (started : os.Started) (noInit : C.prog.inits.idxOf? f = none) (hfn : C.prog.funcs[f]? = some fn)
    (witness : ∃ (w : World) (tape : Tape) (i : Input), w.os = os ∧ (w.forCall tape i).Shaped C.prog ∧ i.vars = [] ∧ Input.okWide C.prog (w.forCall tape i) .any w.heap.size f i ∧
      ((s.pre enc C.prog fn conds apart (w.forCall tape i).memory i.args ∧ X (w.forCall tape i).memory i.args) ∧ sizedMet enc C.prog fn (OpenSpec.ofChange s) apart (w.forCall tape i).memory i.args) ∧ a.holds C.prog (lone (Frame.enter C.prog f i.args .normal) [] (w.forCall tape i)))
    (contract : ∀ (W : World) (base : Nat) (args : Array Value) (ds gs : List (DataW H)) (before : List MemPlace),
      (∀ (j : Nat) t v, fn.params[j]? = some t → args[j]? = some v → Value.okWide C.prog W .any base t v) →
      DataW.Whole enc C.prog fn.params.toList s.vars apart W args.toList ds gs before →
      conds.all (PathCond.test C.prog ⟨fn.params.toList, ds, s.plain.varTypes C.prog, gs⟩) = true →
      (DataW.weightsEach C.prog (fn.params.toList ++ s.plain.varTypes C.prog) (ds ++ gs)).all (· ≤ reachBytes) = true → X W args → W.ShapedOpen C.prog →
      a.holds C.prog (lone (Frame.enter C.prog f args .normal) [] W) →
      Calls C.prog f args W fun e W' => ∃ v, e = .returned v ∧ s.post enc C.prog fn apart fresh handsOn again W args v W') :
    ReturnsInHanded a C os f .any (fun w args => (s.pre enc C.prog fn conds apart w args ∧ X w args) ∧ sizedMet enc C.prog fn (OpenSpec.ofChange s) apart w args) (s.post enc C.prog fn apart fresh handsOn again) := by
  refine returnsInHanded_of_calls own started noInit witness ?_
  intro w tape i _ hsh _ hok hpre hholds
  obtain ⟨_, _, _, fn', hfn', _, _, _, _, hval⟩ := hok
  have e : fn' = fn := Option.some.inj (hfn'.symm.trans hfn)
  subst e
  obtain ⟨⟨⟨ds, gs, before, hw, hc⟩, hx⟩, hz⟩ := hpre
  have hw' := DataW.Whole.of_heap (w' := w.forCall tape i) (by rfl) hw
  refine (contract (w.forCall tape i) w.heap.size i.args ds gs before hval hw' hc (hz.weights hw) (hX _ _ _ (by rfl) hx) hsh hholds).mono fun e W' ⟨v, he, hp⟩ => ?_
  subst he
  exact ChangeSpec.post_blind hp
end Go.Proofs.YtonimccihcodnaaDoor.RowAid
namespace Go.Proofs.YtonimccihcodnaaDoor.RowAid
open Go

/-- What a list lays a variable with. -/
def laysAs (laid : List (String × DataW Unit)) (name : String) : Option (DataW Unit) :=
  match laid with
  | [] => none
  | x :: r => if x.1 = name then some x.2 else laysAs r name
theorem tabIs_mem {P : Program} {W : World} {name : String} {k : IntKind} {zs : List Int} {g : Nat} {t e : TypeId} {n : Nat}
    (hg : P.globalNamed name = some g) (hty : (P.globals[g]?).map (·.type) = some t) (ht : P.underlying t = some (.array n e)) (he : P.underlying e = some (.int k)) (hce : P.cellsOf e = 1) (hct : P.cellsOf t = n) :
    ∀ (laid : List (String × DataW Unit)) (ps : List MemPlace), DataW.LaidVars P W laid ps → laysAs laid name = some (Lib.tabData k zs) → Lib.TabIs P W name k zs := by
  intro laid
  induction laid with
  | nil => intro ps _ h; cases h
  | cons x r ih =>
    intro ps hl hm
    obtain ⟨nm, d⟩ := x
    obtain ⟨g', t', cs, fuel, p, q, hg', ht', hvar, hd, hr, _⟩ := hl
    unfold laysAs at hm
    by_cases hn : nm = name
    · subst hn
      rw [if_pos rfl] at hm
      obtain rfl : d = Lib.tabData k zs := Option.some.inj hm
      obtain rfl := Option.some.inj (hg.symm.trans hg')
      obtain rfl := Option.some.inj (hty.symm.trans ht')
      unfold Lib.TabIs
      rw [hvar, ← Lib.cells_of_tab ht he hce hct hd]
    · rw [if_neg hn] at hm
      exact ih q hr hm
theorem xw_of {m : Nat} {W : World} (hS : W.ShapedOpen Tryd.prog) (laid : List (String × DataW Unit)) (hL : laidMetH Tryd.prog laid W) (hp : (laid.all fun x => x.2.handleName?.isNone) = true)
    (h10 : m / 2 % 2 = 1 → laysAs laid "internal/strconv.uint64pow10" = some (Lib.tabData .u64 Lib.pow10Tab)) (htz : m / 4 % 2 = 1 → laysAs laid "math/bits.deBruijn64tab" = some (Lib.tabData .u8 P.deBruijn64Tab)) : P.XW m W := by
  rw [MakeChecks.laidMetH_plain _ _ _ hp] at hL
  obtain ⟨ps, hv, _⟩ := hL
  unfold P.XW
  refine ⟨fun _ => cell_of_shapedOpen_int (zero := #[.int .i64 0]) (t := 3) hS (of_decide_eq_true (by kernel_rfl)) (by kernel_rfl) rfl (by kernel_rfl) (by kernel_rfl) Tryd.underlying3, ?_⟩
  refine ⟨fun h => tabIs_mem (g := 3) (n := 20) (by kernel_rfl) rfl (by kernel_rfl) Tryd.underlying100 (by kernel_rfl) (by kernel_rfl) laid ps hv (h10 h), ?_⟩
  refine ⟨fun h => tabIs_mem (g := 7) (n := 64) (by kernel_rfl) rfl (by kernel_rfl) Tryd.underlying5 (by kernel_rfl) (by kernel_rfl) laid ps hv (htz h), ?_⟩
  trivial
end Go.Proofs.YtonimccihcodnaaDoor.RowAid
namespace Go.Proofs.YtonimccihcodnaaDoor.P
open Go.RowKit Go.Proofs.YtonimccihcodnaaDoorW.PrintWords Go.Proofs.YtonimccihcodnaaDoorW.PrintLast Go.Proofs.YtonimccihcodnaaDoorW.PrintMore
attribute [local go_sem] max2_int min2_int max_two min_two max_three min_three max_four min_four   -- for this text's walks alone
set_option linter.unusedVariables false
set_option linter.unusedSimpArgs false

/-! ### spec_NormalPath: function 10 -/
def spec_NormalPath.j0 : Nat → ByteArray → Bool → Option (ByteArray × Bool)
 | 0, _, _ => none
 | k + 1, x4, x18 => if x18 = true then (some ((⟨#[]⟩ : ByteArray), false)) else ((spec_l3Coded.f k x4).bind fun t104 => ((spec_l3Path.f t104).bind fun t105 => (if t105 = true then ((spec_Dotless.f k t104).bind fun t106 => (some (t106, true))) else (some ((⟨#[]⟩ : ByteArray), false)))))
def spec_NormalPath.f (k : Nat) (a0 : ByteArray) : Option (ByteArray × Bool) := (spec_Uncoded.f k a0).bind fun bt101 => (if bt101.2 = true then ((spec_l3Path.f a0).bind fun t103 => (spec_NormalPath.j0 k bt101.1 (!t103))) else (spec_NormalPath.j0 k bt101.1 true))
theorem spec_NormalPath.mono_l : ∀ k, (∀ y0 y1, LeO (spec_NormalPath.j0 k y0 y1) (spec_NormalPath.j0 (k + 1) y0 y1))
 | 0 => fun _ _ r h => by simp [spec_NormalPath.j0] at h
 | k + 1 => by
  have ih0 := spec_NormalPath.mono_l k
  ·
   intro y0 y1
   unfold spec_NormalPath.j0
   repeat' first
   | (with_reducible exact ih0 _ _)
   | (with_reducible exact spec_Dotless.mono _ _)
   | (with_reducible exact spec_Uncoded.mono _ _)
   | (with_reducible exact spec_l3Coded.mono _ _)
   | (with_reducible exact LeO.refl _)
   | (with_reducible exact LeO.none _)
   | (with_reducible refine LeO.ite ?_ ?_)
   | (with_reducible refine LeO.bind ?_ (fun _ => ?_))
   | exact ih0 _ _
   | exact spec_Dotless.mono _ _
   | exact spec_Uncoded.mono _ _
   | exact spec_l3Coded.mono _ _
   | exact LeO.none _
   | refine LeO.ite ?_ ?_
   | refine LeO.bind ?_ (fun _ => ?_)
theorem spec_NormalPath.mono : ∀ a0 k, LeO (spec_NormalPath.f k a0) (spec_NormalPath.f (k + 1) a0) := by
 intro a0 k
 have ih0 := spec_NormalPath.mono_l k
 unfold spec_NormalPath.f
 repeat' first
   | (with_reducible exact ih0 _ _)
   | (with_reducible exact spec_Dotless.mono _ _)
   | (with_reducible exact spec_Uncoded.mono _ _)
   | (with_reducible exact spec_l3Coded.mono _ _)
   | (with_reducible exact LeO.refl _)
   | (with_reducible exact LeO.none _)
   | (with_reducible refine LeO.ite ?_ ?_)
   | (with_reducible refine LeO.bind ?_ (fun _ => ?_))
   | exact ih0 _ _
   | exact spec_Dotless.mono _ _
   | exact spec_Uncoded.mono _ _
   | exact spec_l3Coded.mono _ _
   | exact LeO.none _
   | refine LeO.ite ?_ ?_
   | refine LeO.bind ?_ (fun _ => ?_)
set_option maxHeartbeats 8000000 in
set_option maxRecDepth 100000 in
theorem spec_NormalPath.calls (k : Nat) (a0 : ByteArray) (r1 : ByteArray) (r2 : Bool) (w : World) (h : spec_NormalPath.f k a0 = some (r1, r2)) :
  Calls Tryd.prog 10 #[.string a0] w fun e w' => e = .returned (.tuple #[.string r1, .bool r2]) ∧ Below w.heap.size w w' := by
 have HB := Aside0.mk (Below.refl w.heap.size w)
 have H : ((spec_Uncoded.f k a0).bind fun bt101 => (if bt101.2 = true then ((spec_l3Path.f a0).bind fun t103 => (spec_NormalPath.j0 k bt101.1 (!t103))) else (spec_NormalPath.j0 k bt101.1 true))) = some (r1, r2) := h
 clear h
 obtain ⟨⟨t101, t102⟩, A20, H⟩ := Option.bind_eq_some_iff.mp H
 try dsimp only at H
 have A2 := Aside0.mk A20
 clear A20
 have HC3 := Aside0.mk H
 clear H
 go_enter Tryd.func10, Tryd.ntmps10
 go_upto_region 2 with (first | ((with_reducible refine gate_callee (f := 21) rfl ?_); refine goesL_ (some 9) rfl rfl Tryd.func21 (by kernel_rfl) rfl #[.string a0] rfl mc ?_; (with_reducible refine (spec_Uncoded.calls k a0 t101 t102 _ A2.out).mono ?_); rintro e w4 ⟨rfl, hb⟩; refine ⟨_, rfl, ?_⟩; replace HB := Aside0.mk (below_step bh hb); (try clear hb); (try clear hb2); (try clear hk); (try clear hi)))
 (try simp only [Act.put, List.setIfInBounds_toArray, List.set_cons_zero, List.set_cons_succ])
 go_cut [18] (fun v18 wc => ∃ (kq : Nat) (x18_2 : Bool), v18 = .bool x18_2 ∧ Aside0 (spec_NormalPath.j0 kq t101 x18_2 = some (r1, r2)) ∧ Aside0 (kq ≤ k) ∧ Aside0 (Below w.heap.size w wc))
 case first =>
  have H := HC3.out
  clear HC3
  by_cases c5 : t102 = true
  ·
   subst c5
   rw [if_pos rfl] at H
   replace H := Option.bind_eq_some_iff.mp H
   obtain ⟨t103, A60, H⟩ := H
   replace H : (spec_NormalPath.j0 k t101 (!t103)) = some (r1, r2) := H
   have A6 := Aside0.mk A60
   clear A60
   have H' := Aside0.mk H
   clear H
   go_wp2_with (first | (go_at_call 30; (with_reducible refine (spec_l3Path.calls a0 t103 _ A6.out).mono ?_); rintro e w' ⟨rfl, ⟨nd, rfl⟩⟩))
   go_meet
   case rel => exact ⟨_, (!t103), (by first | rfl | (simp; done) | (simp [*]; done)), H', ⟨by first | omega | exact Nat.le_refl _⟩, ⟨bh⟩⟩
  ·
   replace c5 := Bool.eq_false_iff.mpr c5
   subst c5
   have H1 : (spec_NormalPath.j0 k t101 true) = some (r1, r2) := by rw [if_neg (show ¬ (false = true) by decide)] at H; exact H
   clear H
   have H := H1
   clear H1
   have H' := Aside0.mk H
   clear H
   go_wp2
   go_meet
   case rel => exact ⟨_, (true), (by first | rfl | (simp; done) | (simp [*]; done)), H', ⟨by first | omega | exact Nat.le_refl _⟩, ⟨bh⟩⟩
 case rest =>
  clear HC3
  try clear c1
  try clear c2
  try clear p2
  try clear c5
  obtain ⟨kq, x18_2, rfl, HA, HJ2, HB⟩ := hcut
  cases kq with
  | zero => exact absurd HA.out (by simp [spec_NormalPath.j0])
  | succ kj2 =>
   have H := HA.out
   clear HA
   simp only [spec_NormalPath.j0] at H
   by_cases c7 : x18_2 = true
   ·
    subst c7
    have H1 : (some ((⟨#[]⟩ : ByteArray), false)) = some (r1, r2) := by rw [if_pos rfl] at H; exact H
    clear H
    have H := H1
    clear H1
    simp only [Option.some.injEq, Prod.mk.injEq] at H
    obtain ⟨rfl, rfl⟩ := H
    go_wp2
    go_ret2
    exact ⟨er, bh⟩
   ·
    replace c7 := Bool.eq_false_iff.mpr c7
    subst c7
    rw [if_neg (show ¬ (false = true) by decide)] at H
    obtain ⟨t104, A80, H⟩ := Option.bind_eq_some_iff.mp H
    try dsimp only at H
    have A8 := Aside0.mk A80
    clear A80
    obtain ⟨t105, A90, H⟩ := Option.bind_eq_some_iff.mp H
    try dsimp only at H
    have A9 := Aside0.mk A90
    clear A90
    by_cases c10 : t105 = true
    ·
     subst c10
     rw [if_pos rfl] at H
     replace H := Option.bind_eq_some_iff.mp H
     obtain ⟨t106, A110, H⟩ := H
     replace H : (some (t106, true)) = some (r1, r2) := H
     have A11 := Aside0.mk A110
     clear A110
     simp only [Option.some.injEq, Prod.mk.injEq] at H
     obtain ⟨rfl, rfl⟩ := H
     go_wp2_with (first | ((with_reducible refine gate_callee (f := 35) rfl ?_); refine goesL_ (some 20) rfl rfl Tryd.func35 (by kernel_rfl) rfl #[.string t101] rfl mc ?_; (with_reducible refine (spec_l3Coded.calls kj2 t101 t104 _ A8.out).mono ?_); rintro e w12 ⟨rfl, hb⟩; refine ⟨_, rfl, ?_⟩; replace HB := Aside0.mk (below_step bh hb); (try clear hb); (try clear hb2); (try clear hk); (try clear hi)) | ((with_reducible refine gate_callee (f := 30) rfl ?_); refine goesL_ (some 22) rfl rfl Tryd.func30 (by kernel_rfl) rfl #[.string t104] rfl mc ?_; (with_reducible refine (spec_l3Path.calls t104 true _ A9.out).mono ?_); rintro e w' ⟨rfl, ⟨nd, rfl⟩⟩; refine ⟨_, rfl, ?_⟩) | ((with_reducible refine gate_callee (f := 8) rfl ?_); refine goesL_ (some 25) rfl rfl Tryd.func8 (by kernel_rfl) rfl #[.string t104] rfl mc ?_; (with_reducible refine (spec_Dotless.calls kj2 t104 t106 _ A11.out).mono ?_); rintro e w13 ⟨rfl, hb⟩; refine ⟨_, rfl, ?_⟩; replace HB := Aside0.mk (below_step bh hb); (try clear hb); (try clear hb2); (try clear hk); (try clear hi)))
     go_ret2
     exact ⟨er, bh⟩
    ·
     replace c10 := Bool.eq_false_iff.mpr c10
     subst c10
     have H1 : (some ((⟨#[]⟩ : ByteArray), false)) = some (r1, r2) := by rw [if_neg (show ¬ (false = true) by decide)] at H; exact H
     clear H
     have H := H1
     clear H1
     simp only [Option.some.injEq, Prod.mk.injEq] at H
     obtain ⟨rfl, rfl⟩ := H
     go_wp2_with (first | ((with_reducible refine gate_callee (f := 35) rfl ?_); refine goesL_ (some 20) rfl rfl Tryd.func35 (by kernel_rfl) rfl #[.string t101] rfl mc ?_; (with_reducible refine (spec_l3Coded.calls kj2 t101 t104 _ A8.out).mono ?_); rintro e w14 ⟨rfl, hb⟩; refine ⟨_, rfl, ?_⟩; replace HB := Aside0.mk (below_step bh hb); (try clear hb); (try clear hb2); (try clear hk); (try clear hi)) | ((with_reducible refine gate_callee (f := 30) rfl ?_); refine goesL_ (some 22) rfl rfl Tryd.func30 (by kernel_rfl) rfl #[.string t104] rfl mc ?_; (with_reducible refine (spec_l3Path.calls t104 false _ A9.out).mono ?_); rintro e w' ⟨rfl, ⟨nd, rfl⟩⟩; refine ⟨_, rfl, ?_⟩))
     go_ret2
     exact ⟨er, bh⟩
/-! ### laws_FnExactNormalPath: function 4 -/
def laws_FnExactNormalPath.f (k : Nat) (a0 : ByteArray) : Option (Bool) := if (a0.size : Int) > 1048576 then (some true) else ((spec_NormalPath.f k a0).bind fun bt101 => ((impl_NormalPath.f k a0).bind fun bt103 => (if bt103.1.toList = bt101.1.toList then (if (bt103.2 != bt101.2) = true then (some false) else (some true)) else (some false))))
theorem laws_FnExactNormalPath.mono : ∀ a0 k, LeO (laws_FnExactNormalPath.f k a0) (laws_FnExactNormalPath.f (k + 1) a0) := by
 intro a0 k
 unfold laws_FnExactNormalPath.f
 repeat' first
   | (with_reducible exact impl_NormalPath.mono _ _)
   | (with_reducible exact spec_NormalPath.mono _ _)
   | (with_reducible exact LeO.refl _)
   | (with_reducible exact LeO.none _)
   | (with_reducible refine LeO.ite ?_ ?_)
   | (with_reducible refine LeO.bind ?_ (fun _ => ?_))
   | exact impl_NormalPath.mono _ _
   | exact spec_NormalPath.mono _ _
   | exact LeO.none _
   | refine LeO.ite ?_ ?_
   | refine LeO.bind ?_ (fun _ => ?_)
set_option maxHeartbeats 8000000 in
set_option maxRecDepth 100000 in
theorem laws_FnExactNormalPath.calls (k : Nat) (a0 : ByteArray) (r : Bool) (w : World) (hX : XW 1 w) (h : laws_FnExactNormalPath.f k a0 = some r) :
  Calls Tryd.prog 4 #[.string a0] w fun e w' => e = .returned (.bool r) ∧ Below w.heap.size w w' := by
 have HB := Aside0.mk (Below.refl w.heap.size w)
 have H : (if (a0.size : Int) > 1048576 then (some true) else ((spec_NormalPath.f k a0).bind fun bt101 => ((impl_NormalPath.f k a0).bind fun bt103 => (if bt103.1.toList = bt101.1.toList then (if (bt103.2 != bt101.2) = true then (some false) else (some true)) else (some false))))) = some r := h
 clear h
 by_cases c2 : (a0.size : Int) > 1048576
 ·
  rw [if_pos c2] at H
  have c2b0 : decide (1048576 < (a0.size : Int)) = true := decide_eq_true c2
  have c2b1 : decide (1048576 < a0.size) = true := decide_eq_true (by omega)
  clear c2
  obtain rfl := Option.some.inj H
  go_enter Tryd.func4, Tryd.ntmps4
  go_wp2
  go_ret
  exact ⟨er, bh⟩
 ·
  rw [if_neg c2] at H
  have c2b0 : decide (1048576 < (a0.size : Int)) = false := decide_eq_false c2
  have c2b1 : decide (1048576 < a0.size) = false := decide_eq_false (by omega)
  clear c2
  obtain ⟨⟨t101, t102⟩, A30, H⟩ := Option.bind_eq_some_iff.mp H
  try dsimp only at H
  have A3 := Aside0.mk A30
  clear A30
  obtain ⟨⟨t103, t104⟩, A40, H⟩ := Option.bind_eq_some_iff.mp H
  try dsimp only at H
  have A4 := Aside0.mk A40
  clear A40
  by_cases c5 : t103.toList = t101.toList
  ·
   rw [if_pos c5] at H
   have c5b0 : (t103.toList == t101.toList) = true := beq_iff_eq.mpr c5
   have c5b1 : (t103.toList != t101.toList) = false := bne_eq_false_iff_eq.mpr c5
   clear c5
   by_cases c6 : (t104 != t102) = true
   ·
    rw [if_pos c6] at H
    have c6b0 : (t104 != t102) = true := c6
    (try (have c6b1 : decide (t104 = t102) = false := by simpa using c6))
    (try (have c6b2 : (t104 == t102) = false := by simpa using c6))
    (try (have c6b3 : ¬ (t104 = t102) := by simpa using c6))
    clear c6
    obtain rfl := Option.some.inj H
    go_enter Tryd.func4, Tryd.ntmps4
    go_wp2_with (first | ((with_reducible refine gate_callee (f := 10) rfl ?_); refine goesL_ (some 12) rfl rfl Tryd.func10 (by kernel_rfl) rfl #[.string a0] rfl mc ?_; (with_reducible refine (spec_NormalPath.calls k a0 t101 t102 _ A3.out).mono ?_); rintro e w7 ⟨rfl, hb⟩; refine ⟨_, rfl, ?_⟩; replace HB := Aside0.mk (below_step bh hb); (try clear hb); (try clear hb2); (try clear hk); (try clear hi)) | ((with_reducible refine gate_callee (f := 11) rfl ?_); refine goesL_ (some 17) rfl rfl Tryd.func11 (by kernel_rfl) rfl #[.string a0] rfl mc ?_; (with_reducible refine (impl_NormalPath.calls k a0 t103 t104 _ ?side1 A4.out).mono ?_); (case side1 => exact XW.to (XW.stays hX bh) (by decide)); rintro e w8 ⟨rfl, hb⟩; refine ⟨_, rfl, ?_⟩; replace HB := Aside0.mk (below_step bh hb); (try clear hb); (try clear hb2); (try clear hk); (try clear hi)))
    go_ret
    exact ⟨er, bh⟩
   ·
    rw [if_neg c6] at H
    have c6b0 : (t104 != t102) = false := by simpa using c6
    (try (have c6b1 : decide (t104 = t102) = true := by simpa using c6))
    (try (have c6b2 : (t104 == t102) = true := by simpa using c6))
    clear c6
    obtain rfl := Option.some.inj H
    go_enter Tryd.func4, Tryd.ntmps4
    go_wp2_with (first | ((with_reducible refine gate_callee (f := 10) rfl ?_); refine goesL_ (some 12) rfl rfl Tryd.func10 (by kernel_rfl) rfl #[.string a0] rfl mc ?_; (with_reducible refine (spec_NormalPath.calls k a0 t101 t102 _ A3.out).mono ?_); rintro e w9 ⟨rfl, hb⟩; refine ⟨_, rfl, ?_⟩; replace HB := Aside0.mk (below_step bh hb); (try clear hb); (try clear hb2); (try clear hk); (try clear hi)) | ((with_reducible refine gate_callee (f := 11) rfl ?_); refine goesL_ (some 17) rfl rfl Tryd.func11 (by kernel_rfl) rfl #[.string a0] rfl mc ?_; (with_reducible refine (impl_NormalPath.calls k a0 t103 t104 _ ?side1 A4.out).mono ?_); (case side1 => exact XW.to (XW.stays hX bh) (by decide)); rintro e w10 ⟨rfl, hb⟩; refine ⟨_, rfl, ?_⟩; replace HB := Aside0.mk (below_step bh hb); (try clear hb); (try clear hb2); (try clear hk); (try clear hi)))
    go_ret
    exact ⟨er, bh⟩
  ·
   rw [if_neg c5] at H
   have c5b0 : (t103.toList == t101.toList) = false := beq_eq_false_iff_ne.mpr c5
   have c5b1 : (t103.toList != t101.toList) = true := bne_iff_ne.mpr c5
   obtain rfl := Option.some.inj H
   go_enter Tryd.func4, Tryd.ntmps4
   go_wp2_with (first | ((with_reducible refine gate_callee (f := 10) rfl ?_); refine goesL_ (some 12) rfl rfl Tryd.func10 (by kernel_rfl) rfl #[.string a0] rfl mc ?_; (with_reducible refine (spec_NormalPath.calls k a0 t101 t102 _ A3.out).mono ?_); rintro e w11 ⟨rfl, hb⟩; refine ⟨_, rfl, ?_⟩; replace HB := Aside0.mk (below_step bh hb); (try clear hb); (try clear hb2); (try clear hk); (try clear hi)) | ((with_reducible refine gate_callee (f := 11) rfl ?_); refine goesL_ (some 17) rfl rfl Tryd.func11 (by kernel_rfl) rfl #[.string a0] rfl mc ?_; (with_reducible refine (impl_NormalPath.calls k a0 t103 t104 _ ?side1 A4.out).mono ?_); (case side1 => exact XW.to (XW.stays hX bh) (by decide)); rintro e w12 ⟨rfl, hb⟩; refine ⟨_, rfl, ?_⟩; replace HB := Aside0.mk (below_step bh hb); (try clear hb); (try clear hb2); (try clear hk); (try clear hi)))
   go_ret
   exact ⟨er, bh⟩

/-- THE ONE PURE STATEMENT of laws_FnExactNormalPath: yours. -/
def laws_FnExactNormalPath.Pure : Prop := ∀ (a0 : ByteArray), a0.size ≤ 140737488351232 → ∃ k, laws_FnExactNormalPath.f k a0 = some true
theorem laws_FnExactNormalPath.walk (P : laws_FnExactNormalPath.Pure) (a0 : ByteArray) (w : World) (hX : XW 1 w) (w0 : a0.size ≤ 140737488351232) :
  Calls Tryd.prog 4 #[.string a0] w fun e w' => e = .returned (.bool true) ∧ Below w.heap.size w w' := by
 obtain ⟨k, h⟩ := P a0 w0
 refine (laws_FnExactNormalPath.calls k a0 true w hX h).mono ?_
 rintro e w' ⟨rfl, hd⟩
 exact ⟨rfl, hd⟩
/-! ### spec_Coded: function 22 -/
def spec_Coded.f (k : Nat) (a0 : ByteArray) : Option (ByteArray) := if (a0.size : Int) > 200 then (some (⟨#[]⟩ : ByteArray)) else ((spec_l3Coded.f k a0).bind fun t101 => (some t101))
theorem spec_Coded.mono : ∀ a0 k, LeO (spec_Coded.f k a0) (spec_Coded.f (k + 1) a0) := by
 intro a0 k
 unfold spec_Coded.f
 repeat' first
   | (with_reducible exact spec_l3Coded.mono _ _)
   | (with_reducible exact LeO.refl _)
   | (with_reducible exact LeO.none _)
   | (with_reducible refine LeO.ite ?_ ?_)
   | (with_reducible refine LeO.bind ?_ (fun _ => ?_))
   | exact spec_l3Coded.mono _ _
   | exact LeO.none _
   | refine LeO.ite ?_ ?_
   | refine LeO.bind ?_ (fun _ => ?_)
set_option maxHeartbeats 8000000 in
set_option maxRecDepth 100000 in
theorem spec_Coded.calls (k : Nat) (a0 : ByteArray) (r : ByteArray) (w : World) (h : spec_Coded.f k a0 = some r) :
  Calls Tryd.prog 22 #[.string a0] w fun e w' => e = .returned (.string r) ∧ Below w.heap.size w w' := by
 have HB := Aside0.mk (Below.refl w.heap.size w)
 have H : (if (a0.size : Int) > 200 then (some (⟨#[]⟩ : ByteArray)) else ((spec_l3Coded.f k a0).bind fun t101 => (some t101))) = some r := h
 clear h
 by_cases c2 : (a0.size : Int) > 200
 ·
  rw [if_pos c2] at H
  have c2b0 : decide (200 < (a0.size : Int)) = true := decide_eq_true c2
  have c2b1 : decide (200 < a0.size) = true := decide_eq_true (by omega)
  clear c2
  obtain rfl := Option.some.inj H
  go_enter Tryd.func22, Tryd.ntmps22
  go_wp2
  go_ret
  exact ⟨er, bh⟩
 ·
  rw [if_neg c2] at H
  have c2b0 : decide (200 < (a0.size : Int)) = false := decide_eq_false c2
  have c2b1 : decide (200 < a0.size) = false := decide_eq_false (by omega)
  clear c2
  replace H := Option.bind_eq_some_iff.mp H
  obtain ⟨t101, A30, H⟩ := H
  replace H : (some t101) = some r := H
  have A3 := Aside0.mk A30
  clear A30
  obtain rfl := Option.some.inj H
  go_enter Tryd.func22, Tryd.ntmps22
  go_wp2_with (first | ((with_reducible refine gate_callee (f := 35) rfl ?_); refine goesL_ (some 7) rfl rfl Tryd.func35 (by kernel_rfl) rfl #[.string a0] rfl mc ?_; (with_reducible refine (spec_l3Coded.calls k a0 t101 _ A3.out).mono ?_); rintro e w4 ⟨rfl, hb⟩; refine ⟨_, rfl, ?_⟩; replace HB := Aside0.mk (below_step bh hb); (try clear hb); (try clear hb2); (try clear hk); (try clear hi)))
  go_ret
  exact ⟨er, bh⟩
end Go.Proofs.YtonimccihcodnaaDoor.P
namespace Go.Proofs.YtonimccihcodnaaDoor.Q
open Go.RowKit Go.Proofs.YtonimccihcodnaaDoorW.PrintWords Go.Proofs.YtonimccihcodnaaDoorW.PrintLast Go.Proofs.YtonimccihcodnaaDoorW.PrintMore

theorem wrap_in {i : Int} (h0 : -9223372036854775808 ≤ i) (h1 : i ≤ 9223372036854775807) : wrap64 i = i := by unfold wrap64; omega
theorem wrap_next {i : Nat} {n : Nat} (h : i < n) (hn : n ≤ 4611686018427387904) : wrap64 ((i : Int) + 1) = ((i + 1 : Nat) : Int) := by unfold wrap64; omega

theorem toList_data (s : ByteArray) : s.toList = s.data.toList := ByteArray.toList_eq s
theorem eq_of_toList {a b : ByteArray} (h : a.toList = b.toList) : a = b := by
  rw [toList_data, toList_data] at h
  exact ByteArray.ext (Array.toList_inj.1 h)
theorem bt_get (s : ByteArray) (i : Nat) (h : i < s.size) : (bytesOf s)[i]? = some (bt s i) := by
  rw [← rd_bytesOf]
  have h1 : i < (bytesOf s).length := by rw [bytesOf_length]; exact h
  simp [rd, List.getD_eq_getElem?_getD, List.getElem?_eq_getElem h1]
theorem drop_bt (s : ByteArray) (i : Nat) (h : i < s.size) : (bytesOf s).drop i = bt s i :: (bytesOf s).drop (i + 1) := by
  have h1 : i < (bytesOf s).length := by rw [bytesOf_length]; exact h
  rw [List.drop_eq_getElem_cons h1]
  have := bt_get s i h
  rw [List.getElem?_eq_getElem h1] at this
  rw [Option.some.inj this]
theorem mem_bytes {s : ByteArray} {c : Int} (h : c ∈ bytesOf s) : 0 ≤ c ∧ c ≤ 255 := by
  unfold bytesOf at h
  obtain ⟨b, _, rfl⟩ := List.mem_map.1 h
  have := b.toNat_lt
  omega
theorem bytes_nums (l : List Int) (h : ∀ c ∈ l, 0 ≤ c ∧ c ≤ 255) : bytesOf (strOfNums l) = l := by
  unfold bytesOf
  rw [strOfNums_data, List.map_map]
  refine (List.map_congr_left fun c hc => ?_).trans (List.map_id l)
  have := h c hc
  simp only [Function.comp, UInt8.toNat_ofNat', id]
  omega
theorem nums_bytes (s : ByteArray) : strOfNums (bytesOf s) = s := by
  apply ByteArray.ext
  apply Array.toList_inj.1
  rw [strOfNums_data]
  unfold bytesOf
  rw [List.map_map]
  refine (List.map_congr_left fun c hc => ?_).trans (List.map_id _)
  simp
theorem bytes_inj {a b : ByteArray} (h : bytesOf a = bytesOf b) : a = b := by rw [← nums_bytes a, ← nums_bytes b, h]
theorem bytes_append (a b : ByteArray) : bytesOf (a ++ b) = bytesOf a ++ bytesOf b := by
  unfold bytesOf
  rw [← List.map_append]
  simp [ByteArray.data_append]

/-- A loop over bytes: what a round does with its state and a byte; an end ahead of time. -/
def runL {σ β : Type} (f : σ → Int → σ ⊕ β) (fin : σ → β) : List Int → σ → β
  | [], st => fin st
  | c :: cs, st => match f st c with
    | .inl st' => runL f fin cs st'
    | .inr b => b
/-- The printed loop comes to what 'runL' comes to, from some number of rounds on. -/
theorem ev_run {σ β : Type} (s : ByteArray) (I : σ → Nat → Prop) (f : σ → Int → σ ⊕ β) (fin : σ → β) (g : Nat → σ → Int → Option β) (K : Nat)
    (hstep : ∀ k st (i : Nat), K ≤ k → i < s.size → I st i → (∀ st', f st (bt s i) = .inl st' → g (k + 1) st i = g k st' ((i + 1 : Nat) : Int) ∧ I st' (i + 1)) ∧ (∀ b, f st (bt s i) = .inr b → g (k + 1) st i = some b))
    (hend : ∀ k st, K ≤ k → I st s.size → g (k + 1) st (s.size : Int) = some (fin st)) (st : σ) (h0 : I st 0) :
    Ev (fun k => g k st 0) (runL f fin (bytesOf s) st) := by
  have key : ∀ (d i : Nat) (st : σ), i + d = s.size → I st i → ∀ k, K + d < k → g k st (i : Int) = some (runL f fin ((bytesOf s).drop i) st) := by
    intro d
    induction d with
    | zero =>
      intro i st hd hI k hk
      obtain ⟨k, rfl⟩ : ∃ m, k = m + 1 := ⟨k - 1, by omega⟩
      have e : i = s.size := by omega
      subst e
      rw [hend k st (by omega) hI, List.drop_of_length_le (by rw [bytesOf_length]; exact Nat.le_refl _)]
      rfl
    | succ d ih =>
      intro i st hd hI k hk
      obtain ⟨k, rfl⟩ : ∃ m, k = m + 1 := ⟨k - 1, by omega⟩
      obtain ⟨h1, h2⟩ := hstep k st i (by omega) (by omega) hI
      rw [drop_bt s i (by omega)]
      show g (k + 1) st i = some (match f st (bt s i) with | .inl st' => runL f fin ((bytesOf s).drop (i + 1)) st' | .inr b => b)
      cases hf : f st (bt s i) with
      | inl st' =>
        obtain ⟨e, hI'⟩ := h1 st' hf
        rw [e]
        exact ih (i + 1) st' (by omega) hI' k (by omega)
      | inr b => exact h2 b hf
  refine ⟨K + s.size + 1, fun k hk => ?_⟩
  have := key s.size 0 st (by omega) h0 k (by omega)
  rw [List.drop_zero] at this
  exact this

/-- A loop that asks each byte. -/
theorem ev_all (s : ByteArray) (p : Int → Bool) (g : Nat → Int → Option Bool) (K : Nat)
    (h1 : ∀ k (i : Nat), K ≤ k → i < s.size → p (bt s i) = true → g (k + 1) i = g k ((i + 1 : Nat) : Int))
    (h0 : ∀ k (i : Nat), K ≤ k → i < s.size → p (bt s i) = false → g (k + 1) i = some false)
    (he : ∀ k, K ≤ k → g (k + 1) (s.size : Int) = some true) : Ev (fun k => g k 0) ((bytesOf s).all p) := by
  have h := ev_run (σ := Unit) (β := Bool) s (fun _ _ => True) (fun _ c => if p c = true then .inl () else .inr false) (fun _ => true) (fun k _ i => g k i) K
    (fun k st i hk hi _ => ⟨fun st' e => ⟨h1 k i hk hi (by
        by_cases hp : p (bt s i) = true
        · exact hp
        · rw [if_neg hp] at e; cases e), trivial⟩, fun b e => by
        by_cases hp : p (bt s i) = true
        · rw [if_pos hp] at e; cases e
        · rw [if_neg hp] at e
          obtain rfl : false = b := by injection e
          exact h0 k i hk hi (by simpa using hp)⟩)
    (fun k st hk _ => he k hk) () trivial
  have e : ∀ l : List Int, runL (σ := Unit) (β := Bool) (fun _ c => if p c = true then .inl () else .inr false) (fun _ => true) l () = l.all p := by
    intro l
    induction l with
    | nil => rfl
    | cons c cs ih =>
      rw [List.all_cons]
      unfold runL
      by_cases hp : p c = true
      · simp only [hp, if_true, Bool.true_and]; exact ih
      · simp only [(by simpa using hp : p c = false), Bool.false_and, Bool.false_eq_true, if_false]
  rw [e] at h
  exact h
theorem runL_all {β : Type} (p : Int → Bool) (r b : β) (l : List Int) : runL (σ := Unit) (fun _ c => if p c = true then .inl () else .inr b) (fun _ => r) l () = if l.all p = true then r else b := by
  induction l with
  | nil => rfl
  | cons c cs ih =>
    rw [List.all_cons]
    unfold runL
    by_cases hp : p c = true
    · simp only [hp, if_true, Bool.true_and]; exact ih
    · simp only [(by simpa using hp : p c = false), Bool.false_and, Bool.false_eq_true, if_false]
/-- A loop that asks each byte, and goes on behind it. -/
theorem ev_allr {β : Type} (s : ByteArray) (p : Int → Bool) (r b : β) (g : Nat → Int → Option β) (K : Nat)
    (h1 : ∀ k (i : Nat), K ≤ k → i < s.size → p (bt s i) = true → g (k + 1) i = g k ((i + 1 : Nat) : Int))
    (h0 : ∀ k (i : Nat), K ≤ k → i < s.size → p (bt s i) = false → g (k + 1) i = some b)
    (he : ∀ k, K ≤ k → g (k + 1) (s.size : Int) = some r) : Ev (fun k => g k 0) (if (bytesOf s).all p = true then r else b) := by
  rw [← runL_all p r b (bytesOf s)]
  refine ev_run (σ := Unit) s (fun _ _ => True) (fun _ c => if p c = true then .inl () else .inr b) (fun _ => r) (fun k _ i => g k i) K
    (fun k st i hk hi _ => ⟨fun st' e => ⟨h1 k i hk hi (by
        by_cases hp : p (bt s i) = true
        · exact hp
        · rw [if_neg hp] at e; cases e), trivial⟩, fun b' e => by
        by_cases hp : p (bt s i) = true
        · rw [if_pos hp] at e; cases e
        · rw [if_neg hp] at e
          obtain rfl : b = b' := by injection e
          exact h0 k i hk hi (by simpa using hp)⟩)
    (fun k st hk _ => he k hk) () trivial
/-- A loop that puts something behind a list for each byte. -/
theorem runL_flat {β : Type} (f : Int → List Int) (fin : List Int → β) (l st : List Int) : runL (fun st c => .inl (st ++ f c)) fin l st = fin (st ++ l.flatMap f) := by
  induction l generalizing st with
  | nil => simp [runL]
  | cons c cs ih =>
    unfold runL
    simp only [ih, List.flatMap_cons, List.append_assoc]
theorem ev_const {α : Type} {x : Option α} {r : α} (h : x = some r) : Ev (fun _ => x) r := ⟨0, fun _ _ => h⟩
theorem ev_eq {α : Type} {g : Nat → Option α} {r r' : α} (h : Ev g r) (e : r = r') : Ev g r' := e ▸ h
/-- From a number of rounds on: a law that holds at each such number. -/
theorem ev_now {α : Type} {g : Nat → Option α} {r : α} (K : Nat) (h : ∀ k, K ≤ k → g k = some r) : Ev g r := ⟨K, h⟩
theorem all_congr' {l : List Int} {p q : Int → Bool} (h : ∀ c ∈ l, p c = q c) : l.all p = l.all q := by
  induction l with
  | nil => rfl
  | cons a l ih =>
    rw [List.all_cons, List.all_cons, h a List.mem_cons_self, ih fun c hc => h c (List.mem_cons_of_mem _ hc)]
end Go.Proofs.YtonimccihcodnaaDoor.Q
namespace Go.Proofs.YtonimccihcodnaaDoor.Q
set_option linter.unusedVariables false
set_option linter.unusedSimpArgs false
open Go.RowKit Go.Proofs.YtonimccihcodnaaDoor.P Go.Proofs.YtonimccihcodnaaDoorW.PrintWords Go.Proofs.YtonimccihcodnaaDoorW.PrintLast Go.Proofs.YtonimccihcodnaaDoorW.PrintMore

def visB (c : Int) : Bool := decide (32 ≤ c) && decide (c ≤ 126) || decide (c = 9)
def digB (c : Int) : Bool := decide (48 ≤ c) && decide (c ≤ 57)
def letB (c : Int) : Bool := decide (97 ≤ c) && decide (c ≤ 122) || decide (65 ≤ c) && decide (c ≤ 90)
def hexB (c : Int) : Bool := digB c || decide (97 ≤ c) && decide (c ≤ 102) || decide (65 ≤ c) && decide (c ≤ 70)
def tagB (c : Int) : Bool := decide (33 ≤ c) && decide (c ≤ 126) && decide (c ≠ 34)
def tokB (c : Int) : Bool := letB c || digB c || decide (c ∈ [33, 35, 36, 37, 38, 39, 42, 43, 45, 46, 94, 95, 124, 126, 96])
def plaB (c : Int) : Bool := letB c || digB c || decide (c ∈ [45, 46, 95, 126, 47, 58, 64, 33, 36, 38, 39, 40, 41, 42, 43, 44, 59, 61])

theorem impl_isDigit_is (c : Int) : impl_isDigit.f c = some (digB c) := by
  unfold impl_isDigit.f digB
  by_cases h1 : c ≥ 48 <;> simp [h1] <;> omega
theorem impl_isLetter_is (c : Int) : impl_isLetter.f c = some (letB c) := by
  unfold impl_isLetter.f letB
  by_cases h1 : c ≥ 97 <;> by_cases h2 : c ≤ 122 <;> by_cases h3 : c ≥ 65 <;> by_cases h4 : c ≤ 90 <;> simp [h1, h2, h3, h4] <;> omega
theorem impl_isHex_is (c : Int) : impl_isHex.f c = some (hexB c) := by
  unfold impl_isHex.f hexB
  rw [impl_isDigit_is]
  cases h0 : digB c <;> by_cases h1 : c ≥ 97 <;> by_cases h2 : c ≤ 102 <;> by_cases h3 : c ≥ 65 <;> by_cases h4 : c ≤ 70 <;> simp [h1, h2, h3, h4] <;> omega

/-- A law on bytes, tried at each. -/
theorem byte_cases {p : Int → Prop} (h : ∀ n : Fin 256, p (n.val : Int)) (c : Int) (h0 : 0 ≤ c) (h1 : c ≤ 255) : p c := by
  have := h ⟨c.toNat, by omega⟩
  rwa [show ((⟨c.toNat, by omega⟩ : Fin 256).val : Int) = c from by show (c.toNat : Int) = c; omega] at this
theorem impl_isPlain_is (c : Int) (h0 : 0 ≤ c) (h1 : c ≤ 255) : impl_isPlain.f c = some (plaB c) :=
  byte_cases (p := fun c => impl_isPlain.f c = some (plaB c)) (by decide +kernel) c h0 h1
theorem spec_l3Plain_is (c : Int) (h0 : 0 ≤ c) (h1 : c ≤ 255) : spec_l3Plain.f c = some (plaB c) :=
  byte_cases (p := fun c => spec_l3Plain.f c = some (plaB c)) (by decide +kernel) c h0 h1
/-- A hexadecimal digit's value, or -1. -/
def hexV (c : Int) : Int := if digB c = true then c - 48 else if 97 ≤ c ∧ c ≤ 102 then c - 87 else if 65 ≤ c ∧ c ≤ 70 then c - 55 else -1
theorem hexV_neg (c : Int) : decide (hexV c < 0) = !hexB c := by
  unfold hexV hexB
  cases h0 : digB c
  · by_cases h1 : 97 ≤ c ∧ c ≤ 102
    · simp [h1]; omega
    · by_cases h2 : 65 ≤ c ∧ c ≤ 70
      · have h1' : (decide (97 ≤ c) && decide (c ≤ 102)) = false := by simp; omega
        simp [h1, h1', h2]; omega
      · have h1' : (decide (97 ≤ c) && decide (c ≤ 102)) = false := by simp; omega
        have h2' : (decide (65 ≤ c) && decide (c ≤ 70)) = false := by simp; omega
        simp [h1, h1', h2, h2']
  · unfold digB at h0
    simp at h0
    simp
    omega
theorem spec_l1Hex_is (c : Int) (h0 : 0 ≤ c) (h1 : c ≤ 255) (k : Nat) (hk : 2 ≤ k) : spec_l1Hex.f k c = some (hexV c) :=
  at_rounds (fun k => spec_l1Hex.mono c k) hk (byte_cases (p := fun c => spec_l1Hex.f 2 c = some (hexV c)) (by decide +kernel) c h0 h1)
/-- 'all' over a predicate. -/
theorem all_hex (s : ByteArray) (hs : s.size ≤ 9223372036854775807) : impl_all.f s 69 = some ((bytesOf s).all hexB) := by
  unfold impl_all.f
  rw [if_pos hs]
  simp only [Nat.reduceEqDiff, if_true, if_false, reduceIte]
  rw [all_congr' fun c hc => (by rw [impl_isHex_is]; cases hexB c <;> rfl : (impl_isHex.f c == some true) = hexB c)]
theorem all_dig (s : ByteArray) (hs : s.size ≤ 9223372036854775807) : impl_all.f s 66 = some ((bytesOf s).all digB) := by
  unfold impl_all.f
  rw [if_pos hs]
  simp only [Nat.reduceEqDiff, if_true, if_false, reduceIte]
  rw [all_congr' fun c hc => (by rw [impl_isDigit_is]; cases digB c <;> rfl : (impl_isDigit.f c == some true) = digB c)]
/-- A digit of sixteen. -/
def capV (c : Int) : Int := bt (⟨#[48, 49, 50, 51, 52, 53, 54, 55, 56, 57, 65, 66, 67, 68, 69, 70]⟩ : ByteArray) c
/-- What a byte is coded as. -/
def codeB (c : Int) : List Int := if plaB c = true then [c] else [37, capV (Int.tdiv c 16 % 256), capV (Int.tmod c 16)]
theorem codeB_length (c : Int) : (codeB c).length ≤ 3 := by unfold codeB; split <;> simp
theorem code_div (c : Int) (h0 : 0 ≤ c) (h1 : c ≤ 255) : 0 ≤ Int.tdiv c 16 % 256 ∧ Int.tdiv c 16 % 256 < 16 ∧ 0 ≤ Int.tmod c 16 ∧ Int.tmod c 16 < 16 := by
  rw [Int.tdiv_eq_ediv_of_nonneg h0, Int.tmod_eq_emod_of_nonneg h0]
  omega
def coded (s : ByteArray) : ByteArray := if s.size ≤ 200 then strOfNums ((bytesOf s).flatMap codeB) else ⟨#[]⟩
theorem spec_l3Coded_ev (s : ByteArray) (hs : s.size ≤ 1048576) : Ev (fun k => spec_l3Coded.f k s) (strOfNums ((bytesOf s).flatMap codeB)) := by
  unfold spec_l3Coded.f
  have h := ev_run (σ := List Int) (β := ByteArray) s (fun st i => st.length ≤ 3 * i) (fun st c => .inl (st ++ codeB c)) strOfNums (fun k st i => spec_l3Coded.l0 k s st i) 0
    (fun k st i _ hi hI => ⟨fun st' e => by
      obtain rfl := Sum.inl.inj e
      have hr := bt_range s i
      have hd := code_div (bt s i) hr.1 hr.2
      have hl := codeB_length (bt s i)
      refine ⟨?_, by rw [List.length_append]; omega⟩
      simp only [spec_l3Coded.l0]
      rw [if_pos (by omega), if_pos (by omega), spec_l3Plain_is _ hr.1 hr.2]
      simp only [Option.bind_some]
      unfold codeB
      by_cases hp : plaB (bt s i) = true
      · rw [if_pos hp, if_pos hp, if_pos (by omega), wrap_next hi (by omega)]
      · rw [if_neg hp, if_neg hp, if_pos hd.1, if_pos hd.2.1, if_pos hd.2.2.1, if_pos hd.2.2.2, if_pos (by simp only [List.length_cons, List.length_nil]; omega), wrap_next hi (by omega)]
        rfl, fun b e => by cases e⟩)
    (fun k st _ hI => by simp only [spec_l3Coded.l0]; rw [if_neg (by omega)]) [] (Nat.le_refl _)
  rw [runL_flat, List.nil_append] at h
  exact h
theorem spec_Coded_ev (s : ByteArray) (hs : s.size ≤ 1048576) : Ev (fun k => spec_Coded.f k s) (coded s) := by
  unfold spec_Coded.f coded
  by_cases h : (s.size : Int) > 200
  · simp only [if_pos h]
    rw [if_neg (by omega)]
    exact Ev.now _
  · simp only [if_neg h]
    rw [if_pos (by omega)]
    exact Ev.bind (spec_l3Coded_ev s hs) (Ev.now _)
theorem impl_Coded_ev (s : ByteArray) (hs : s.size ≤ 1048576) : Ev (fun k => impl_Coded.f k s) (coded s) := by
  unfold impl_Coded.f coded
  by_cases h : (s.size : Int) > 200
  · simp only [if_pos h]
    rw [if_neg (by omega)]
    exact Ev.now _
  · simp only [if_neg h]
    rw [if_pos (by omega)]
    have h := ev_run (σ := List Int) (β := ByteArray) s (fun st i => st.length ≤ 3 * i) (fun st c => .inl (st ++ codeB c)) strOfNums (fun k st i => impl_Coded.l0 k s st (s.size : Int) i) 0
      (fun k st i _ hi hI => ⟨fun st' e => by
        obtain rfl := Sum.inl.inj e
        have hr := bt_range s i
        have hd := code_div (bt s i) hr.1 hr.2
        have hl := codeB_length (bt s i)
        refine ⟨?_, by rw [List.length_append]; omega⟩
        simp only [impl_Coded.l0]
        rw [if_pos (by omega), if_pos (by omega), if_pos (by omega), impl_isPlain_is _ hr.1 hr.2]
        simp only [Option.bind_some]
        unfold codeB
        by_cases hp : plaB (bt s i) = true
        · rw [if_pos hp, if_pos hp, if_pos (by omega), wrap_next hi (by omega)]
        · rw [if_neg hp, if_neg hp, if_pos hd.1, if_pos hd.2.1, if_pos hd.2.2.1, if_pos hd.2.2.2, if_pos (by simp only [List.length_cons, List.length_nil]; omega), wrap_next hi (by omega)]
          rfl, fun b e => by cases e⟩)
      (fun k st _ hI => by simp only [impl_Coded.l0]; rw [if_neg (by omega)]) [] (Nat.le_refl _)
    rw [runL_flat, List.nil_append] at h
    exact h
theorem bytes_extract (s : ByteArray) (a b : Nat) : bytesOf (s.extract a b) = ((bytesOf s).drop a).take (b - a) := by
  unfold bytesOf
  rw [Lib.extract_data, List.map_take, List.map_drop]
theorem bytes_last (s : ByteArray) (h : 0 < s.size) : bytesOf s = bytesOf (s.extract 0 (s.size - 1)) ++ [bt s ((s.size - 1 : Nat) : Int)] := by
  rw [bytes_extract, List.drop_zero, Nat.sub_zero]
  have h1 := drop_bt s (s.size - 1) (by omega)
  have h2 : (bytesOf s).drop (s.size - 1 + 1) = [] := List.drop_of_length_le (by rw [bytesOf_length]; omega)
  rw [h2] at h1
  rw [← h1, List.take_append_drop]
theorem bytes_first (s : ByteArray) (h : 0 < s.size) : bytesOf s = bt s 0 :: bytesOf (s.extract 1 s.size) := by
  rw [bytes_extract]
  have h1 := drop_bt s 0 h
  rw [List.drop_zero] at h1
  rw [List.take_of_length_le (by rw [List.length_drop, bytesOf_length]; exact Nat.le_refl _)]
  exact h1
theorem size_extract (s : ByteArray) (a b : Nat) (hb : b ≤ s.size) : (s.extract a b).size = b - a := by
  rw [← bytesOf_length, bytes_extract, List.length_take, List.length_drop, bytesOf_length]
  omega
theorem toList_nil (s : ByteArray) : s.toList = [] ↔ s.size = 0 := by
  rw [toList_data, ← data_length]
  exact List.length_eq_zero_iff.symm
theorem bytes_nil (s : ByteArray) (h : s.size = 0) : bytesOf s = [] := List.eq_nil_of_length_eq_zero (by rw [bytesOf_length]; exact h)
theorem bytes_ofList (l : List UInt8) : bytesOf ⟨l.toArray⟩ = l.map fun b => (b.toNat : Int) := by
  unfold bytesOf
  rfl
theorem bytes_two (s : ByteArray) (i : Nat) (h : i + 2 ≤ s.size) : bytesOf (s.extract i (i + 2)) = [bt s (i : Int), bt s ((i + 1 : Nat) : Int)] := by
  rw [bytes_extract, drop_bt s i (by omega), drop_bt s (i + 1) (by omega), show i + 2 - i = 2 from by omega]
  rfl
def ofL (l : List UInt8) : ByteArray := ⟨l.toArray⟩
theorem ofL_append (a b : List UInt8) : ofL a ++ ofL b = ofL (a ++ b) := by
  apply ByteArray.ext
  apply Array.toList_inj.1
  simp [ofL, ByteArray.data_append]
theorem ofL_size (l : List UInt8) : (ofL l).size = l.length := by
  show l.toArray.size = l.length
  simp
theorem ofL_toList (l : List UInt8) : (ofL l).toList = l := by
  rw [toList_data]
  rfl
theorem ofL_data (s : ByteArray) : ofL s.data.toList = s := by
  apply ByteArray.ext
  apply Array.toList_inj.1
  rfl
theorem strOf_one (c : Int) : strOfNums [c] = ofL [UInt8.ofNat c.toNat] := by
  apply ByteArray.ext
  apply Array.toList_inj.1
  rw [strOfNums_data]
  rfl
/-- A number's decimal numeral. -/
def decT (n : Int) : ByteArray := ofL (Lib.itoa n)
theorem decT_size (n : Int) (h0 : 0 ≤ n) (h1 : n ≤ 9000000000000000000) : (decT n).size ≤ 19 := by
  unfold decT
  rw [ofL_size]
  unfold Lib.itoa
  rw [if_neg (by omega), Lib.decDigits_length]
  have key : ∀ (d u : Nat), u < 10 ^ (d + 1) → Lib.nDigits u ≤ d + 1 := by
    intro d
    induction d with
    | zero => intro u hu; rw [Lib.nDigits_small (by simpa using hu)]; omega
    | succ d ih =>
      intro u hu
      by_cases h : u < 10
      · rw [Lib.nDigits_small h]; omega
      · rw [Lib.nDigits_big h]
        have := ih (u / 10) (by rw [Nat.pow_succ] at hu; omega)
        omega
  exact key 18 n.toNat (by omega)
/-- A piece ahead of the first piece. -/
def glue (p : List UInt8) : List (List UInt8) → List (List UInt8)
  | [] => [p]
  | q :: qs => (p ++ q) :: qs
/-- The pieces between the bytes c. -/
def spl (c : UInt8) : List UInt8 → List (List UInt8)
  | [] => [[]]
  | b :: l => if b = c then [] :: spl c l else glue [b] (spl c l)
theorem glue_ne (p : List UInt8) (l : List (List UInt8)) : glue p l ≠ [] := by cases l <;> simp [glue]
theorem spl_ne (c : UInt8) (l : List UInt8) : spl c l ≠ [] := by
  cases l with
  | nil => simp [spl]
  | cons b l => unfold spl; split; simp; exact glue_ne _ _
theorem glue_nil (l : List (List UInt8)) (h : l ≠ []) : glue [] l = l := by cases l; exact absurd rfl h; rfl
theorem glue_glue (p q : List UInt8) (l : List (List UInt8)) (h : l ≠ []) : glue p (glue q l) = glue (p ++ q) l := by
  cases l with
  | nil => exact absurd rfl h
  | cons a l => simp [glue]
theorem splitK_spl (c : UInt8) (l : List UInt8) : Lib.splitK [c] 0 (Lib.count l [c]) l = spl c l := by
  induction l with
  | nil => rw [Lib.count_miss (by simp [Lib.index])]; rfl
  | cons b l ih =>
    unfold spl
    by_cases h : b = c
    · subst h
      have hix : Lib.index (b :: l) [b] = 0 := by rw [Lib.index]; simp [List.isPrefixOf]
      rw [if_pos rfl, Lib.count_cons_eq, Nat.add_comm, Lib.splitK, if_neg (by rw [hix]; decide), hix, ← ih]
      rfl
    · rw [if_neg h, Lib.count_cons_ne b c l h, ← ih]
      have hp : ([c] : List UInt8).isPrefixOf (b :: l) = false := by simp [List.isPrefixOf, Ne.symm h]
      have hix : Lib.index (b :: l) [c] = if Lib.index l [c] == -1 then -1 else Lib.index l [c] + 1 := by rw [Lib.index, hp]; simp
      cases hk : Lib.count l [c] with
      | zero => rfl
      | succ k =>
        have hm : Lib.index l [c] ≠ -1 := fun e => by rw [Lib.count_miss e] at hk; cases hk
        have hge := Lib.index_ge l [c]
        obtain ⟨j, hj⟩ : ∃ j : Nat, Lib.index l [c] = j := ⟨(Lib.index l [c]).toNat, by omega⟩
        have hb : (Lib.index l [c] == -1) = false := by simpa using hm
        rw [hb] at hix
        simp only [Bool.false_eq_true, if_false] at hix
        rw [Lib.splitK, Lib.splitK, if_neg (show ¬ (Lib.index (b :: l) [c] == -1) = true by rw [hix, hj]; simp; omega), if_neg (show ¬ (Lib.index l [c] == -1) = true by rw [hb]; decide), hix, hj]
        rw [show ((j : Int) + 1).toNat = j + 1 by omega, Int.toNat_natCast]
        rfl
theorem split_is (s : ByteArray) (c : UInt8) (h : s.size < 4294967281) : strings_Split.f s ⟨#[c]⟩ = some ((spl c s.data.toList).map ofL) := by
  unfold strings_Split.f
  rw [if_pos ⟨h, Nat.le_refl _⟩]
  congr 1
  have e := Lib.splitB_data (⟨#[c]⟩ : ByteArray) 0 (Lib.countB s ⟨#[c]⟩) s
  have e2 : Lib.splitK (⟨#[c]⟩ : ByteArray).data.toList 0 (Lib.countB s ⟨#[c]⟩) s.data.toList = spl c s.data.toList := splitK_spl c s.data.toList
  rw [← e2, ← e, List.map_map]
  refine (List.map_id _).symm.trans (List.map_congr_left fun x _ => ?_)
  exact (ofL_data x).symm
theorem extract_ofL (s : ByteArray) (f i : Nat) : s.extract f i = ofL ((s.data.toList.drop f).take (i - f)) := by
  apply ByteArray.ext
  apply Array.toList_inj.1
  rw [Lib.extract_data]
  rfl
theorem bt_data (s : ByteArray) (i : Nat) (h : i < s.data.toList.length) : bt s (i : Int) = ((s.data.toList[i].toNat : Nat) : Int) := by
  have h1 : i < s.size := by show i < s.data.size; rw [← Array.length_toList]; exact h
  have e := bt_get s i h1
  unfold bytesOf at e
  rw [List.getElem?_map, List.getElem?_eq_getElem h] at e
  exact (Option.some.inj e).symm
theorem l3Split_loop (s : ByteArray) (c : UInt8) (hs : s.size ≤ 1000000) (d : Nat) : ∀ (i f : Nat) (out : List ByteArray), i + d = s.size → f ≤ i → out.length ≤ i →
    ∀ k, d + 2 ≤ k → spec_l3Split.l0 k s (c.toNat : Int) out (f : Int) (i : Int) = some (out ++ (glue ((s.data.toList.drop f).take (i - f)) (spl c (s.data.toList.drop i))).map ofL) := by
  have hl : s.data.toList.length = s.size := Array.length_toList
  induction d with
  | zero =>
    intro i f out hd hf ho k hk
    obtain ⟨k, rfl⟩ : ∃ z, k = z + 2 := ⟨k - 2, by omega⟩
    have e : i = s.size := by omega
    subst e
    simp only [spec_l3Split.l0]
    rw [if_pos (by omega), if_pos trivial, if_pos (by omega), if_pos (by omega), if_pos (by omega), wrap_in (i := (s.size : Int) + 1) (by omega) (by omega), if_neg (by omega)]
    rw [List.drop_of_length_le (Nat.le_of_eq hl), Int.toNat_natCast, Int.toNat_natCast, extract_ofL]
    simp [spl, glue]
  | succ d ih =>
    intro i f out hd hf ho k hk
    obtain ⟨k, rfl⟩ : ∃ z, k = z + 1 := ⟨k - 1, by omega⟩
    have hi : i < s.data.toList.length := by omega
    have hb := bt_data s i hi
    simp only [spec_l3Split.l0]
    rw [if_pos (by omega), if_neg (by omega), if_pos (by omega), if_pos (by omega), hb, List.drop_eq_getElem_cons hi]
    generalize hbb : s.data.toList[i] = b
    have hc : ((b.toNat : Nat) : Int) = ((c.toNat : Nat) : Int) ↔ b = c := ⟨fun h => UInt8.toNat_inj.1 (by omega), fun h => by rw [h]⟩
    unfold spl
    by_cases h : b = c
    · rw [if_pos (hc.2 h), if_pos h, if_pos (by omega), if_pos (by omega), if_pos (by omega), wrap_in (i := (i : Int) + 1) (by omega) (by omega), show ((i : Int) + 1) = ((i + 1 : Nat) : Int) by omega]
      rw [ih (i + 1) (i + 1) _ (by omega) (Nat.le_refl _) (by rw [List.length_append, List.length_singleton]; omega) k (by omega)]
      rw [Nat.sub_self, List.take_zero, glue_nil _ (spl_ne _ _), Int.toNat_natCast, Int.toNat_natCast, extract_ofL, List.append_assoc]
      simp [glue]
    · rw [if_neg (fun e => h (hc.1 e)), if_neg h, wrap_in (i := (i : Int) + 1) (by omega) (by omega), show ((i : Int) + 1) = ((i + 1 : Nat) : Int) by omega]
      rw [ih (i + 1) f _ (by omega) (by omega) (by omega) k (by omega), glue_glue _ _ _ (spl_ne _ _)]
      have e : (s.data.toList.drop f).take (i + 1 - f) = (s.data.toList.drop f).take (i - f) ++ [b] := by
        rw [show i + 1 - f = (i - f) + 1 by omega, List.take_add_one, List.getElem?_drop, show f + (i - f) = i by omega, List.getElem?_eq_getElem hi, hbb]
        rfl
      rw [e]
theorem l3Split_ev (s : ByteArray) (c : UInt8) (hs : s.size ≤ 1000000) : Ev (fun k => spec_l3Split.f k s (c.toNat : Int)) ((spl c s.data.toList).map ofL) := by
  refine ⟨s.size + 2, fun k hk => ?_⟩
  unfold spec_l3Split.f
  have := l3Split_loop s c hs s.size 0 0 [] (by omega) (Nat.le_refl _) (Nat.zero_le _) k hk
  rw [Nat.sub_self, List.take_zero, glue_nil _ (spl_ne _ _), List.drop_zero] at this
  exact this
/-- What a part does to the parts that are kept. -/
def dotStep (kept : List ByteArray) (p : ByteArray) : List ByteArray := if p.toList = [46] then kept else if p.toList = [46, 46] then kept.take (kept.length - 1) else kept ++ [p]
/-- What is kept behind all parts; last: the part ahead of them. -/
def dotAll : List ByteArray → ByteArray → List ByteArray → List ByteArray
  | kept, last, [] => if last.toList = [46] ∨ last.toList = [46, 46] then kept ++ [⟨#[]⟩] else kept
  | kept, _, p :: ps => dotAll (dotStep kept p) p ps
def wt (l : List ByteArray) : Nat := (l.map fun p => p.size + 1).sum
theorem wt_append (a b : List ByteArray) : wt (a ++ b) = wt a + wt b := by simp [wt]
theorem wt_cons (p : ByteArray) (l : List ByteArray) : wt (p :: l) = p.size + 1 + wt l := by simp [wt]
theorem wt_take (l : List ByteArray) (n : Nat) : wt (l.take n) ≤ wt l := by
  have : wt l = wt (l.take n) + wt (l.drop n) := by rw [← wt_append, List.take_append_drop]
  omega
theorem wt_len (l : List ByteArray) : l.length ≤ wt l := by
  unfold wt
  induction l with
  | nil => exact Nat.le_refl _
  | cons a l ih => simp only [List.length_cons, List.map_cons, List.sum_cons]; omega
theorem wt_step (kept : List ByteArray) (p : ByteArray) : wt (dotStep kept p) ≤ wt kept + (p.size + 1) := by
  unfold dotStep
  split
  · omega
  · split
    · have := wt_take kept (kept.length - 1); omega
    · rw [wt_append]; simp [wt]
theorem wt_all (ps : List ByteArray) : ∀ (kept : List ByteArray) (last : ByteArray), wt (dotAll kept last ps) ≤ wt kept + wt ps + 1 := by
  induction ps with
  | nil =>
    intro kept last
    unfold dotAll
    split
    · have hz : wt ([⟨#[]⟩] : List ByteArray) = 1 := rfl
      rw [wt_append]; omega
    · omega
  | cons p ps ih =>
    intro kept last
    unfold dotAll
    have h1 := ih (dotStep kept p) p
    have h2 := wt_step kept p
    have h3 : wt (p :: ps) = p.size + 1 + wt ps := by simp [wt]
    omega
/-- The kept parts, each behind a slash. -/
def slashed (l : List ByteArray) : List UInt8 := l.flatMap fun p => 47 :: p.data.toList
theorem slashed_length (l : List ByteArray) : (slashed l).length = wt l := by
  unfold slashed wt
  induction l with
  | nil => rfl
  | cons a l ih =>
    rw [List.flatMap_cons, List.length_append, ih, List.map_cons, List.sum_cons, List.length_cons, Array.length_toList]
    rfl
theorem slashed_join (l : List ByteArray) (h : l ≠ []) : slashed l = 47 :: joinB l ⟨#[47]⟩ := by
  cases l with
  | nil => exact absurd rfl h
  | cons a l =>
    unfold slashed joinB
    rw [List.map_cons, Lib.join_cons, List.flatMap_cons]
    unfold Lib.joinTail
    rw [List.map_map]
    show 47 :: a.data.toList ++ _ = 47 :: (a.data.toList ++ _)
    rw [List.cons_append]
    congr 2
def dotOut (l : List ByteArray) : ByteArray := if l = [] then ofL [47] else ofL (slashed l)
theorem joinB_len (l : List ByteArray) : (joinB l ⟨#[47]⟩).length ≤ wt l := by
  by_cases h : l = []
  · subst h; exact Nat.zero_le _
  · have := slashed_length l
    rw [slashed_join l h] at this
    simp only [List.length_cons] at this
    omega
theorem join_out (l : List ByteArray) (h : wt l ≤ 1000000) : (strings_Join.f l ⟨#[47]⟩).bind (fun t => if 1 + t.size ≤ 9223372036854775807 then some ((⟨#[47]⟩ : ByteArray) ++ t) else none) = some (dotOut l) := by
  have h1 := wt_len l
  have h2 := joinB_len l
  unfold strings_Join.f
  rw [if_pos ⟨by omega, by omega⟩]
  simp only [Option.bind_some]
  have h3 : (⟨(joinB l ⟨#[47]⟩).toArray⟩ : ByteArray).size = (joinB l ⟨#[47]⟩).length := ofL_size _
  rw [if_pos (by omega)]
  congr 1
  have e : ((⟨#[47]⟩ : ByteArray) ++ ⟨(joinB l ⟨#[47]⟩).toArray⟩) = ofL (47 :: joinB l ⟨#[47]⟩) := ofL_append [47] (joinB l ⟨#[47]⟩)
  rw [e]
  unfold dotOut
  by_cases hl : l = []
  · rw [if_pos hl, hl]; rfl
  · rw [if_neg hl, slashed_join l hl]
theorem rd_at (l : List ByteArray) (i : Nat) (h : i < l.length) : rdOf ByteArray.empty l (i : Int) = l[i] := by
  simp [rdOf, List.getD_eq_getElem?_getD, h]
theorem impl_Dotless_loop (ps : List ByteArray) (d : Nat) : ∀ (i : Nat) (kept : List ByteArray) (last : ByteArray), i + d = ps.length → wt kept + wt (ps.drop i) ≤ 900000 → ps.length ≤ 900000 →
    ∀ k, d + 1 ≤ k → impl_Dotless.l0 k kept last ps (ps.length : Int) (i : Int) = some (dotOut (dotAll kept last (ps.drop i))) := by
  induction d with
  | zero =>
    intro i kept last hd hw hp k hk
    obtain ⟨k, rfl⟩ : ∃ z, k = z + 1 := ⟨k - 1, by omega⟩
    have e : i = ps.length := by omega
    have hl := wt_len kept
    have hj := wt_all [] kept last
    simp only [impl_Dotless.l0]
    rw [if_neg (by omega), List.drop_of_length_le (by omega)]
    have hz : wt ([] : List ByteArray) = 0 := rfl
    unfold dotAll at hj ⊢
    by_cases h1 : last.toList = [46]
    · rw [if_pos (.inl h1)] at hj
      rw [if_pos h1, if_pos (by omega), if_pos (.inl h1), join_out _ (by omega)]
    · rw [if_neg h1]
      by_cases h2 : last.toList = [46, 46]
      · rw [if_pos (.inr h2)] at hj
        rw [if_pos h2, if_pos (by omega), if_pos (.inr h2), join_out _ (by omega)]
      · rw [if_neg (by simp [h1, h2])] at hj
        rw [if_neg h2, if_neg (by simp [h1, h2]), join_out _ (by omega)]
  | succ d ih =>
    intro i kept last hd hw hp k hk
    obtain ⟨k, rfl⟩ : ∃ z, k = z + 1 := ⟨k - 1, by omega⟩
    have hi : i < ps.length := by omega
    have hl := wt_len kept
    rw [List.drop_eq_getElem_cons hi] at hw ⊢
    have h3 := wt_cons ps[i] (ps.drop (i + 1))
    have hs := wt_step kept ps[i]
    have step := ih (i + 1) (dotStep kept ps[i]) ps[i] (by omega) (by omega) hp k (by omega)
    simp only [impl_Dotless.l0]
    rw [if_pos (by omega), if_pos (by omega), if_pos (by omega), rd_at ps i hi, wrap_in (i := (i : Int) + 1) (by omega) (by omega), show ((i : Int) + 1) = ((i + 1 : Nat) : Int) by omega]
    unfold dotAll
    unfold dotStep at step ⊢
    by_cases h1 : ps[i].toList = [46]
    · rw [if_pos h1] at step ⊢
      rw [if_pos h1]
      exact step
    · rw [if_neg h1] at step ⊢
      rw [if_neg h1]
      by_cases h2 : ps[i].toList = [46, 46]
      · rw [if_pos h2] at step ⊢
        rw [if_pos h2]
        by_cases h0 : (kept.length : Int) > 0
        · rw [if_pos h0, wrap_in (i := (kept.length : Int) - 1) (by omega) (by omega), if_pos (by omega), if_pos (by omega), show ((kept.length : Int) - 1).toNat = kept.length - 1 by omega]
          exact step
        · rw [if_neg h0]
          have e : kept = [] := List.eq_nil_of_length_eq_zero (by omega)
          subst e
          exact step
      · rw [if_neg h2] at step ⊢
        rw [if_neg h2, if_pos (by omega)]
        exact step
theorem spec_Dotless_end (kept : List ByteArray) (d : Nat) : ∀ (i : Nat) (out : List Int), i + d = kept.length → wt kept ≤ 1000000 → out = (slashed (kept.take i)).map (fun b => ((b.toNat : Nat) : Int)) →
    ∀ k, d + 1 ≤ k → spec_Dotless.l1 k kept out (i : Int) = some (dotOut kept) := by
  induction d with
  | zero =>
    intro i out hd hw ho k hk
    obtain ⟨k, rfl⟩ : ∃ z, k = z + 1 := ⟨k - 1, by omega⟩
    have e : i = kept.length := by omega
    subst e
    simp only [spec_Dotless.l1]
    rw [if_neg (by omega)]
    rw [List.take_length] at ho
    have hlen : out.length = wt kept := by rw [ho, List.length_map, slashed_length]
    have hl := wt_len kept
    unfold dotOut
    by_cases h : kept = []
    · subst h
      rw [if_pos (by rw [hlen]; rfl), if_pos rfl]
      rfl
    · rw [if_neg (by
        have : 0 < kept.length := List.length_pos_iff.2 h
        omega), if_neg h]
      congr 1
      apply eq_of_toList
      rw [toList_data, strOfNums_data, ho, List.map_map, ofL_toList]
      refine (List.map_congr_left fun b _ => ?_).trans (List.map_id _)
      simp
  | succ d ih =>
    intro i out hd hw ho k hk
    obtain ⟨k, rfl⟩ : ∃ z, k = z + 1 := ⟨k - 1, by omega⟩
    have hi : i < kept.length := by omega
    have h1 : wt (kept.take (i + 1)) = wt (kept.take i) + (kept[i].size + 1) := by
      rw [List.take_add_one, List.getElem?_eq_getElem hi, wt_append]
      simp [wt]
    have h2 := wt_take kept (i + 1)
    have hlen : out.length = wt (kept.take i) := by rw [ho, List.length_map, slashed_length]
    have hl := wt_len kept
    simp only [spec_Dotless.l1]
    rw [if_pos (by omega), if_pos (by omega), rd_at kept i hi, if_pos (by omega), if_pos (by rw [ByteArray.size_append, show (⟨#[47]⟩ : ByteArray).size = 1 from rfl]; omega), wrap_in (i := (i : Int) + 1) (by omega) (by omega), show ((i : Int) + 1) = ((i + 1 : Nat) : Int) by omega]
    refine ih (i + 1) _ (by omega) hw ?_ k (by omega)
    rw [ho, List.take_add_one, List.getElem?_eq_getElem hi]
    unfold slashed
    rw [List.flatMap_append, List.map_append]
    congr 1
    unfold bytesOf
    simp [ByteArray.data_append]
theorem spec_Dotless_loop (ps : List ByteArray) (d : Nat) : ∀ (i : Nat) (kept : List ByteArray) (last : ByteArray), i + (d + 1) = ps.length → wt kept + wt (ps.drop i) ≤ 900000 → ps.length ≤ 900000 →
    ∀ k, d + 1 + 900000 + 3 ≤ k → spec_Dotless.l0 k ps kept (i : Int) = some (dotOut (dotAll kept last (ps.drop i))) := by
  have fin : ∀ (kept : List ByteArray), wt kept ≤ 900001 → ∀ k, 900000 + 3 ≤ k → spec_Dotless.l0 k ps kept (ps.length : Int) = some (dotOut kept) := by
    intro kept hw k hk
    obtain ⟨k, rfl⟩ : ∃ z, k = z + 1 := ⟨k - 1, by omega⟩
    have := wt_len kept
    simp only [spec_Dotless.l0]
    rw [if_neg (by omega)]
    exact spec_Dotless_end kept kept.length 0 [] (by omega) (by omega) rfl k (by omega)
  induction d with
  | zero =>
    intro i kept last hd hw hp k hk
    obtain ⟨k, rfl⟩ : ∃ z, k = z + 1 := ⟨k - 1, by omega⟩
    have hi : i < ps.length := by omega
    have hl := wt_len kept
    rw [List.drop_eq_getElem_cons hi] at hw ⊢
    rw [List.drop_of_length_le (show ps.length ≤ i + 1 by omega)] at hw ⊢
    have h3 : wt [ps[i]] = ps[i].size + 1 := by simp [wt]
    have hs := wt_step kept ps[i]
    have hz : wt ([⟨#[]⟩] : List ByteArray) = 1 := rfl
    have step := fun kk (h : wt kk ≤ 900001) => fin kk h k (by omega)
    simp only [spec_Dotless.l0]
    rw [if_pos (by omega), if_pos (by omega), rd_at ps i hi, wrap_in (i := (i : Int) + 1) (by omega) (by omega), show ((i : Int) + 1) = (ps.length : Int) by omega, wrap_in (i := (ps.length : Int) - 1) (by omega) (by omega)]
    simp only [dotAll]
    unfold dotStep at hs ⊢
    by_cases h1 : ps[i].toList = [46]
    · have h2 : ¬ ps[i].toList = [46, 46] := by rw [h1]; decide
      rw [if_pos h1] at hs
      rw [if_neg h2, if_pos h1, if_pos (by omega), if_pos (by omega), if_pos (.inl h1), if_pos h1]
      exact step _ (by rw [wt_append]; omega)
    · rw [if_neg h1] at hs
      by_cases h2 : ps[i].toList = [46, 46]
      · rw [if_pos h2] at hs
        rw [if_pos h2, if_pos (show ps[i].toList = [46] ∨ ps[i].toList = [46, 46] from .inr h2), if_neg h1]
        by_cases h0 : (kept.length : Int) > 0
        · rw [if_pos h0, wrap_in (i := (kept.length : Int) - 1) (by omega) (by omega), if_pos (by omega), if_pos (by omega), show ((kept.length : Int) - 1).toNat = kept.length - 1 by omega]
          simp only [Option.bind_some]
          rw [if_pos (by omega), if_pos (by rw [List.length_take]; omega), if_pos h2]
          exact step (kept.take (kept.length - 1) ++ [⟨#[]⟩]) (by rw [wt_append]; omega)
        · rw [if_neg h0, if_pos (by omega), if_pos (by omega), if_pos h2]
          have e : kept = [] := List.eq_nil_of_length_eq_zero (by omega)
          subst e
          exact step ([] ++ [⟨#[]⟩]) (by decide)
      · rw [if_neg h2] at hs
        rw [if_neg h2, if_neg h1, if_pos (by omega), if_neg (by simp [h1, h2]), if_neg h1, if_neg h2]
        exact step _ (by omega)
  | succ d ih =>
    intro i kept last hd hw hp k hk
    obtain ⟨k, rfl⟩ : ∃ z, k = z + 1 := ⟨k - 1, by omega⟩
    have hi : i < ps.length := by omega
    have hl := wt_len kept
    rw [List.drop_eq_getElem_cons hi] at hw ⊢
    have h3 := wt_cons ps[i] (ps.drop (i + 1))
    have hs := wt_step kept ps[i]
    have step := ih (i + 1) (dotStep kept ps[i]) ps[i] (by omega) (by omega) hp k (by omega)
    simp only [spec_Dotless.l0]
    rw [if_pos (by omega), if_pos (by omega), rd_at ps i hi, wrap_in (i := (i : Int) + 1) (by omega) (by omega), show ((i : Int) + 1) = ((i + 1 : Nat) : Int) by omega, wrap_in (i := (ps.length : Int) - 1) (by omega) (by omega)]
    rw [show dotAll kept last (ps[i] :: ps.drop (i + 1)) = dotAll (dotStep kept ps[i]) ps[i] (ps.drop (i + 1)) from rfl]
    unfold dotStep at step ⊢
    by_cases h1 : ps[i].toList = [46]
    · have h2 : ¬ ps[i].toList = [46, 46] := by rw [h1]; decide
      rw [if_pos h1] at step ⊢
      rw [if_neg h2, if_pos h1, if_neg (by omega)]
      exact step
    · rw [if_neg h1] at step ⊢
      by_cases h2 : ps[i].toList = [46, 46]
      · rw [if_pos h2] at step ⊢
        rw [if_neg h1]
        by_cases h0 : (kept.length : Int) > 0
        · rw [if_pos h0, wrap_in (i := (kept.length : Int) - 1) (by omega) (by omega), if_pos (by omega), if_pos (by omega), show ((kept.length : Int) - 1).toNat = kept.length - 1 by omega]
          simp only [Option.bind_some]
          rw [if_neg (by omega), if_pos h2]
          exact step
        · rw [if_neg h0, if_neg (by omega), if_pos h2]
          have e : kept = [] := List.eq_nil_of_length_eq_zero (by omega)
          subst e
          exact step
      · rw [if_neg h2] at step ⊢
        rw [if_neg h2, if_neg h1, if_pos (by omega)]
        exact step
/-- Is it a path? -/
def pathB (s : ByteArray) : Bool := decide (1 ≤ s.size ∧ bt s 0 = 47 ∧ s.size ≤ 200)
def dotless (s : ByteArray) : ByteArray := if pathB s = true then dotOut (dotAll [] ⟨#[]⟩ ((spl 47 ((s.extract 1 s.size).data.toList)).map ofL)) else ⟨#[]⟩
theorem wt_glue (p : List UInt8) (l : List (List UInt8)) (h : l ≠ []) : wt ((glue p l).map ofL) = p.length + wt (l.map ofL) := by
  cases l with
  | nil => exact absurd rfl h
  | cons a l => simp [glue, wt, ofL_size]; omega
theorem wt_spl (c : UInt8) (l : List UInt8) : wt ((spl c l).map ofL) = l.length + 1 := by
  induction l with
  | nil => rfl
  | cons b l ih =>
    unfold spl
    split
    · have : wt (([] :: spl c l).map ofL) = 1 + wt ((spl c l).map ofL) := by simp [wt, ofL_size]
      rw [this, ih, List.length_cons]; omega
    · rw [wt_glue _ _ (spl_ne _ _), ih]; simp only [List.length_cons, List.length_nil]; omega
theorem bytes_first2 (s : ByteArray) (h : 0 < s.size) : bytesOf s = bt s 0 :: (bytesOf s).drop 1 := by
  have := drop_bt s 0 h
  rw [List.drop_zero] at this
  exact this
theorem spec_l3Path_is (s : ByteArray) : spec_l3Path.f s = some (pathB s) := by
  unfold spec_l3Path.f pathB
  by_cases h : s.size = 0
  · have e : s.toList = [] := (toList_nil s).2 h
    simp only [e]
    simp [h]
  · have e : s.toList ≠ [] := fun x => h ((toList_nil s).1 x)
    have h1 : (0 : Int) < (s.size : Int) := by omega
    have he : ¬ s = ByteArray.empty := by rintro rfl; exact h rfl
    have h2 : 1 ≤ s.size := by omega
    rw [if_neg e, if_pos h1]
    by_cases hb : bt s 0 = 47
    · rw [if_pos hb]
      by_cases hz : s.size ≤ 200
      · rw [decide_eq_true (by omega), decide_eq_true ⟨h2, hb, hz⟩]
      · rw [decide_eq_false (by omega), decide_eq_false (fun x => hz x.2.2)]
    · rw [if_neg hb, decide_eq_false (fun x => hb x.2.1)]
theorem slash_prefix (s : ByteArray) (h : 1 ≤ s.size) : ((s.extract 0 1).toList == [47]) = decide (bt s 0 = 47) := by
  have e : bytesOf (s.extract 0 1) = [bt s 0] := by
    have := bytes_first s h
    rw [bytes_extract, List.drop_zero, this]
    rfl
  have e2 : (s.extract 0 1).toList = [47] ↔ bt s 0 = 47 := by
    constructor
    · intro h2
      have : bytesOf (s.extract 0 1) = [47] := by unfold bytesOf; rw [← toList_data, h2]; rfl
      rw [e] at this
      exact (List.cons.inj this).1
    · intro h2
      have h3 : s.extract 0 1 = ofL [47] := bytes_inj (by rw [e, h2]; rfl)
      rw [h3, ofL_toList]
  by_cases h2 : bt s 0 = 47
  · rw [e2.2 h2, decide_eq_true h2]; rfl
  · rw [decide_eq_false h2, beq_eq_false_iff_ne]
    exact fun h3 => h2 (e2.1 h3)
theorem impl_isPath_is (s : ByteArray) : impl_isPath.f s = some (pathB s) := by
  unfold impl_isPath.f strings_HasPrefix.f stringslite_HasPrefix.f pathB
  have e1 : (⟨#[47]⟩ : ByteArray).size = 1 := rfl
  have e2 : (⟨#[47]⟩ : ByteArray).toList = [47] := ofL_toList [47]
  rw [e1, e2]
  by_cases hz : s.size ≤ 200
  · rw [if_pos (by omega)]
    by_cases h : 1 ≤ s.size
    · rw [if_pos (by omega), if_pos (by omega), if_pos (by omega), show (((1 : Nat) : Int)).toNat = 1 from rfl, slash_prefix s h]
      simp [h, hz]
    · rw [if_neg (by omega)]
      simp [h]
  · rw [if_neg (by omega)]
    simp [hz]
theorem spec_Dotless_ev (s : ByteArray) : Ev (fun k => spec_Dotless.f k s) (dotless s) := by
  unfold spec_Dotless.f dotless
  rw [spec_l3Path_is]
  simp only [Option.bind_some]
  by_cases h : pathB s = true
  · have hp := h
    unfold pathB at hp
    rw [decide_eq_true_eq] at hp
    simp only [if_pos h]
    have h1 : (1 : Int) ≤ (s.size : Int) := by omega
    simp only [if_pos h1]
    have hsz : (s.extract 1 s.size).size = s.size - 1 := size_extract s 1 s.size (Nat.le_refl _)
    refine Ev.bind (l3Split_ev (s.extract 1 s.size) 47 (by omega)) ?_
    have hw := wt_spl 47 (s.extract 1 s.size).data.toList
    rw [Array.length_toList] at hw
    have hw2 : wt ((spl 47 (s.extract 1 s.size).data.toList).map ofL) = (s.extract 1 s.size).size + 1 := hw
    have hl := wt_len ((spl 47 (s.extract 1 s.size).data.toList).map ofL)
    have hne : 0 < ((spl 47 (s.extract 1 s.size).data.toList).map ofL).length := by rw [List.length_map]; exact List.length_pos_iff.2 (spl_ne _ _)
    obtain ⟨d, hd⟩ : ∃ d, 0 + (d + 1) = ((spl 47 (s.extract 1 s.size).data.toList).map ofL).length := ⟨((spl 47 (s.extract 1 s.size).data.toList).map ofL).length - 1, by omega⟩
    have hz : wt ([] : List ByteArray) = 0 := rfl
    exact ⟨d + 1 + 900000 + 3, fun k hk => spec_Dotless_loop _ d 0 [] ⟨#[]⟩ hd (by rw [List.drop_zero]; omega) (by omega) k hk⟩
  · simp only [if_neg h]
    exact Ev.now _
theorem impl_Dotless_ev (s : ByteArray) : Ev (fun k => impl_Dotless.f k s) (dotless s) := by
  unfold impl_Dotless.f dotless
  rw [impl_isPath_is]
  simp only [Option.bind_some]
  by_cases h : pathB s = true
  · have hp := h
    unfold pathB at hp
    rw [decide_eq_true_eq] at hp
    simp only [if_pos h]
    have h1 : (1 : Int) ≤ (s.size : Int) := by omega
    simp only [if_pos h1]
    have hsz : (s.extract 1 s.size).size = s.size - 1 := size_extract s 1 s.size (Nat.le_refl _)
    rw [split_is (s.extract 1 s.size) 47 (by omega)]
    simp only [Option.bind_some]
    have hw := wt_spl 47 (s.extract 1 s.size).data.toList
    rw [Array.length_toList] at hw
    have hw2 : wt ((spl 47 (s.extract 1 s.size).data.toList).map ofL) = (s.extract 1 s.size).size + 1 := hw
    have hl := wt_len ((spl 47 (s.extract 1 s.size).data.toList).map ofL)
    have hz : wt ([] : List ByteArray) = 0 := rfl
    exact ⟨((spl 47 (s.extract 1 s.size).data.toList).map ofL).length + 1, fun k hk => impl_Dotless_loop _ _ 0 [] ⟨#[]⟩ (by omega) (by rw [List.drop_zero]; omega) (by omega) k hk⟩
  · simp only [if_neg h]
    exact Ev.now _
theorem dgt_hex (c : Int) : dgt c = hexV c := by
  unfold dgt hexV digB
  by_cases h : 48 ≤ c ∧ c ≤ 57
  · rw [if_pos h, if_pos (by simp [h])]
  · have hb : (decide (48 ≤ c) && decide (c ≤ 57)) = false := by simp; omega
    rw [if_neg h, hb]
    simp
theorem hexV_lt (c : Int) : hexV c < 16 := by
  rw [← dgt_hex]
  unfold dgt
  split
  · omega
  · split
    · omega
    · split <;> omega
theorem hexB_is (c : Int) : hexB c = (decide (0 ≤ dgt c) && decide (dgt c < 16)) := by
  have h1 := hexV_neg c
  have h2 := hexV_lt c
  rw [dgt_hex, decide_eq_true h2, Bool.and_true]
  by_cases h : 0 ≤ hexV c
  · rw [decide_eq_false (by omega : ¬ hexV c < 0)] at h1
    rw [decide_eq_true h]
    cases hb : hexB c
    · rw [hb] at h1; cases h1
    · rfl
  · rw [decide_eq_true (by omega : hexV c < 0)] at h1
    rw [decide_eq_false h]
    cases hb : hexB c
    · rfl
    · rw [hb] at h1; cases h1
theorem digB_is (c : Int) : digB c = (decide (0 ≤ dgt c) && decide (dgt c < 10)) := by
  unfold digB dgt
  by_cases h : 48 ≤ c ∧ c ≤ 57
  · rw [if_pos h]
    have a : 0 ≤ c - 48 := by omega
    have b : c - 48 < 10 := by omega
    simp [h, a, b]
  · rw [if_neg h]
    have : (decide (48 ≤ c) && decide (c ≤ 57)) = false := by simp; omega
    rw [this]
    split
    · have : ¬ c - 87 < 10 := by omega
      simp [this]
    · split
      · have : ¬ c - 55 < 10 := by omega
        simp [this]
      · simp
theorem dgt_dig {c : Int} (h : digB c = true) : dgt c = c - 48 ∧ 48 ≤ c ∧ c ≤ 57 := by
  unfold digB at h
  simp at h
  unfold dgt
  rw [if_pos h]
  exact ⟨rfl, h⟩
theorem all_okB16 (l : List Int) : l.all hexB = okB 16 l := all_congr' fun c _ => hexB_is c
theorem all_okB10 (l : List Int) : l.all digB = okB 10 l := all_congr' fun c _ => digB_is c
/-- A text's number at a base, if it has one to so many digits. -/
def numOk (b : Int) (m : Nat) (p : Int → Bool) (s : ByteArray) : Int × Bool := if 1 ≤ s.size ∧ s.size ≤ m ∧ (bytesOf s).all p = true then (numB b (bytesOf s), true) else (0, false)
theorem runL_num (b : Int) (p : Int → Bool) (l : List Int) (st : Int) :
    runL (fun (st : Int) c => if p c = true then .inl (st * b + dgt c) else .inr ((0 : Int), false)) (fun st => (st, true)) l st = if l.all p = true then (l.foldl (fun n c => n * b + dgt c) st, true) else (0, false) := by
  induction l generalizing st with
  | nil => rfl
  | cons c cs ih =>
    rw [List.all_cons]
    unfold runL
    by_cases hp : p c = true
    · simp only [hp, if_true, Bool.true_and, ih, List.foldl_cons]
    · simp only [(by simpa using hp : p c = false), Bool.false_and, Bool.false_eq_true, if_false]
theorem num_next {b st d : Int} {i : Nat} (hb : 0 ≤ b) (h0 : 0 ≤ st) (h1 : st < b ^ i) (d0 : 0 ≤ d) (d1 : d < b) : 0 ≤ st * b ∧ 0 ≤ st * b + d ∧ st * b + d < b ^ (i + 1) := by
  have a := Int.mul_nonneg h0 hb
  rw [Int.pow_succ]
  have : (st + 1) * b ≤ b ^ i * b := Int.mul_le_mul_of_nonneg_right (by omega) hb
  rw [Int.add_mul, Int.one_mul] at this
  omega
theorem num_loop (b : Int) (hb : b = 10 ∨ b = 16) (m : Nat) (hm : (b = 10 ∧ m ≤ 15) ∨ (b = 16 ∧ m ≤ 13)) (p : Int → Bool) (hp : ∀ c, p c = true → 0 ≤ dgt c ∧ dgt c < b) (s : ByteArray) (hs : s.size ≤ m) (g : Nat → Int → Int → Option (Int × Bool)) (K : Nat)
    (h1 : ∀ k (st : Int) (i : Nat), K ≤ k → i < s.size → p (bt s i) = true → wrap64 (st * b) = st * b → wrap64 (st * b + dgt (bt s i)) = st * b + dgt (bt s i) → g (k + 1) st i = g k (st * b + dgt (bt s i)) ((i + 1 : Nat) : Int))
    (h0 : ∀ k (st : Int) (i : Nat), K ≤ k → i < s.size → p (bt s i) = false → g (k + 1) st i = some (0, false))
    (he : ∀ k (st : Int), K ≤ k → g (k + 1) st (s.size : Int) = some (st, true)) : Ev (fun k => g k 0 0) (if (bytesOf s).all p = true then (numB b (bytesOf s), true) else (0, false)) := by
  have hr := ev_run s (fun (st : Int) i => 0 ≤ st ∧ st < b ^ i) (fun (st : Int) c => if p c = true then .inl (st * b + dgt c) else .inr ((0 : Int), false)) (fun st => (st, true)) g K
    (fun k st i hk hi hI => ⟨fun st' e => (by
        by_cases hq : p (bt s i) = true
        · rw [if_pos hq] at e
          obtain rfl : st * b + dgt (bt s i) = st' := by injection e
          obtain ⟨d0, d1⟩ := hp _ hq
          obtain ⟨a0, a1, a2⟩ := num_next (b := b) (by omega) hI.1 hI.2 d0 d1
          have hw := pow_small hb hm (k := i + 1) (by omega)
          exact ⟨h1 k st i hk hi hq (wrap_in (by omega) (by omega)) (wrap_in (by omega) (by omega)), a1, a2⟩
        · rw [if_neg hq] at e; cases e),
      fun r e => (by
        by_cases hq : p (bt s i) = true
        · rw [if_pos hq] at e; cases e
        · rw [if_neg hq] at e
          obtain rfl : ((0 : Int), false) = r := by injection e
          exact h0 k st i hk hi (by simpa using hq))⟩)
    (fun k st hk _ => he k st hk) 0 ⟨by omega, by simp⟩
  rw [runL_num] at hr
  exact hr
theorem spec_HexDigits_ev (s : ByteArray) : Ev (fun k => spec_HexDigits.f k s) (numOk 16 13 hexB s) := by
  have no : Ev (fun k => spec_HexDigits.j0 k s true) ((0 : Int), false) := Ev.step (f := fun _ => some (0, false)) (fun k => by simp only [spec_HexDigits.j0, if_true]) (Ev.now _)
  unfold spec_HexDigits.f numOk
  by_cases h1 : (s.size : Int) < 1
  · simp only [if_pos h1]
    rw [if_neg (by omega)]
    exact no
  · simp only [if_neg h1]
    by_cases h2 : (s.size : Int) > 13
    · rw [decide_eq_true h2, if_neg (by omega)]
      exact no
    · rw [decide_eq_false h2]
      refine Ev.step (f := fun k => spec_HexDigits.l0 k s 0 0) (fun k => by simp only [spec_HexDigits.j0, Bool.false_eq_true, if_false]) ?_
      refine ev_eq (num_loop 16 (.inr rfl) 13 (.inr ⟨rfl, Nat.le_refl _⟩) hexB (fun c h => by rw [hexB_is] at h; simpa using h) s (by omega) (fun k st i => spec_HexDigits.l0 k s st i) 2 (fun k st i hk hi hq w1 w2 => ?_) (fun k st i hk hi hq => ?_) (fun k st _ => ?_)) ?_
      · have hr := bt_range s i
        have hn := hexV_neg (bt s i)
        rw [hq] at hn
        rw [dgt_hex] at w2 ⊢
        simp only [spec_HexDigits.l0]
        rw [if_pos (by omega), if_pos (by omega), spec_l1Hex_is _ hr.1 hr.2 k hk, wrap_next hi (by omega)]
        simp only [Option.bind_some]
        rw [if_neg (by simpa using hn), w1, w2]
      · have hr := bt_range s i
        have hn := hexV_neg (bt s i)
        rw [hq] at hn
        simp only [spec_HexDigits.l0]
        rw [if_pos (by omega), if_pos (by omega), spec_l1Hex_is _ hr.1 hr.2 k hk]
        simp only [Option.bind_some]
        rw [if_pos (by simpa using hn)]
      · simp only [spec_HexDigits.l0]
        rw [if_neg (by omega)]
      · have a : 1 ≤ s.size := by omega
        have b : s.size ≤ 13 := by omega
        simp only [a, b, true_and]
theorem impl_HexDigits_is (s : ByteArray) : impl_HexDigits.f s = some (numOk 16 13 hexB s) := by
  unfold impl_HexDigits.f numOk
  by_cases h1 : (s.size : Int) < 1
  · rw [if_pos h1, if_neg (by omega)]
  · rw [if_neg h1]
    by_cases h2 : (s.size : Int) > 13
    · rw [if_pos h2, if_neg (by omega)]
    · rw [if_neg h2, all_hex s (by omega)]
      simp only [Option.bind_some]
      have a : 1 ≤ s.size := by omega
      have b : s.size ≤ 13 := by omega
      by_cases h3 : (bytesOf s).all hexB = true
      · rw [if_pos h3, if_pos ⟨a, b, h3⟩]
        unfold strconv_ParseInt.f
        rw [if_pos ⟨rfl, by omega, by rw [← all_okB16]; exact h3, .inl ⟨rfl, b⟩⟩]
        rfl
      · rw [if_neg h3, if_neg (by intro h; exact h3 h.2.2)]
theorem mn_is (a b : Int) : mn a b = if a ≤ b then a else b := by
  unfold mn
  split <;> split <;> omega
theorem hexPair (c d : Int) : numOk 16 13 hexB (strOfNums [c, d]) = numOk 16 13 hexB (strOfNums [c, d]) := rfl
theorem numOk_two {t : ByteArray} {c d : Int} (h : bytesOf t = [c, d]) : numOk 16 13 hexB t = if hexB c = true ∧ hexB d = true then (16 * hexV c + hexV d, true) else (0, false) := by
  have hz : t.size = 2 := by rw [← bytesOf_length, h]; rfl
  unfold numOk
  rw [h]
  by_cases a : hexB c = true ∧ hexB d = true
  · rw [if_pos a, if_pos ⟨by omega, by omega, by simp [a]⟩]
    refine Prod.ext ?_ rfl
    show (0 * 16 + dgt c) * 16 + dgt d = _
    rw [dgt_hex, dgt_hex]
    omega
  · rw [if_neg a, if_neg]
    intro ⟨_, _, e⟩
    simp at e
    exact a e
theorem uncoded_both (s : ByteArray) (hs : s.size ≤ 200) : ∀ (n i : Nat) (acc : List Int), i + n = s.size → acc.length ≤ i →
    ∃ r : ByteArray × Bool, Ev (fun k => spec_Uncoded.l0 k s acc (i : Int)) r ∧ Ev (fun k => impl_Uncoded.l0 k s acc (i : Int)) r ∧ r.1.size ≤ s.size := by
  intro n
  induction n using Nat.strongRecOn with
  | _ n ih =>
    intro i acc hd ha
    by_cases hn : n = 0
    · subst hn
      refine ⟨(strOfNums acc, true), Ev.step (f := fun _ => some (strOfNums acc, true)) (fun k => ?_) (Ev.now _), Ev.step (f := fun _ => some (strOfNums acc, true)) (fun k => ?_) (Ev.now _), ?_⟩
      · simp only [spec_Uncoded.l0]
        rw [if_neg (by omega)]
      · simp only [impl_Uncoded.l0]
        rw [if_neg (by omega)]
      · show (strOfNums acc).size ≤ s.size
        have : (strOfNums acc).size = acc.length := by
          unfold strOfNums
          simp [ByteArray.size]
        omega
    · have h1 : (i : Int) < (s.size : Int) := by omega
      have w1 : wrap64 ((i : Int) + 1) = ((i + 1 : Nat) : Int) := by rw [wrap_in (by omega) (by omega)]; omega
      have w2 : wrap64 ((i : Int) + 2) = ((i + 2 : Nat) : Int) := by rw [wrap_in (by omega) (by omega)]; omega
      have w3 : wrap64 ((i : Int) + 3) = ((i + 3 : Nat) : Int) := by rw [wrap_in (by omega) (by omega)]; omega
      have w21 : wrap64 (((i + 2 : Nat) : Int) + 1) = ((i + 3 : Nat) : Int) := by rw [wrap_in (by omega) (by omega)]; omega
      have hl : acc.length < 140737488355328 := by omega
      by_cases hp : bt s (i : Int) = 37
      · by_cases h3 : i + 3 ≤ s.size
        · have hb1 := bt_range s ((i + 1 : Nat) : Int)
          have hb2 := bt_range s ((i + 2 : Nat) : Int)
          have e2 := numOk_two (bytes_two s (i + 1) (by omega))
          have n1 := hexV_neg (bt s ((i + 1 : Nat) : Int))
          have n2 := hexV_neg (bt s ((i + 2 : Nat) : Int))
          have l1 := hexV_lt (bt s ((i + 1 : Nat) : Int))
          have l2 := hexV_lt (bt s ((i + 2 : Nat) : Int))
          have impl0 : ∀ k, impl_Uncoded.l0 (k + 1) s acc (i : Int) = if hexB (bt s ((i + 1 : Nat) : Int)) = true ∧ hexB (bt s ((i + 2 : Nat) : Int)) = true then impl_Uncoded.l0 k s (acc ++ [(16 * hexV (bt s ((i + 1 : Nat) : Int)) + hexV (bt s ((i + 2 : Nat) : Int))) % 256]) ((i + 3 : Nat) : Int) else some ((⟨#[]⟩ : ByteArray), false) := by
            intro k
            simp only [impl_Uncoded.l0]
            rw [if_pos h1, if_pos (by omega), if_pos hp, w1, w2, w3, w21, mn_is, if_pos (by omega), if_pos (by omega), if_pos (by omega), if_pos (by omega), Int.toNat_natCast, Int.toNat_natCast, show i + 3 = i + 1 + 2 from rfl, impl_HexDigits_is, e2]
            simp only [Option.bind_some]
            by_cases a : hexB (bt s ((i + 1 : Nat) : Int)) = true ∧ hexB (bt s ((i + 1 + 1 : Nat) : Int)) = true
            · rw [if_pos a]
              simp only [if_true]
              rw [if_neg (by omega), if_pos hl, if_pos a]
            · rw [if_neg a]
              simp only [Bool.false_eq_true, if_false]
              rw [if_neg a]
          by_cases a1 : hexB (bt s ((i + 1 : Nat) : Int)) = true
          · by_cases a2 : hexB (bt s ((i + 2 : Nat) : Int)) = true
            · rw [a1] at n1
              rw [a2] at n2
              have p1 : 0 ≤ hexV (bt s ((i + 1 : Nat) : Int)) := by have : ¬ hexV (bt s ((i + 1 : Nat) : Int)) < 0 := by simpa using n1
                                                                    omega
              have p2 : 0 ≤ hexV (bt s ((i + 2 : Nat) : Int)) := by have : ¬ hexV (bt s ((i + 2 : Nat) : Int)) < 0 := by simpa using n2
                                                                    omega
              obtain ⟨r, hr1, hr2, hr3⟩ := ih (n - 3) (by omega) (i + 3) (acc ++ [(16 * hexV (bt s ((i + 1 : Nat) : Int)) + hexV (bt s ((i + 2 : Nat) : Int))) % 256]) (by omega) (by rw [List.length_append]; simp; omega)
              obtain ⟨K1, e1⟩ := hr1
              refine ⟨r, ⟨K1 + 10, fun k hk => ?_⟩, Ev.step (f := fun k => impl_Uncoded.l0 k s (acc ++ [(16 * hexV (bt s ((i + 1 : Nat) : Int)) + hexV (bt s ((i + 2 : Nat) : Int))) % 256]) ((i + 3 : Nat) : Int)) (fun k => by rw [impl0, if_pos ⟨a1, a2⟩]) hr2, hr3⟩
              obtain ⟨k, rfl⟩ : ∃ z, k = z + 2 := ⟨k - 2, by omega⟩
              have e1' := e1 k (by omega)
              simp only [spec_Uncoded.l0, spec_Uncoded.j1]
              rw [if_pos h1, if_pos (by omega), if_pos hp, w1, w2, w21, if_neg (by omega), if_pos (by omega), if_pos (by omega), spec_l1Hex_is _ hb1.1 hb1.2 (k + 1) (by omega), spec_l1Hex_is _ hb2.1 hb2.2 (k + 1) (by omega), spec_l1Hex_is _ hb1.1 hb1.2 k (by omega), spec_l1Hex_is _ hb2.1 hb2.2 k (by omega)]
              simp only [Option.bind_some]
              rw [if_neg (by omega), if_pos (by omega), if_pos (by omega), if_neg (by rw [decide_eq_true_eq]; omega), if_pos (by omega), if_pos (by omega), if_pos (by omega), if_pos (by omega), if_pos hl, wrap_in (i := 16 * hexV (bt s ((i + 1 : Nat) : Int))) (by omega) (by omega), wrap_in (by omega) (by omega)]
              exact e1'
            · refine ⟨((⟨#[]⟩ : ByteArray), false), ⟨10, fun k hk => ?_⟩, Ev.step (f := fun _ => some ((⟨#[]⟩ : ByteArray), false)) (fun k => by rw [impl0, if_neg (fun h => a2 h.2)]) (Ev.now _), Nat.zero_le _⟩
              obtain ⟨k, rfl⟩ : ∃ z, k = z + 2 := ⟨k - 2, by omega⟩
              rw [a1] at n1
              rw [Bool.not_eq_true] at a2
              rw [a2] at n2
              have p1 : ¬ hexV (bt s ((i + 1 : Nat) : Int)) < 0 := by simpa using n1
              have p2 : hexV (bt s ((i + 2 : Nat) : Int)) < 0 := by simpa using n2
              simp only [spec_Uncoded.l0, spec_Uncoded.j1]
              rw [if_pos h1, if_pos (by omega), if_pos hp, w1, w2, if_neg (by omega), if_pos (by omega), if_pos (by omega), spec_l1Hex_is _ hb1.1 hb1.2 (k + 1) (by omega), spec_l1Hex_is _ hb2.1 hb2.2 (k + 1) (by omega)]
              simp only [Option.bind_some]
              rw [if_neg p1, if_pos (by omega), if_pos (by omega), if_pos (decide_eq_true p2)]
          · refine ⟨((⟨#[]⟩ : ByteArray), false), ⟨10, fun k hk => ?_⟩, Ev.step (f := fun _ => some ((⟨#[]⟩ : ByteArray), false)) (fun k => by rw [impl0, if_neg (fun h => a1 h.1)]) (Ev.now _), Nat.zero_le _⟩
            obtain ⟨k, rfl⟩ : ∃ z, k = z + 2 := ⟨k - 2, by omega⟩
            rw [Bool.not_eq_true] at a1
            rw [a1] at n1
            have p1 : hexV (bt s ((i + 1 : Nat) : Int)) < 0 := by simpa using n1
            simp only [spec_Uncoded.l0, spec_Uncoded.j1]
            rw [if_pos h1, if_pos (by omega), if_pos hp, w1, w2, if_neg (by omega), if_pos (by omega), if_pos (by omega), spec_l1Hex_is _ hb1.1 hb1.2 (k + 1) (by omega)]
            simp only [Option.bind_some]
            rw [if_pos p1]
            simp
        · refine ⟨((⟨#[]⟩ : ByteArray), false), ⟨10, fun k hk => ?_⟩, Ev.step (f := fun _ => some ((⟨#[]⟩ : ByteArray), false)) (fun k => ?_) (Ev.now _), Nat.zero_le _⟩
          · obtain ⟨k, rfl⟩ : ∃ z, k = z + 2 := ⟨k - 2, by omega⟩
            simp only [spec_Uncoded.l0, spec_Uncoded.j1]
            rw [if_pos h1, if_pos (by omega), if_pos hp, w2, if_pos (by omega)]
            simp
          · simp only [impl_Uncoded.l0]
            rw [if_pos h1, if_pos (by omega), if_pos hp, w1, w3, mn_is, if_neg (show ¬ ((i + 3 : Nat) : Int) ≤ (s.size : Int) by omega), if_pos (by omega), if_pos (by omega), if_pos (by omega), impl_HexDigits_is]
            simp only [Option.bind_some]
            by_cases a : (numOk 16 13 hexB (s.extract ((i + 1 : Nat) : Int).toNat (s.size : Int).toNat)).2 = true
            · rw [if_pos a, if_pos (by omega)]
            · rw [if_neg a]
      · obtain ⟨r, hr1, hr2, hr3⟩ := ih (n - 1) (by omega) (i + 1) (acc ++ [bt s (i : Int)]) (by omega) (by rw [List.length_append]; simp; omega)
        refine ⟨r, Ev.step (fun k => ?_) hr1, Ev.step (fun k => ?_) hr2, hr3⟩
        · simp only [spec_Uncoded.l0]
          rw [if_pos h1, if_pos (by omega), if_neg hp, if_pos hl, w1]
        · simp only [impl_Uncoded.l0]
          rw [if_pos h1, if_pos (by omega), if_neg hp, if_pos hl, w1]
theorem Uncoded_both (s : ByteArray) : ∃ r : ByteArray × Bool, Ev (fun k => spec_Uncoded.f k s) r ∧ Ev (fun k => impl_Uncoded.f k s) r ∧ r.1.size ≤ s.size := by
  unfold spec_Uncoded.f impl_Uncoded.f
  by_cases h : (s.size : Int) > 200
  · simp only [if_pos h]
    exact ⟨((⟨#[]⟩ : ByteArray), false), Ev.now _, Ev.now _, Nat.zero_le _⟩
  · simp only [if_neg h]
    exact uncoded_both s (by omega) s.size 0 [] (by omega) (Nat.le_refl _)
def cd (s : ByteArray) : ByteArray := strOfNums ((bytesOf s).flatMap codeB)
theorem coded_cd {s : ByteArray} (h : s.size ≤ 200) : coded s = cd s := by unfold coded cd; rw [if_pos h]
theorem ev_j {α : Type} {g : Nat → Option α} {r : α} (h : Ev g r) {f : Nat → Option α} (e : ∀ k, f (k + 1) = g k) : Ev f r := by
  obtain ⟨K, h⟩ := h
  refine ⟨K + 1, fun k hk => ?_⟩
  obtain ⟨k, rfl⟩ : ∃ z, k = z + 1 := ⟨k - 1, by omega⟩
  rw [e]
  exact h k (by omega)
def normalR (s : ByteArray) (u : ByteArray × Bool) : ByteArray × Bool := if u.2 = true ∧ pathB s = true ∧ pathB (cd u.1) = true then (dotless (cd u.1), true) else (⟨#[]⟩, false)
theorem NormalPath_both (s : ByteArray) : ∃ r : ByteArray × Bool, Ev (fun k => spec_NormalPath.f k s) r ∧ Ev (fun k => impl_NormalPath.f k s) r := by
  obtain ⟨u, h1, h2, hu⟩ := Uncoded_both s
  refine ⟨normalR s u, ?_, ?_⟩
  · unfold spec_NormalPath.f
    refine Ev.bind h1 ?_
    unfold normalR
    by_cases c1 : u.2 = true
    · simp only [if_pos c1]
      rw [spec_l3Path_is]
      simp only [Option.bind_some]
      by_cases c2 : pathB s = true
      · have hs : s.size ≤ 200 := by unfold pathB at c2; rw [decide_eq_true_eq] at c2; exact c2.2.2
        rw [c2]
        simp only [Bool.not_true]
        refine ev_j (g := fun k => (spec_l3Coded.f k u.1).bind fun t104 => (spec_l3Path.f t104).bind fun t105 => if t105 = true then (spec_Dotless.f k t104).bind fun t106 => some (t106, true) else some (⟨#[]⟩, false)) ?_ (fun k => by simp only [spec_NormalPath.j0]; rw [if_neg (by simp)])
        refine Ev.bind (spec_l3Coded_ev u.1 (by omega)) ?_
        simp only [spec_l3Path_is, Option.bind_some]
        by_cases c3 : pathB (cd u.1) = true
        · have c4 := c3
          unfold cd at c4
          simp only [if_pos c4]
          rw [if_pos ⟨c1, trivial, c3⟩]
          exact Ev.bind (spec_Dotless_ev _) (Ev.now _)
        · have c4 := c3
          unfold cd at c4
          simp only [if_neg c4]
          rw [if_neg (fun x => c3 x.2.2)]
          exact Ev.now _
      · rw [if_neg (fun x => c2 x.2.1), Bool.not_eq_true] at *
        rw [c2]
        simp only [Bool.not_false]
        exact ev_j (g := fun k => some (⟨#[]⟩, false)) (Ev.now _) (fun k => by simp only [spec_NormalPath.j0]; rw [if_pos trivial])
    · simp only [if_neg c1]
      rw [if_neg (fun x => c1 x.1)]
      exact ev_j (g := fun k => some (⟨#[]⟩, false)) (Ev.now _) (fun k => by simp only [spec_NormalPath.j0]; rw [if_pos trivial])
  · unfold impl_NormalPath.f
    refine Ev.bind h2 ?_
    unfold normalR
    by_cases c1 : u.2 = true
    · simp only [if_pos c1]
      rw [impl_isPath_is]
      simp only [Option.bind_some]
      by_cases c2 : pathB s = true
      · have hs : s.size ≤ 200 := by unfold pathB at c2; rw [decide_eq_true_eq] at c2; exact c2.2.2
        have hc : coded u.1 = cd u.1 := coded_cd (by omega)
        have hev := impl_Coded_ev u.1 (by omega)
        rw [hc] at hev
        simp only [if_pos c2]
        refine Ev.bind hev ?_
        simp only [impl_isPath_is, Option.bind_some]
        by_cases c3 : pathB (cd u.1) = true
        · rw [c3, if_pos ⟨c1, c2, rfl⟩]
          simp only [Bool.not_true]
          refine ev_j (g := fun k => (impl_Coded.f k u.1).bind fun t106 => (impl_Dotless.f k t106).bind fun t107 => some (t107, true)) ?_ (fun k => by simp only [impl_NormalPath.j0]; rw [if_neg (by simp)])
          exact Ev.bind hev (Ev.bind (impl_Dotless_ev _) (Ev.now _))
        · rw [if_neg (fun x => c3 x.2.2)]
          rw [Bool.not_eq_true] at c3
          rw [c3]
          simp only [Bool.not_false]
          exact ev_j (g := fun k => some (⟨#[]⟩, false)) (Ev.now _) (fun k => by simp only [impl_NormalPath.j0]; rw [if_pos trivial])
      · simp only [if_neg c2]
        rw [if_neg (fun x => c2 x.2.1)]
        exact ev_j (g := fun k => some (⟨#[]⟩, false)) (Ev.now _) (fun k => by simp only [impl_NormalPath.j0]; rw [if_pos trivial])
    · simp only [if_neg c1]
      rw [if_neg (fun x => c1 x.1)]
      exact ev_j (g := fun k => some (⟨#[]⟩, false)) (Ev.now _) (fun k => by simp only [impl_NormalPath.j0]; rw [if_pos trivial])
end Go.Proofs.YtonimccihcodnaaDoor.Q
namespace Go.Proofs.YtonimccihcodnaaDoor.Pure
set_option linter.unusedVariables false
set_option linter.unusedSimpArgs false
open Go.RowKit Go.Proofs.YtonimccihcodnaaDoor.P Go.Proofs.YtonimccihcodnaaDoor.Q Go.Proofs.YtonimccihcodnaaDoorW.PrintWords
theorem FnExactNormalPath : laws_FnExactNormalPath.Pure := by
 intro a ha
 obtain ⟨r, ⟨K1, h1⟩, K2, h2⟩ := NormalPath_both a
 have w1 := h1 (K1 + K2) (by omega)
 have w2 := h2 (K1 + K2) (by omega)
 simp only at w1 w2
 refine ⟨K1 + K2, ?_⟩
 unfold laws_FnExactNormalPath.f
 rw [w1, w2]
 split <;> simp
end Go.Proofs.YtonimccihcodnaaDoor.Pure
namespace Go.Proofs.YtonimccihcodnaaDoor.fnExactNormalPath
open Go.ChangeShapes Go.WideShapes Go.ChangeAt Go.RowKit
open Go.ChangeMaps (open_string shut_string)
set_option linter.unusedVariables false
theorem own : ownKnob Tryd.prog.godebug = none := by kernel_rfl
set_option maxRecDepth 100000 in
theorem lifted (os : Os) (started : os.Started) (H : Type) (enc : TypeId × Value → H) :
    ReturnsInHanded {} Tryd.checked os 4 .any (fun w args => (Rows.fnExactNormalPathSpec.pre enc Tryd.prog Tryd.f4 [] false w args ∧ laidMetH Tryd.prog Rows.fnExactNormalPathRow.laid w) ∧ sizedMet enc Tryd.prog Tryd.f4 (OpenSpec.ofChange Rows.fnExactNormalPathSpec) false w args) (Rows.fnExactNormalPathSpec.post enc Tryd.prog Tryd.f4 false true false false) := by
  refine RowAid.handed_both (C := Tryd.checked) (X := fun w _ => laidMetH Tryd.prog Rows.fnExactNormalPathRow.laid w) (fun _ _ _ hh h => h.of_heap hh) own started (by kernel_rfl) Tryd.func4
    (ChangeSpec.witness_shaped (enc := enc) (C := Tryd.checked) (os := os) (X := fun w _ => laidMetH Tryd.prog Rows.fnExactNormalPathRow.laid w) false (World.laidAll Tryd.prog os Rows.fnExactNormalPathRow.laid) #[.string ByteArray.empty] 8 (World.laidAll_os _ _ _)
      (World.shaped_of_ZipB (by kernel_rfl) (by kernel_rfl)) (by kernel_rfl) (by kernel_rfl) (by kernel_rfl)
      (by rw [MakeChecks.laidMetH_plain _ _ _ (by kernel_rfl)]; exact laidMet_laidAll _ (by kernel_rfl) (by kernel_rfl))) ?_
  intro W base args ds gs before hval0 hW hcnd hsz0 hL hSh _
  have hsz : (DataW.weightsEach Tryd.prog (Tryd.f4.params.toList ++ Rows.fnExactNormalPathSpec.plain.varTypes Tryd.prog) (ds ++ gs)).all (· ≤ reachBytes) = true := hsz0
  have hval : ∀ (j : Nat) t v, Tryd.f4.params[j]? = some t → args[j]? = some v → Value.okWide Tryd.prog W .any base t v := hval0
  have hW' := hW
  obtain ⟨p, q, hA0, hV, rfl, hfz, hnd⟩ := hW
  have hA : DataW.TrodAll enc Tryd.prog W 0 (fun _ => true) true Tryd.f4.params.toList args.toList ds p := hA0
  rw [Tryd.params4] at hA hval hsz
  obtain ⟨v0, vs0, d0, ds0, p0, q0, hargs, rfl, rfl, h0, r0⟩ := trodAll_cons hA
  obtain ⟨rfl, rfl, rfl⟩ := trodAll_nil r0
  obtain rfl : args = #[v0] := by cases args; simp_all
  obtain ⟨rfl, rfl⟩ := trodVars_none hV
  obtain ⟨a0, rfl, rfl, rfl, y0⟩ := open_string Tryd.underlying9 (hval 0 9 v0 rfl rfl) h0
  have w0 : a0.size ≤ 140737488351232 := by
    have z := sized_string hsz (j := 0) (t := 9) rfl rfl
    rw [Array.length_toList] at z
    exact z
  clear hA0 hval0 hsz0 hsz
  have hXW := RowAid.xw_of (m := 1) hSh Rows.fnExactNormalPathRow.laid hL (by kernel_rfl) (fun h_ => absurd h_ (by decide)) (fun h_ => absurd h_ (by decide))
  refine (P.laws_FnExactNormalPath.walk Pure.FnExactNormalPath a0 W hXW w0).mono fun e W' ⟨he, bel⟩ => ?_
  subst he
  exact ⟨_, rfl, _, _, _, [], _, [], hW', trodAll_mk1 (shut_bool Tryd.underlying4 _), (trodAll_cons_mk (shut_string Tryd.underlying9 y0) trodAll_mk0), rfl, bel.frame _, fun h => by cases h⟩
theorem over : Rows.fnExactNormalPathRow.holds Tryd.pinned (OpenSpec.ofChange Rows.fnExactNormalPathSpec) :=
  OpenClaim.holds_of_wide 4 Tryd.f4 rfl rfl rfl rfl rfl rfl rfl ⟨rfl, rfl, rfl, rfl, rfl⟩ rfl rfl rfl rfl rfl (by kernel_rfl) Tryd.func4 (by kernel_rfl)
    (of_decide_eq_true (by kernel_rfl)) (by unfold Func.isWrapper; first | (rw [if_pos (by decide +kernel)]; kernel_rfl) | (rw [if_neg (by decide +kernel)]; exact ⟨rfl, rfl⟩))
    (fun os started H enc _ => lifted os started H enc)
theorem proved : Rows.FnExactNormalPathSaid := over
#print axioms proved
end Go.Proofs.YtonimccihcodnaaDoor.fnExactNormalPath
namespace Go.Proofs.YtonimccihcodnaaDoor
/-- The tied card, under a short name, for the claim. -/
theorem fnExactNormalPath_card : Rows.FnExactNormalPathCardSaid :=
  Claim7.holds_tied_plain_at .later [] [.data, .data, .data, .data, .sentinel, .sentinel, .pinned] true (true, "0f2a25fb34d235b8df6f75603f356f9c9fe71da704dab5b0fb308108ef28398e") true
    fnExactNormalPath.proved (fun _ h => by cases h) (by kernel_rfl) (fun _ h => by cases h) fnExactNormalPath_row_tie rfl ⟨rfl, rfl⟩ (by kernel_rfl) rfl
    (fun f fn hf hfn => by
      obtain rfl : f = 4 := Option.some.inj ((show Tryd.prog.funcNamed "loop.example/g00207/laws.FnExactNormalPath" = some 4 by kernel_rfl).symm.trans hf) |>.symm
      obtain rfl : fn = Tryd.f4 := (Option.some.inj (Tryd.func4.symm.trans hfn)).symm
      exact ⟨by kernel_rfl, fun j t ht => by
        rw [Tryd.params4] at ht
        have hm : t ∈ [9] := by simpa using Array.mem_of_getElem? ht
        have hall : ([9].all fun u => !Tryd.prog.wantsStandIn u) = true := by kernel_rfl
        exact (show Tryd.prog.wantsStandIn t = false by simpa using List.all_eq_true.1 hall t hm)⟩)
    (by kernel_rfl)
#print axioms fnExactNormalPath_card
end Go.Proofs.YtonimccihcodnaaDoor
