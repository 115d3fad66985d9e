/- Functions of the Go program as Lean functions, and proofs about them, merged out of this session's texts by its program bundle.py; conditions: those that each theorem states. -/
import Derived.Below
import Derived.ChangeOld
import Derived.Handed
import Derived.HandedShaped
import Derived.LaidMore
import Derived.Laws.BitsLemmas
import Derived.Lay
import Derived.Lib.Bytealg
import Derived.Lib.LaidTab
import Derived.Lib.Strings
import Derived.MakeChecks
import Derived.OpenShut
import Derived.ProofKit
import Derived.SevenTiedAt
import Derived.Shelf.Vars
import Derived.ShutString
import Derived.SizedLaws
import Derived.Stop.Joined
import Derived.Test.YtpolkndhjcdheaaDoorCards
import Derived.Test.YtpolkndhjcdheaaDoorGFormatBits
import Derived.Test.YtpolkndhjcdheaaDoorGFormatInt
import Derived.Test.YtpolkndhjcdheaaDoorGParseInt
import Derived.Test.YtpolkndhjcdheaaDoorGall
import Derived.Test.YtpolkndhjcdheaaDoorP0
import Derived.Test.YtpolkndhjcdheaaDoorPimplDigits
import Derived.Test.YtpolkndhjcdheaaDoorPimplHexDigits
import Derived.Test.YtpolkndhjcdheaaDoorPimplisDigit
import Derived.Test.YtpolkndhjcdheaaDoorPimplisHex
import Derived.Test.YtpolkndhjcdheaaDoorPimplwithin
import Derived.Test.YtpolkndhjcdheaaDoorPlawsdigits
import Derived.Test.YtpolkndhjcdheaaDoorPlawspick
import Derived.Test.YtpolkndhjcdheaaDoorPspecDigits
import Derived.Test.YtpolkndhjcdheaaDoorPspecDrawDigits
import Derived.Test.YtpolkndhjcdheaaDoorPspecDrawHex
import Derived.Test.YtpolkndhjcdheaaDoorPspecDrawHexDigits
import Derived.Test.YtpolkndhjcdheaaDoorPspecHex
import Derived.Test.YtpolkndhjcdheaaDoorPspecHexDigits
import Derived.Test.YtpolkndhjcdheaaDoorPspecl1Below
import Derived.Test.YtpolkndhjcdheaaDoorPspecl1Byte
import Derived.Test.YtpolkndhjcdheaaDoorPspecl1DrawText
import Derived.Test.YtpolkndhjcdheaaDoorPspecl1Hex
import Derived.Test.YtpolkndhjcdheaaDoorPspecl1In
import Derived.Test.YtpolkndhjcdheaaDoorPspecl1New
import Derived.Test.YtpolkndhjcdheaaDoorPspecl1Once
import Derived.Test.YtpolkndhjcdheaaDoorRows
import Derived.Test.YtpolkndhjcdheaaDoorTie
import Derived.Test.YtpolkndhjcdheaaDoorWSized
import Derived.Test.YtpolkndhjcdheaaDoorXA
import Derived.Test.YtpolkndhjcdheaaDoorXW
import Derived.WalkKit
namespace Go.Proofs.YtpolkndhjcdheaaDoor.RowAid
open Go
variable {H : Type} {enc : TypeId × Value → H}
theorem handed_both {a : Assume} {C : Checked} {os : Os} {f : FuncId} {fn : Func} {s : ChangeSpec} {conds : List PathCond} {apart fresh handsOn again : Bool} {X : World → Array Value → Prop}
    (hX : ∀ (w w' : World) (args : Array Value), w.heap = w'.heap → X w args → X w' args)
    (own : ownKnob C.prog.godebug = none) (started : os.Started) (noInit : C.prog.inits.idxOf? f = none) (hfn : C.prog.funcs[f]? = some fn)
    (witness : ∃ (w : World) (tape : Tape) (i : Input), w.os = os ∧ (w.forCall tape i).Shaped C.prog ∧ i.vars = [] ∧ Input.okWide C.prog (w.forCall tape i) .any w.heap.size f i ∧
      ((s.pre enc C.prog fn conds apart (w.forCall tape i).memory i.args ∧ X (w.forCall tape i).memory i.args) ∧ sizedMet enc C.prog fn (OpenSpec.ofChange s) apart (w.forCall tape i).memory i.args) ∧ a.holds C.prog (lone (Frame.enter C.prog f i.args .normal) [] (w.forCall tape i)))
    (contract : ∀ (W : World) (base : Nat) (args : Array Value) (ds gs : List (DataW H)) (before : List MemPlace),
      (∀ (j : Nat) t v, fn.params[j]? = some t → args[j]? = some v → Value.okWide C.prog W .any base t v) →
      DataW.Whole enc C.prog fn.params.toList s.vars apart W args.toList ds gs before →
      conds.all (PathCond.test C.prog ⟨fn.params.toList, ds, s.plain.varTypes C.prog, gs⟩) = true →
      (DataW.weightsEach C.prog (fn.params.toList ++ s.plain.varTypes C.prog) (ds ++ gs)).all (· ≤ reachBytes) = true → X W args → W.ShapedOpen C.prog →
      a.holds C.prog (lone (Frame.enter C.prog f args .normal) [] W) →
      Calls C.prog f args W fun e W' => ∃ v, e = .returned v ∧ s.post enc C.prog fn apart fresh handsOn again W args v W') :
    ReturnsInHanded a C os f .any (fun w args => (s.pre enc C.prog fn conds apart w args ∧ X w args) ∧ sizedMet enc C.prog fn (OpenSpec.ofChange s) apart w args) (s.post enc C.prog fn apart fresh handsOn again) := by
  refine returnsInHanded_of_calls own started noInit witness ?_
  intro w tape i _ hsh _ hok hpre hholds
  obtain ⟨_, _, _, fn', hfn', _, _, _, _, hval⟩ := hok
  have e : fn' = fn := Option.some.inj (hfn'.symm.trans hfn)
  subst e
  obtain ⟨⟨⟨ds, gs, before, hw, hc⟩, hx⟩, hz⟩ := hpre
  have hw' := DataW.Whole.of_heap (w' := w.forCall tape i) (by rfl) hw
  refine (contract (w.forCall tape i) w.heap.size i.args ds gs before hval hw' hc (hz.weights hw) (hX _ _ _ (by rfl) hx) hsh hholds).mono fun e W' ⟨v, he, hp⟩ => ?_
  subst he
  exact ChangeSpec.post_blind hp
end Go.Proofs.YtpolkndhjcdheaaDoor.RowAid
namespace Go.Proofs.YtpolkndhjcdheaaDoor.RowAid
open Go

/-- What a list lays a variable with. -/
def laysAs (laid : List (String × DataW Unit)) (name : String) : Option (DataW Unit) :=
  match laid with
  | [] => none
  | x :: r => if x.1 = name then some x.2 else laysAs r name
theorem tabIs_mem {P : Program} {W : World} {name : String} {k : IntKind} {zs : List Int} {g : Nat} {t e : TypeId} {n : Nat}
    (hg : P.globalNamed name = some g) (hty : (P.globals[g]?).map (·.type) = some t) (ht : P.underlying t = some (.array n e)) (he : P.underlying e = some (.int k)) (hce : P.cellsOf e = 1) (hct : P.cellsOf t = n) :
    ∀ (laid : List (String × DataW Unit)) (ps : List MemPlace), DataW.LaidVars P W laid ps → laysAs laid name = some (Lib.tabData k zs) → Lib.TabIs P W name k zs := by
  intro laid
  induction laid with
  | nil => intro ps _ h; cases h
  | cons x r ih =>
    intro ps hl hm
    obtain ⟨nm, d⟩ := x
    obtain ⟨g', t', cs, fuel, p, q, hg', ht', hvar, hd, hr, _⟩ := hl
    unfold laysAs at hm
    by_cases hn : nm = name
    · subst hn
      rw [if_pos rfl] at hm
      obtain rfl : d = Lib.tabData k zs := Option.some.inj hm
      obtain rfl := Option.some.inj (hg.symm.trans hg')
      obtain rfl := Option.some.inj (hty.symm.trans ht')
      unfold Lib.TabIs
      rw [hvar, ← Lib.cells_of_tab ht he hce hct hd]
    · rw [if_neg hn] at hm
      exact ih q hr hm
theorem xw_of {m : Nat} {W : World} (hS : W.ShapedOpen Tryd.prog) (laid : List (String × DataW Unit)) (hL : laidMetH Tryd.prog laid W) (hp : (laid.all fun x => x.2.handleName?.isNone) = true)
    (h10 : m / 2 % 2 = 1 → laysAs laid "internal/strconv.uint64pow10" = some (Lib.tabData .u64 Lib.pow10Tab)) (htz : m / 4 % 2 = 1 → laysAs laid "math/bits.deBruijn64tab" = some (Lib.tabData .u8 P.deBruijn64Tab)) : P.XW m W := by
  rw [MakeChecks.laidMetH_plain _ _ _ hp] at hL
  obtain ⟨ps, hv, _⟩ := hL
  unfold P.XW
  refine ⟨fun _ => cell_of_shapedOpen_int (zero := #[.int .i64 0]) (t := 3) hS (of_decide_eq_true (by kernel_rfl)) (by kernel_rfl) rfl (by kernel_rfl) (by kernel_rfl) Tryd.underlying3, ?_⟩
  refine ⟨fun h => tabIs_mem (g := 1) (n := 20) (by kernel_rfl) rfl (by kernel_rfl) Tryd.underlying90 (by kernel_rfl) (by kernel_rfl) laid ps hv (h10 h), ?_⟩
  refine ⟨fun h => tabIs_mem (g := 5) (n := 64) (by kernel_rfl) rfl (by kernel_rfl) Tryd.underlying5 (by kernel_rfl) (by kernel_rfl) laid ps hv (htz h), ?_⟩
  trivial
end Go.Proofs.YtpolkndhjcdheaaDoor.RowAid
namespace Go.Proofs.YtpolkndhjcdheaaDoor.P
open Go.RowKit Go.Proofs.YtpolkndhjcdheaaDoorW.PrintWords Go.Proofs.YtpolkndhjcdheaaDoorW.PrintLast Go.Proofs.YtpolkndhjcdheaaDoorW.PrintMore
attribute [local go_sem] max2_int min2_int max_two min_two max_three min_three max_four min_four   -- for this text's walks alone
set_option linter.unusedVariables false
set_option linter.unusedSimpArgs false

/-! ### impl_Hex: function 20 -/
def impl_Hex.f (a0 : Int) : Option (ByteArray) := (impl_within.f a0 0 4503599627370496).bind fun t101 => (if t101 = true then ((strconv_FormatInt.f a0 16).bind fun t102 => (some t102)) else (some (⟨#[]⟩ : ByteArray)))
set_option maxHeartbeats 8000000 in
set_option maxRecDepth 100000 in
theorem impl_Hex.calls (a0 : Int) (r : ByteArray) (w : World) (hX : XW 6 w) (h : impl_Hex.f a0 = some r) :
  Calls Tryd.prog 20 #[.int .i64 a0] w fun e w' => e = .returned (.string r) ∧ Below w.heap.size w w' := by
 have HB := Aside0.mk (Below.refl w.heap.size w)
 have H : ((impl_within.f a0 0 4503599627370496).bind fun t101 => (if t101 = true then ((strconv_FormatInt.f a0 16).bind fun t102 => (some t102)) else (some (⟨#[]⟩ : ByteArray)))) = some r := h
 clear h
 obtain ⟨t101, A20, H⟩ := Option.bind_eq_some_iff.mp H
 try dsimp only at H
 have A2 := Aside0.mk A20
 clear A20
 by_cases c3 : t101 = true
 ·
  subst c3
  rw [if_pos rfl] at H
  replace H := Option.bind_eq_some_iff.mp H
  obtain ⟨t102, A40, H⟩ := H
  replace H : (some t102) = some r := H
  have A4 := Aside0.mk A40
  clear A40
  obtain rfl := Option.some.inj H
  go_enter Tryd.func20, Tryd.ntmps20
  go_wp2_with (first | ((with_reducible refine gate_callee (f := 46) rfl ?_); refine goesL_ (some 4) rfl rfl Tryd.func46 (by kernel_rfl) rfl #[.int .i64 a0, .int .i64 0, .int .i64 4503599627370496] rfl mc ?_; (with_reducible refine (impl_within.calls a0 0 4503599627370496 true _ A2.out).mono ?_); rintro e w' ⟨rfl, ⟨nd, rfl⟩⟩; refine ⟨_, rfl, ?_⟩) | ((with_reducible refine gate_callee (f := 47) rfl ?_); refine goesL_ (some 7) rfl rfl Tryd.func47 (by kernel_rfl) rfl #[.int .i64 a0, .int .i64 16] rfl mc ?_; (with_reducible refine (strconv_FormatInt.calls a0 16 t102 _ ?side1 A4.out).mono ?_); (case side1 => exact XW.to (XW.stays hX bh) (by decide)); rintro e w5 ⟨rfl, hb⟩; refine ⟨_, rfl, ?_⟩; replace HB := Aside0.mk (below_step bh hb); (try clear hb); (try clear hb2); (try clear hk); (try clear hi)))
  go_ret
  exact ⟨er, bh⟩
 ·
  replace c3 := Bool.eq_false_iff.mpr c3
  subst c3
  have H1 : (some (⟨#[]⟩ : ByteArray)) = some r := by rw [if_neg (show ¬ (false = true) by decide)] at H; exact H
  clear H
  have H := H1
  clear H1
  obtain rfl := Option.some.inj H
  go_enter Tryd.func20, Tryd.ntmps20
  go_wp2_with (first | ((with_reducible refine gate_callee (f := 46) rfl ?_); refine goesL_ (some 4) rfl rfl Tryd.func46 (by kernel_rfl) rfl #[.int .i64 a0, .int .i64 0, .int .i64 4503599627370496] rfl mc ?_; (with_reducible refine (impl_within.calls a0 0 4503599627370496 false _ A2.out).mono ?_); rintro e w' ⟨rfl, ⟨nd, rfl⟩⟩; refine ⟨_, rfl, ?_⟩))
  go_ret
  exact ⟨er, bh⟩
/-! ### laws_big: function 14 -/
def laws_big.f (l0 : List Int) : Option (Bool) := some (decide ((l0.length : Int) > 4096))
set_option maxHeartbeats 8000000 in
set_option maxRecDepth 100000 in
theorem laws_big.calls (A0 : Option Addr) (c0 : Nat) (l0 : List Int) (r : Bool) (w : World) (hr0 : Kd.C (Kd.int .u8) w A0 l0.length l0) (hc0 : l0.length ≤ c0) (h : laws_big.f l0 = some r) :
  Calls Tryd.prog 14 #[.slice A0 l0.length c0] w fun e w' => e = .returned (.bool r) ∧ Drawn0 w w' := by
 have HR0 := Aside0.mk hr0
 have HC0 := Aside0.mk hc0
 clear hr0 hc0
 have H : (some (decide ((l0.length : Int) > 4096))) = some r := h
 clear h
 obtain rfl := Option.some.inj H
 go_enter Tryd.func14, Tryd.ntmps14
 go_wp2
 go_ret
 exact ⟨by first | rfl | (simp; done) | (simp [*]; done), by repeat (first | exact Drawn0.refl _ | apply Drawn0.step)⟩
/-! ### laws_FnNumbers: function 7 -/
mutual
def laws_FnNumbers.j0 : Nat → List Int → Int → ByteArray → ByteArray → Int → Bool → Int → Bool → Bool → Option (Bool)
 | 0, _, _, _, _, _, _, _, _, _ => none
 | k + 1, x0, x3, x4, x6, x7, x8, x9, x10, x51 => if x51 = true then (some false) else ((spec_Digits.f k x6).bind fun bt112 => (if x9 = bt112.1 then (if (x10 != bt112.2) = true then (laws_FnNumbers.j1 k x0 x3 x4 x7 x8 true) else ((spec_Hex.f k x3).bind fun t114 => (laws_FnNumbers.j1 k x0 x3 x4 x7 x8 (x4.toList != t114.toList)))) else (laws_FnNumbers.j1 k x0 x3 x4 x7 x8 true)))
def laws_FnNumbers.j1 : Nat → List Int → Int → ByteArray → Int → Bool → Bool → Option (Bool)
 | 0, _, _, _, _, _, _ => none
 | k + 1, x0, x3, x4, x7, x8, x70 => if x70 = true then (some false) else (if x4.toList = ([] : List UInt8) then (laws_FnNumbers.j2 k x0 x7 x8) else ((impl_HexDigits.f x4).bind fun bt115 => (if (x4.size : Int) < 14 then (if bt115.2 = true then (if bt115.1 = x3 then (laws_FnNumbers.j2 k x0 x7 x8) else (some false)) else (some false)) else (laws_FnNumbers.j2 k x0 x7 x8))))
def laws_FnNumbers.j2 : Nat → List Int → Int → Bool → Option (Bool)
 | 0, _, _, _ => none
 | k + 1, x0, x7, x8 => (laws_pick.f k x0 1 100000).bind fun t117 => ((laws_digits.f k t117).bind fun t118 => (if 2 + t118.size ≤ 9223372036854775807 then ((impl_Digits.f ((⟨#[48, 48]⟩ : ByteArray) ++ t118)).bind fun bt119 => (if bt119.2 = true then ((laws_pick.f k x0 1 100000).bind fun t121 => (if bt119.1 = t121 then (if x8 = true then (if x7 > 4503599627370496 then (some true) else ((impl_Hex.f x7).bind fun t122 => (some (t122.toList != ([] : List UInt8))))) else (some true)) else (some false))) else (some false))) else (none)))
end
def laws_FnNumbers.f (k : Nat) (l0 : List Int) : Option (Bool) := (laws_big.f l0).bind fun t101 => (if t101 = true then (some true) else ((spec_DrawHex.f k l0).bind fun t102 => ((impl_Hex.f t102).bind fun t103 => ((spec_DrawHexDigits.f k l0).bind fun t104 => ((spec_DrawDigits.f k l0).bind fun t105 => ((impl_HexDigits.f t104).bind fun bt106 => ((impl_Digits.f t105).bind fun bt108 => ((spec_HexDigits.f k t104).bind fun bt110 => (if bt106.1 = bt110.1 then (laws_FnNumbers.j0 k l0 t102 t103 t105 bt106.1 bt106.2 bt108.1 bt108.2 (bt106.2 != bt110.2)) else (laws_FnNumbers.j0 k l0 t102 t103 t105 bt106.1 bt106.2 bt108.1 bt108.2 true))))))))))
theorem laws_FnNumbers.mono_l : ∀ k, (∀ y0 y1 y2 y3 y4 y5 y6 y7 y8, LeO (laws_FnNumbers.j0 k y0 y1 y2 y3 y4 y5 y6 y7 y8) (laws_FnNumbers.j0 (k + 1) y0 y1 y2 y3 y4 y5 y6 y7 y8)) ∧ (∀ y0 y1 y2 y3 y4 y5, LeO (laws_FnNumbers.j1 k y0 y1 y2 y3 y4 y5) (laws_FnNumbers.j1 (k + 1) y0 y1 y2 y3 y4 y5)) ∧ (∀ y0 y1 y2, LeO (laws_FnNumbers.j2 k y0 y1 y2) (laws_FnNumbers.j2 (k + 1) y0 y1 y2))
 | 0 => ⟨fun _ _ _ _ _ _ _ _ _ r h => by simp [laws_FnNumbers.j0] at h, fun _ _ _ _ _ _ r h => by simp [laws_FnNumbers.j1] at h, fun _ _ _ r h => by simp [laws_FnNumbers.j2] at h⟩
 | k + 1 => by
  obtain ⟨ih0, ih1, ih2⟩ := laws_FnNumbers.mono_l k
  refine ⟨?_, ?_, ?_⟩
  ·
   intro y0 y1 y2 y3 y4 y5 y6 y7 y8
   unfold laws_FnNumbers.j0
   repeat' first
   | (with_reducible exact ih0 _ _ _ _ _ _ _ _ _)
   | (with_reducible exact ih1 _ _ _ _ _ _)
   | (with_reducible exact ih2 _ _ _)
   | (with_reducible exact laws_digits.mono _ _)
   | (with_reducible exact laws_pick.mono _ _ _ _)
   | (with_reducible exact spec_Digits.mono _ _)
   | (with_reducible exact spec_DrawDigits.mono _ _)
   | (with_reducible exact spec_DrawHex.mono _ _)
   | (with_reducible exact spec_DrawHexDigits.mono _ _)
   | (with_reducible exact spec_Hex.mono _ _)
   | (with_reducible exact spec_HexDigits.mono _ _)
   | (with_reducible exact LeO.refl _)
   | (with_reducible exact LeO.none _)
   | (with_reducible refine LeO.ite ?_ ?_)
   | (with_reducible refine LeO.bind ?_ (fun _ => ?_))
   | exact ih0 _ _ _ _ _ _ _ _ _
   | exact ih1 _ _ _ _ _ _
   | exact ih2 _ _ _
   | exact laws_digits.mono _ _
   | exact laws_pick.mono _ _ _ _
   | exact spec_Digits.mono _ _
   | exact spec_DrawDigits.mono _ _
   | exact spec_DrawHex.mono _ _
   | exact spec_DrawHexDigits.mono _ _
   | exact spec_Hex.mono _ _
   | exact spec_HexDigits.mono _ _
   | exact LeO.none _
   | refine LeO.ite ?_ ?_
   | refine LeO.bind ?_ (fun _ => ?_)
  ·
   intro y0 y1 y2 y3 y4 y5
   unfold laws_FnNumbers.j1
   repeat' first
   | (with_reducible exact ih0 _ _ _ _ _ _ _ _ _)
   | (with_reducible exact ih1 _ _ _ _ _ _)
   | (with_reducible exact ih2 _ _ _)
   | (with_reducible exact laws_digits.mono _ _)
   | (with_reducible exact laws_pick.mono _ _ _ _)
   | (with_reducible exact spec_Digits.mono _ _)
   | (with_reducible exact spec_DrawDigits.mono _ _)
   | (with_reducible exact spec_DrawHex.mono _ _)
   | (with_reducible exact spec_DrawHexDigits.mono _ _)
   | (with_reducible exact spec_Hex.mono _ _)
   | (with_reducible exact spec_HexDigits.mono _ _)
   | (with_reducible exact LeO.refl _)
   | (with_reducible exact LeO.none _)
   | (with_reducible refine LeO.ite ?_ ?_)
   | (with_reducible refine LeO.bind ?_ (fun _ => ?_))
   | exact ih0 _ _ _ _ _ _ _ _ _
   | exact ih1 _ _ _ _ _ _
   | exact ih2 _ _ _
   | exact laws_digits.mono _ _
   | exact laws_pick.mono _ _ _ _
   | exact spec_Digits.mono _ _
   | exact spec_DrawDigits.mono _ _
   | exact spec_DrawHex.mono _ _
   | exact spec_DrawHexDigits.mono _ _
   | exact spec_Hex.mono _ _
   | exact spec_HexDigits.mono _ _
   | exact LeO.none _
   | refine LeO.ite ?_ ?_
   | refine LeO.bind ?_ (fun _ => ?_)
  ·
   intro y0 y1 y2
   unfold laws_FnNumbers.j2
   repeat' first
   | (with_reducible exact ih0 _ _ _ _ _ _ _ _ _)
   | (with_reducible exact ih1 _ _ _ _ _ _)
   | (with_reducible exact ih2 _ _ _)
   | (with_reducible exact laws_digits.mono _ _)
   | (with_reducible exact laws_pick.mono _ _ _ _)
   | (with_reducible exact spec_Digits.mono _ _)
   | (with_reducible exact spec_DrawDigits.mono _ _)
   | (with_reducible exact spec_DrawHex.mono _ _)
   | (with_reducible exact spec_DrawHexDigits.mono _ _)
   | (with_reducible exact spec_Hex.mono _ _)
   | (with_reducible exact spec_HexDigits.mono _ _)
   | (with_reducible exact LeO.refl _)
   | (with_reducible exact LeO.none _)
   | (with_reducible refine LeO.ite ?_ ?_)
   | (with_reducible refine LeO.bind ?_ (fun _ => ?_))
   | exact ih0 _ _ _ _ _ _ _ _ _
   | exact ih1 _ _ _ _ _ _
   | exact ih2 _ _ _
   | exact laws_digits.mono _ _
   | exact laws_pick.mono _ _ _ _
   | exact spec_Digits.mono _ _
   | exact spec_DrawDigits.mono _ _
   | exact spec_DrawHex.mono _ _
   | exact spec_DrawHexDigits.mono _ _
   | exact spec_Hex.mono _ _
   | exact spec_HexDigits.mono _ _
   | exact LeO.none _
   | refine LeO.ite ?_ ?_
   | refine LeO.bind ?_ (fun _ => ?_)
theorem laws_FnNumbers.mono : ∀ a0 k, LeO (laws_FnNumbers.f k a0) (laws_FnNumbers.f (k + 1) a0) := by
 intro a0 k
 obtain ⟨ih0, ih1, ih2⟩ := laws_FnNumbers.mono_l k
 unfold laws_FnNumbers.f
 repeat' first
   | (with_reducible exact ih0 _ _ _ _ _ _ _ _ _)
   | (with_reducible exact ih1 _ _ _ _ _ _)
   | (with_reducible exact ih2 _ _ _)
   | (with_reducible exact laws_digits.mono _ _)
   | (with_reducible exact laws_pick.mono _ _ _ _)
   | (with_reducible exact spec_Digits.mono _ _)
   | (with_reducible exact spec_DrawDigits.mono _ _)
   | (with_reducible exact spec_DrawHex.mono _ _)
   | (with_reducible exact spec_DrawHexDigits.mono _ _)
   | (with_reducible exact spec_Hex.mono _ _)
   | (with_reducible exact spec_HexDigits.mono _ _)
   | (with_reducible exact LeO.refl _)
   | (with_reducible exact LeO.none _)
   | (with_reducible refine LeO.ite ?_ ?_)
   | (with_reducible refine LeO.bind ?_ (fun _ => ?_))
   | exact ih0 _ _ _ _ _ _ _ _ _
   | exact ih1 _ _ _ _ _ _
   | exact ih2 _ _ _
   | exact laws_digits.mono _ _
   | exact laws_pick.mono _ _ _ _
   | exact spec_Digits.mono _ _
   | exact spec_DrawDigits.mono _ _
   | exact spec_DrawHex.mono _ _
   | exact spec_DrawHexDigits.mono _ _
   | exact spec_Hex.mono _ _
   | exact spec_HexDigits.mono _ _
   | exact LeO.none _
   | refine LeO.ite ?_ ?_
   | refine LeO.bind ?_ (fun _ => ?_)
set_option maxHeartbeats 8000000 in
set_option maxRecDepth 100000 in
theorem laws_FnNumbers.calls (k : Nat) (A0 : Option Addr) (c0 : Nat) (l0 : List Int) (r : Bool) (w : World) (hX : XW 6 w) (hr0 : Kd.C (Kd.int .u8) w A0 l0.length l0) (hc0 : l0.length ≤ c0) (h : laws_FnNumbers.f k l0 = some r) :
  Calls Tryd.prog 7 #[.slice A0 l0.length c0] w fun e w' => e = .returned (.bool r) ∧ Below w.heap.size w w' := by
 have HR0 := Aside0.mk hr0
 have HC0 := Aside0.mk hc0
 clear hr0 hc0
 have HB := Aside0.mk (Below.refl w.heap.size w)
 have H : ((laws_big.f l0).bind fun t101 => (if t101 = true then (some true) else ((spec_DrawHex.f k l0).bind fun t102 => ((impl_Hex.f t102).bind fun t103 => ((spec_DrawHexDigits.f k l0).bind fun t104 => ((spec_DrawDigits.f k l0).bind fun t105 => ((impl_HexDigits.f t104).bind fun bt106 => ((impl_Digits.f t105).bind fun bt108 => ((spec_HexDigits.f k t104).bind fun bt110 => (if bt106.1 = bt110.1 then (laws_FnNumbers.j0 k l0 t102 t103 t105 bt106.1 bt106.2 bt108.1 bt108.2 (bt106.2 != bt110.2)) else (laws_FnNumbers.j0 k l0 t102 t103 t105 bt106.1 bt106.2 bt108.1 bt108.2 true))))))))))) = some r := h
 clear h
 obtain ⟨t101, A20, H⟩ := Option.bind_eq_some_iff.mp H
 try dsimp only at H
 have A2 := Aside0.mk A20
 clear A20
 by_cases c3 : t101 = true
 ·
  subst c3
  have H1 : (some true) = some r := by rw [if_pos rfl] at H; exact H
  clear H
  have H := H1
  clear H1
  obtain rfl := Option.some.inj H
  go_enter Tryd.func7, Tryd.ntmps7
  go_wp2_with (first | ((with_reducible refine gate_callee (f := 14) rfl ?_); refine goesL_ (some 20) rfl rfl Tryd.func14 (by kernel_rfl) rfl #[.slice A0 l0.length c0] rfl (by (try simp only [List.map_toArray, List.map_cons, List.map_nil]); first | done | rfl | (simp only [ne_nil_isEmpty]; rfl) | (simp only [List.length_drop, List.length_take]; rfl)) ?_; (with_reducible refine (laws_big.calls _ _ l0 true _ ?side1 ?side2 A2.out).mono ?_); (case side1 => repeat (first | exact HR0.out | (with_reducible refine Kd.C_alloc ?_ _) | (with_reducible refine Kd.C_drewN ?_ _) | (with_reducible refine Kd.C_drew ?_))); (case side2 => exact HC0.out); rintro e w' ⟨rfl, ⟨nd, rfl⟩⟩; refine ⟨_, rfl, ?_⟩))
  go_ret
  exact ⟨by first | rfl | (simp [ne_nil_isEmpty]; done) | (simp [errW_none, errW_some] <;> rfl) | (simp [*, errW_none, errW_some] <;> rfl), bh⟩
 ·
  replace c3 := Bool.eq_false_iff.mpr c3
  subst c3
  rw [if_neg (show ¬ (false = true) by decide)] at H
  obtain ⟨t102, A40, H⟩ := Option.bind_eq_some_iff.mp H
  try dsimp only at H
  have A4 := Aside0.mk A40
  clear A40
  obtain ⟨t103, A50, H⟩ := Option.bind_eq_some_iff.mp H
  try dsimp only at H
  have A5 := Aside0.mk A50
  clear A50
  obtain ⟨t104, A60, H⟩ := Option.bind_eq_some_iff.mp H
  try dsimp only at H
  have A6 := Aside0.mk A60
  clear A60
  obtain ⟨t105, A70, H⟩ := Option.bind_eq_some_iff.mp H
  try dsimp only at H
  have A7 := Aside0.mk A70
  clear A70
  obtain ⟨⟨t106, t107⟩, A80, H⟩ := Option.bind_eq_some_iff.mp H
  try dsimp only at H
  have A8 := Aside0.mk A80
  clear A80
  obtain ⟨⟨t108, t109⟩, A90, H⟩ := Option.bind_eq_some_iff.mp H
  try dsimp only at H
  have A9 := Aside0.mk A90
  clear A90
  obtain ⟨⟨t110, t111⟩, A100, H⟩ := Option.bind_eq_some_iff.mp H
  try dsimp only at H
  have A10 := Aside0.mk A100
  clear A100
  have HC11 := Aside0.mk H
  clear H
  go_enter Tryd.func7, Tryd.ntmps7
  go_upto_region 10 with (first | ((with_reducible refine gate_callee (f := 14) rfl ?_); refine goesL_ (some 20) rfl rfl Tryd.func14 (by kernel_rfl) rfl #[.slice A0 l0.length c0] rfl (by (try simp only [List.map_toArray, List.map_cons, List.map_nil]); first | done | rfl | (simp only [ne_nil_isEmpty]; rfl) | (simp only [List.length_drop, List.length_take]; rfl)) ?_; (with_reducible refine (laws_big.calls _ _ l0 false _ ?side1 ?side2 A2.out).mono ?_); (case side1 => repeat (first | exact HR0.out | (with_reducible refine Kd.C_alloc ?_ _) | (with_reducible refine Kd.C_drewN ?_ _) | (with_reducible refine Kd.C_drew ?_))); (case side2 => exact HC0.out); rintro e w' ⟨rfl, ⟨nd, rfl⟩⟩; refine ⟨_, rfl, ?_⟩) | ((with_reducible refine gate_callee (f := 21) rfl ?_); refine goesL_ (some 22) rfl rfl Tryd.func21 (by kernel_rfl) rfl #[.slice A0 l0.length c0] rfl (by (try simp only [List.map_toArray, List.map_cons, List.map_nil]); first | done | rfl | (simp only [ne_nil_isEmpty]; rfl) | (simp only [List.length_drop, List.length_take]; rfl)) ?_; (with_reducible refine (spec_DrawHex.calls k _ _ l0 t102 _ ?side1 ?side2 A4.out).mono ?_); (case side1 => repeat (first | exact HR0.out | (with_reducible refine Kd.C_alloc ?_ _) | (with_reducible refine Kd.C_drewN ?_ _) | (with_reducible refine Kd.C_drew ?_))); (case side2 => exact HC0.out); rintro e w12 ⟨rfl, hb⟩; refine ⟨_, rfl, ?_⟩; replace HB := Aside0.mk (below_step bh hb); (try clear hb); (try clear hb2); (try clear hk); (try clear hi)) | ((with_reducible refine gate_callee (f := 20) rfl ?_); refine goesL_ (some 24) rfl rfl Tryd.func20 (by kernel_rfl) rfl #[.int .i64 t102] rfl (by (try simp only [List.map_toArray, List.map_cons, List.map_nil]); first | done | rfl | (simp only [ne_nil_isEmpty]; rfl) | (simp only [List.length_drop, List.length_take]; rfl)) ?_; (with_reducible refine (impl_Hex.calls t102 t103 _ ?side1 A5.out).mono ?_); (case side1 => exact XW.to (XW.stays hX bh) (by decide)); rintro e w13 ⟨rfl, hb⟩; refine ⟨_, rfl, ?_⟩; replace HB := Aside0.mk (below_step bh hb); (try clear hb); (try clear hb2); (try clear hk); (try clear hi)) | ((with_reducible refine gate_callee (f := 22) rfl ?_); refine goesL_ (some 26) rfl rfl Tryd.func22 (by kernel_rfl) rfl #[.slice A0 l0.length c0] rfl (by (try simp only [List.map_toArray, List.map_cons, List.map_nil]); first | done | rfl | (simp only [ne_nil_isEmpty]; rfl) | (simp only [List.length_drop, List.length_take]; rfl)) ?_; (with_reducible refine (spec_DrawHexDigits.calls k _ _ l0 t104 _ ?side1 ?side2 A6.out).mono ?_); (case side1 => repeat (first | exact (Kd.C_below HR0.out HB.out) | (with_reducible refine Kd.C_alloc ?_ _) | (with_reducible refine Kd.C_drewN ?_ _) | (with_reducible refine Kd.C_drew ?_))); (case side2 => exact HC0.out); rintro e w14 ⟨rfl, hb⟩; refine ⟨_, rfl, ?_⟩; replace HB := Aside0.mk (below_step bh hb); (try clear hb); (try clear hb2); (try clear hk); (try clear hi)) | ((with_reducible refine gate_callee (f := 23) rfl ?_); refine goesL_ (some 28) rfl rfl Tryd.func23 (by kernel_rfl) rfl #[.slice A0 l0.length c0] rfl (by (try simp only [List.map_toArray, List.map_cons, List.map_nil]); first | done | rfl | (simp only [ne_nil_isEmpty]; rfl) | (simp only [List.length_drop, List.length_take]; rfl)) ?_; (with_reducible refine (spec_DrawDigits.calls k _ _ l0 t105 _ ?side1 ?side2 A7.out).mono ?_); (case side1 => repeat (first | exact (Kd.C_below HR0.out HB.out) | (with_reducible refine Kd.C_alloc ?_ _) | (with_reducible refine Kd.C_drewN ?_ _) | (with_reducible refine Kd.C_drew ?_))); (case side2 => exact HC0.out); rintro e w15 ⟨rfl, hb⟩; refine ⟨_, rfl, ?_⟩; replace HB := Aside0.mk (below_step bh hb); (try clear hb); (try clear hb2); (try clear hk); (try clear hi)) | ((with_reducible refine gate_callee (f := 24) rfl ?_); refine goesL_ (some 31) rfl rfl Tryd.func24 (by kernel_rfl) rfl #[.string t104] rfl (by (try simp only [List.map_toArray, List.map_cons, List.map_nil]); first | done | rfl | (simp only [ne_nil_isEmpty]; rfl) | (simp only [List.length_drop, List.length_take]; rfl)) ?_; (with_reducible refine (impl_HexDigits.calls t104 t106 t107 _ A8.out).mono ?_); rintro e w16 ⟨rfl, hb⟩; refine ⟨_, rfl, ?_⟩; replace HB := Aside0.mk (below_step bh hb); (try clear hb); (try clear hb2); (try clear hk); (try clear hi)) | ((with_reducible refine gate_callee (f := 25) rfl ?_); refine goesL_ (some 36) rfl rfl Tryd.func25 (by kernel_rfl) rfl #[.string t105] rfl (by (try simp only [List.map_toArray, List.map_cons, List.map_nil]); first | done | rfl | (simp only [ne_nil_isEmpty]; rfl) | (simp only [List.length_drop, List.length_take]; rfl)) ?_; (with_reducible refine (impl_Digits.calls t105 t108 t109 _ A9.out).mono ?_); rintro e w17 ⟨rfl, hb⟩; refine ⟨_, rfl, ?_⟩; replace HB := Aside0.mk (below_step bh hb); (try clear hb); (try clear hb2); (try clear hk); (try clear hi)) | ((with_reducible refine gate_callee (f := 26) rfl ?_); refine goesL_ (some 41) rfl rfl Tryd.func26 (by kernel_rfl) rfl #[.string t104] rfl (by (try simp only [List.map_toArray, List.map_cons, List.map_nil]); first | done | rfl | (simp only [ne_nil_isEmpty]; rfl) | (simp only [List.length_drop, List.length_take]; rfl)) ?_; (with_reducible refine (spec_HexDigits.calls k t104 t110 t111 _ A10.out).mono ?_); rintro e w' ⟨rfl, ⟨nd, rfl⟩⟩; refine ⟨_, rfl, ?_⟩))
  (try simp only [Act.put, List.setIfInBounds_toArray, List.set_cons_zero, List.set_cons_succ])
  go_cut [51] (fun v51 wc => ∃ (kq : Nat) (x51_10 : Bool), v51 = .bool x51_10 ∧ Aside0 (laws_FnNumbers.j0 kq l0 t102 t103 t105 t106 t107 t108 t109 x51_10 = some r) ∧ Aside0 (kq ≤ k) ∧ Aside0 (Below w.heap.size w wc))
  case first =>
   have H := HC11.out
   clear HC11
   by_cases c18 : t106 = t110
   ·
    rw [if_pos c18] at H
    have c18b0 : (t106 == t110) = true := beq_iff_eq.mpr c18
    have c18b1 : (t106 != t110) = false := bne_eq_false_iff_eq.mpr c18
    clear c18
    (first | rw [c18b0] | (simp only [i64_w, i32_w]; rw [c18b0]) | skip)
    have H' := Aside0.mk H
    clear H
    go_wp2
    go_meet
    case rel => exact ⟨_, ((t107 != t111)), (by first | rfl | (simp; done) | (simp [*]; done)), H', ⟨by first | omega | exact Nat.le_refl _⟩, ⟨bh⟩⟩
   ·
    rw [if_neg c18] at H
    have c18b0 : (t106 == t110) = false := beq_eq_false_iff_ne.mpr c18
    have c18b1 : (t106 != t110) = true := bne_iff_ne.mpr c18
    (first | rw [c18b0] | (simp only [i64_w, i32_w]; rw [c18b0]) | skip)
    have H' := Aside0.mk H
    clear H
    go_wp2
    go_meet
    case rel => exact ⟨_, (true), (by first | rfl | (simp; done) | (simp [*]; done)), H', ⟨by first | omega | exact Nat.le_refl _⟩, ⟨bh⟩⟩
  case rest =>
   clear HC11
   try clear c1
   try clear c2
   try clear p2
   try clear c3
   try clear c7
   try clear c14
   try clear c18
   try clear c18b0
   try clear c18b1
   obtain ⟨kq, x51_10, rfl, HA, HJ10, HB⟩ := hcut
   cases kq with
   | zero => exact absurd HA.out (by simp [laws_FnNumbers.j0])
   | succ kj10 =>
    have H := HA.out
    clear HA
    simp only [laws_FnNumbers.j0] at H
    by_cases c19 : x51_10 = true
    ·
     subst c19
     have H1 : (some false) = some r := by rw [if_pos rfl] at H; exact H
     clear H
     have H := H1
     clear H1
     obtain rfl := Option.some.inj H
     go_wp2
     go_ret
     exact ⟨by first | rfl | (simp [ne_nil_isEmpty]; done) | (simp [errW_none, errW_some] <;> rfl) | (simp [*, errW_none, errW_some] <;> rfl), bh⟩
    ·
     replace c19 := Bool.eq_false_iff.mpr c19
     subst c19
     rw [if_neg (show ¬ (false = true) by decide)] at H
     obtain ⟨⟨t112, t113⟩, A200, H⟩ := Option.bind_eq_some_iff.mp H
     try dsimp only at H
     have A20 := Aside0.mk A200
     clear A200
     have HC21 := Aside0.mk H
     clear H
     go_upto_region 13 with (first | ((with_reducible refine gate_callee (f := 27) rfl ?_); refine goesL_ (some 54) rfl rfl Tryd.func27 (by kernel_rfl) rfl #[.string t105] rfl (by (try simp only [List.map_toArray, List.map_cons, List.map_nil]); first | done | rfl | (simp only [ne_nil_isEmpty]; rfl) | (simp only [List.length_drop, List.length_take]; rfl)) ?_; (with_reducible refine (spec_Digits.calls kj10 t105 t112 t113 _ A20.out).mono ?_); rintro e w' ⟨rfl, ⟨nd, rfl⟩⟩; refine ⟨_, rfl, ?_⟩))
     (try simp only [Act.put, List.setIfInBounds_toArray, List.set_cons_zero, List.set_cons_succ])
     go_cut [70] (fun v70 wc => ∃ (kq : Nat) (x70_20 : Bool), v70 = .bool x70_20 ∧ Aside0 (laws_FnNumbers.j1 kq l0 t102 t103 t106 t107 x70_20 = some r) ∧ Aside0 (kq ≤ kj10) ∧ Aside0 (Below w.heap.size w wc))
     case first =>
      have H := HC21.out
      clear HC21
      by_cases c22 : t108 = t112
      ·
       rw [if_pos c22] at H
       have c22b0 : (t108 == t112) = true := beq_iff_eq.mpr c22
       have c22b1 : (t108 != t112) = false := bne_eq_false_iff_eq.mpr c22
       clear c22
       (first | rw [c22b0] | (simp only [i64_w, i32_w]; rw [c22b0]) | skip)
       by_cases c23 : (t109 != t113) = true
       ·
        rw [if_pos c23] at H
        have c23b0 : (t109 != t113) = true := c23
        (try (have c23b1 : decide (t109 = t113) = false := by simpa using c23))
        (try (have c23b2 : (t109 == t113) = false := by simpa using c23))
        (try (have c23b3 : ¬ (t109 = t113) := by simpa using c23))
        clear c23
        have H' := Aside0.mk H
        clear H
        go_wp2
        go_meet
        case rel => exact ⟨_, (true), (by first | rfl | (simp; done) | (simp [*]; done)), H', ⟨by have := HJ10.out; first | omega | exact Nat.le_refl _⟩, ⟨bh⟩⟩
       ·
        rw [if_neg c23] at H
        have c23b0 : (t109 != t113) = false := by simpa using c23
        (try (have c23b1 : decide (t109 = t113) = true := by simpa using c23))
        (try (have c23b2 : (t109 == t113) = true := by simpa using c23))
        clear c23
        obtain ⟨t114, A240, H⟩ := Option.bind_eq_some_iff.mp H
        try dsimp only at H
        have A24 := Aside0.mk A240
        clear A240
        have H' := Aside0.mk H
        clear H
        go_wp2_with (first | (go_at_call 19; (with_reducible refine (spec_Hex.calls kj10 t102 t114 _ A24.out).mono ?_); rintro e w' ⟨rfl, ⟨nd, rfl⟩⟩))
        go_meet
        case rel => exact ⟨_, ((t103.toList != t114.toList)), (by first | rfl | (simp; done) | (simp [*]; done)), H', ⟨by have := HJ10.out; first | omega | exact Nat.le_refl _⟩, ⟨bh⟩⟩
      ·
       rw [if_neg c22] at H
       have c22b0 : (t108 == t112) = false := beq_eq_false_iff_ne.mpr c22
       have c22b1 : (t108 != t112) = true := bne_iff_ne.mpr c22
       (first | rw [c22b0] | (simp only [i64_w, i32_w]; rw [c22b0]) | skip)
       have H' := Aside0.mk H
       clear H
       go_wp2
       go_meet
       case rel => exact ⟨_, (true), (by first | rfl | (simp; done) | (simp [*]; done)), H', ⟨by have := HJ10.out; first | omega | exact Nat.le_refl _⟩, ⟨bh⟩⟩
     case rest =>
      clear HC21
      try clear c1
      try clear c2
      try clear p2
      try clear c3
      try clear c7
      try clear c14
      try clear c18
      try clear c18b0
      try clear c18b1
      try clear c19
      try clear c20
      try clear c21
      try clear c22
      try clear c22b0
      try clear c22b1
      try clear c23
      try clear c23b0
      try clear c23b1
      try clear c23b2
      try clear c24
      try clear p2
      obtain ⟨kq, x70_20, rfl, HA, HJ20, HB⟩ := hcut
      cases kq with
      | zero => exact absurd HA.out (by simp [laws_FnNumbers.j1])
      | succ kj20 =>
       have H := HA.out
       clear HA
       simp only [laws_FnNumbers.j1] at H
       by_cases c25 : x70_20 = true
       ·
        subst c25
        have H1 : (some false) = some r := by rw [if_pos rfl] at H; exact H
        clear H
        have H := H1
        clear H1
        obtain rfl := Option.some.inj H
        go_wp2
        go_ret
        exact ⟨by first | rfl | (simp [ne_nil_isEmpty]; done) | (simp [errW_none, errW_some] <;> rfl) | (simp [*, errW_none, errW_some] <;> rfl), bh⟩
       ·
        replace c25 := Bool.eq_false_iff.mpr c25
        subst c25
        rw [if_neg (show ¬ (false = true) by decide)] at H
        have HC26 := Aside0.mk H
        clear H
        go_upto_if 72 with (fail)
        go_cut [] (fun wc => ∃ (kq : Nat), Aside0 (laws_FnNumbers.j2 kq l0 t106 t107 = some r) ∧ Aside0 (kq ≤ kj20) ∧ Aside0 (Below w.heap.size w wc))
        case first =>
         have H := HC26.out
         clear HC26
         by_cases c27 : t103.toList = ([] : List UInt8)
         ·
          rw [if_pos c27] at H
          have c27b0 : (t103.toList == ([] : List UInt8)) = true := beq_iff_eq.mpr c27
          have c27b9 : t103.toList.isEmpty = true := by cases z_ : t103.toList with | nil => (rw [z_] at c27b0; first | rfl | cases c27b0) | cons _ _ => (rw [z_] at c27b0; first | rfl | cases c27b0)
          have c27b1 : (t103.toList != ([] : List UInt8)) = false := bne_eq_false_iff_eq.mpr c27
          clear c27
          (first | rw [c27b0] | rw [c27b9] | (simp only [i64_w, i32_w]; rw [c27b0]) | skip)
          have H' := Aside0.mk H
          clear H
          go_wp2
          go_meet
          case rel => exact ⟨_, H', ⟨by have := HJ10.out; have := HJ20.out; first | omega | exact Nat.le_refl _⟩, ⟨bh⟩⟩
         ·
          rw [if_neg c27] at H
          have c27b0 : (t103.toList == ([] : List UInt8)) = false := beq_eq_false_iff_ne.mpr c27
          have c27b9 : t103.toList.isEmpty = false := by cases z_ : t103.toList with | nil => (rw [z_] at c27b0; first | rfl | cases c27b0) | cons _ _ => (rw [z_] at c27b0; first | rfl | cases c27b0)
          have c27b1 : (t103.toList != ([] : List UInt8)) = true := bne_iff_ne.mpr c27
          (first | rw [c27b0] | rw [c27b9] | (simp only [i64_w, i32_w]; rw [c27b0]) | skip)
          obtain ⟨⟨t115, t116⟩, A280, H⟩ := Option.bind_eq_some_iff.mp H
          try dsimp only at H
          have A28 := Aside0.mk A280
          clear A280
          by_cases c29 : (t103.size : Int) < 14
          ·
           rw [if_pos c29] at H
           have c29b0 : decide ((t103.size : Int) < 14) = true := decide_eq_true c29
           have c29b1 : decide (t103.size < 14) = true := decide_eq_true (by omega)
           clear c29
           by_cases c30 : t116 = true
           ·
            subst c30
            rw [if_pos rfl] at H
            by_cases c31 : t115 = t102
            ·
             rw [if_pos c31] at H
             have c31b0 : (t115 == t102) = true := beq_iff_eq.mpr c31
             have c31b1 : (t115 != t102) = false := bne_eq_false_iff_eq.mpr c31
             clear c31
             have H' := Aside0.mk H
             clear H
             go_wp2_with (first | ((with_reducible refine gate_callee (f := 24) rfl ?_); refine goesL_ (some 75) rfl rfl Tryd.func24 (by kernel_rfl) rfl #[.string t103] rfl (by (try simp only [List.map_toArray, List.map_cons, List.map_nil]); first | done | rfl | (simp only [ne_nil_isEmpty]; rfl) | (simp only [List.length_drop, List.length_take]; rfl)) ?_; (with_reducible refine (impl_HexDigits.calls t103 t115 true _ A28.out).mono ?_); rintro e w32 ⟨rfl, hb⟩; refine ⟨_, rfl, ?_⟩; replace HB := Aside0.mk (below_step bh hb); (try clear hb); (try clear hb2); (try clear hk); (try clear hi)))
             go_meet
             case rel => exact ⟨_, H', ⟨by have := HJ10.out; have := HJ20.out; first | omega | exact Nat.le_refl _⟩, ⟨bh⟩⟩
            ·
             rw [if_neg c31] at H
             have c31b0 : (t115 == t102) = false := beq_eq_false_iff_ne.mpr c31
             have c31b1 : (t115 != t102) = true := bne_iff_ne.mpr c31
             obtain rfl := Option.some.inj H
             go_wp2_with (first | ((with_reducible refine gate_callee (f := 24) rfl ?_); refine goesL_ (some 75) rfl rfl Tryd.func24 (by kernel_rfl) rfl #[.string t103] rfl (by (try simp only [List.map_toArray, List.map_cons, List.map_nil]); first | done | rfl | (simp only [ne_nil_isEmpty]; rfl) | (simp only [List.length_drop, List.length_take]; rfl)) ?_; (with_reducible refine (impl_HexDigits.calls t103 t115 true _ A28.out).mono ?_); rintro e w33 ⟨rfl, hb⟩; refine ⟨_, rfl, ?_⟩; replace HB := Aside0.mk (below_step bh hb); (try clear hb); (try clear hb2); (try clear hk); (try clear hi)))
             go_ret
             exact ⟨by first | rfl | (simp [ne_nil_isEmpty]; done) | (simp [errW_none, errW_some] <;> rfl) | (simp [*, errW_none, errW_some] <;> rfl), bh⟩
           ·
            replace c30 := Bool.eq_false_iff.mpr c30
            subst c30
            have H1 : (some false) = some r := by rw [if_neg (show ¬ (false = true) by decide)] at H; exact H
            clear H
            have H := H1
            clear H1
            obtain rfl := Option.some.inj H
            go_wp2_with (first | ((with_reducible refine gate_callee (f := 24) rfl ?_); refine goesL_ (some 75) rfl rfl Tryd.func24 (by kernel_rfl) rfl #[.string t103] rfl (by (try simp only [List.map_toArray, List.map_cons, List.map_nil]); first | done | rfl | (simp only [ne_nil_isEmpty]; rfl) | (simp only [List.length_drop, List.length_take]; rfl)) ?_; (with_reducible refine (impl_HexDigits.calls t103 t115 false _ A28.out).mono ?_); rintro e w34 ⟨rfl, hb⟩; refine ⟨_, rfl, ?_⟩; replace HB := Aside0.mk (below_step bh hb); (try clear hb); (try clear hb2); (try clear hk); (try clear hi)))
            go_ret
            exact ⟨by first | rfl | (simp [ne_nil_isEmpty]; done) | (simp [errW_none, errW_some] <;> rfl) | (simp [*, errW_none, errW_some] <;> rfl), bh⟩
          ·
           rw [if_neg c29] at H
           have c29b0 : decide ((t103.size : Int) < 14) = false := decide_eq_false c29
           have c29b1 : decide (t103.size < 14) = false := decide_eq_false (by omega)
           clear c29
           have H' := Aside0.mk H
           clear H
           go_wp2_with (first | ((with_reducible refine gate_callee (f := 24) rfl ?_); refine goesL_ (some 75) rfl rfl Tryd.func24 (by kernel_rfl) rfl #[.string t103] rfl (by (try simp only [List.map_toArray, List.map_cons, List.map_nil]); first | done | rfl | (simp only [ne_nil_isEmpty]; rfl) | (simp only [List.length_drop, List.length_take]; rfl)) ?_; (with_reducible refine (impl_HexDigits.calls t103 t115 t116 _ A28.out).mono ?_); rintro e w35 ⟨rfl, hb⟩; refine ⟨_, rfl, ?_⟩; replace HB := Aside0.mk (below_step bh hb); (try clear hb); (try clear hb2); (try clear hk); (try clear hi)))
           go_meet
           case rel => exact ⟨_, H', ⟨by have := HJ10.out; have := HJ20.out; first | omega | exact Nat.le_refl _⟩, ⟨bh⟩⟩
        case rest =>
         clear HC26
         try clear c1
         try clear c2
         try clear p2
         try clear c3
         try clear c7
         try clear c14
         try clear c18
         try clear c18b0
         try clear c18b1
         try clear c19
         try clear c20
         try clear c21
         try clear c22
         try clear c22b0
         try clear c22b1
         try clear c23
         try clear c23b0
         try clear c23b1
         try clear c23b2
         try clear c24
         try clear c25
         try clear c26
         try clear c27
         try clear c27b0
         try clear c27b1
         try clear c29
         try clear c29b0
         try clear c29b1
         try clear c30
         try clear c31
         try clear c31b0
         try clear c31b1
         try clear p2
         obtain ⟨kq, HA, HJ25, HB⟩ := hcut
         cases kq with
         | zero => exact absurd HA.out (by simp [laws_FnNumbers.j2])
         | succ kj25 =>
          have H := HA.out
          clear HA
          simp only [laws_FnNumbers.j2] at H
          obtain ⟨t117, A360, H⟩ := Option.bind_eq_some_iff.mp H
          try dsimp only at H
          have A36 := Aside0.mk A360
          clear A360
          obtain ⟨t118, A370, H⟩ := Option.bind_eq_some_iff.mp H
          try dsimp only at H
          have A37 := Aside0.mk A370
          clear A370
          by_cases c38 : 2 + t118.size ≤ 9223372036854775807
          ·
           rw [if_pos c38] at H
           have c38b0 := eq_true c38
           have c38b1 : decide (2 + t118.size ≤ 9223372036854775807) = true := decide_eq_true c38
           try have c38b2 : (9223372036854775807 < 2 + t118.size) = False := eq_false (Nat.not_lt.2 c38)
           obtain ⟨⟨t119, t120⟩, A390, H⟩ := Option.bind_eq_some_iff.mp H
           try dsimp only at H
           have A39 := Aside0.mk A390
           clear A390
           by_cases c40 : t120 = true
           ·
            subst c40
            rw [if_pos rfl] at H
            obtain ⟨t121, A410, H⟩ := Option.bind_eq_some_iff.mp H
            try dsimp only at H
            have A41 := Aside0.mk A410
            clear A410
            by_cases c42 : t119 = t121
            ·
             rw [if_pos c42] at H
             have c42b0 : (t119 == t121) = true := beq_iff_eq.mpr c42
             have c42b1 : (t119 != t121) = false := bne_eq_false_iff_eq.mpr c42
             clear c42
             by_cases c43 : t107 = true
             ·
              subst c43
              rw [if_pos rfl] at H
              by_cases c44 : t106 > 4503599627370496
              ·
               rw [if_pos c44] at H
               have c44b0 : decide (4503599627370496 < t106) = true := decide_eq_true c44
               clear c44
               obtain rfl := Option.some.inj H
               go_wp2_with (first | ((with_reducible refine gate_callee (f := 29) rfl ?_); refine goesL_ (some 92) rfl rfl Tryd.func29 (by kernel_rfl) rfl #[.slice A0 l0.length c0, .int .i64 1, .int .i64 100000] rfl (by (try simp only [List.map_toArray, List.map_cons, List.map_nil]); first | done | rfl | (simp only [ne_nil_isEmpty]; rfl) | (simp only [List.length_drop, List.length_take]; rfl)) ?_; (with_reducible refine (laws_pick.calls kj25 _ _ l0 1 100000 t117 _ ?side1 ?side2 A36.out).mono ?_); (case side1 => repeat (first | exact (Kd.C_below HR0.out HB.out) | (with_reducible refine Kd.C_alloc ?_ _) | (with_reducible refine Kd.C_drewN ?_ _) | (with_reducible refine Kd.C_drew ?_))); (case side2 => exact HC0.out); rintro e w' ⟨rfl, ⟨nd, rfl⟩⟩; refine ⟨_, rfl, ?_⟩) | ((with_reducible refine gate_callee (f := 28) rfl ?_); refine goesL_ (some 93) rfl rfl Tryd.func28 (by kernel_rfl) rfl #[.int .i64 t117] rfl (by (try simp only [List.map_toArray, List.map_cons, List.map_nil]); first | done | rfl | (simp only [ne_nil_isEmpty]; rfl) | (simp only [List.length_drop, List.length_take]; rfl)) ?_; (with_reducible refine (laws_digits.calls kj25 t117 t118 _ A37.out).mono ?_); rintro e w45 ⟨rfl, hb⟩; refine ⟨_, rfl, ?_⟩; replace HB := Aside0.mk (below_step bh hb); (try clear hb); (try clear hb2); (try clear hk); (try clear hi)) | ((with_reducible refine gate_callee (f := 25) rfl ?_); refine goesL_ (some 95) rfl rfl Tryd.func25 (by kernel_rfl) rfl #[.string ((⟨#[48, 48]⟩ : ByteArray) ++ t118)] rfl (by (try simp only [List.map_toArray, List.map_cons, List.map_nil]); first | done | rfl | (simp only [ne_nil_isEmpty]; rfl) | (simp only [List.length_drop, List.length_take]; rfl)) ?_; (with_reducible refine (impl_Digits.calls ((⟨#[48, 48]⟩ : ByteArray) ++ t118) t119 true _ A39.out).mono ?_); rintro e w46 ⟨rfl, hb⟩; refine ⟨_, rfl, ?_⟩; replace HB := Aside0.mk (below_step bh hb); (try clear hb); (try clear hb2); (try clear hk); (try clear hi)) | (go_at_call 29; (with_reducible refine (laws_pick.calls kj25 _ _ l0 1 100000 t121 _ ?side1 ?side2 A41.out).mono ?_); (case side1 => repeat (first | exact (Kd.C_below HR0.out HB.out) | (with_reducible refine Kd.C_alloc ?_ _) | (with_reducible refine Kd.C_drewN ?_ _) | (with_reducible refine Kd.C_drew ?_))); (case side2 => exact HC0.out); rintro e w' ⟨rfl, ⟨nd, rfl⟩⟩))
               go_ret
               exact ⟨by first | rfl | (simp [ne_nil_isEmpty]; done) | (simp [errW_none, errW_some] <;> rfl) | (simp [*, errW_none, errW_some] <;> rfl), bh⟩
              ·
               rw [if_neg c44] at H
               have c44b0 : decide (4503599627370496 < t106) = false := decide_eq_false c44
               clear c44
               replace H := Option.bind_eq_some_iff.mp H
               obtain ⟨t122, A470, H⟩ := H
               replace H : (some (t122.toList != ([] : List UInt8))) = some r := H
               have A47 := Aside0.mk A470
               clear A470
               obtain rfl := Option.some.inj H
               go_wp2_with (first | ((with_reducible refine gate_callee (f := 29) rfl ?_); refine goesL_ (some 92) rfl rfl Tryd.func29 (by kernel_rfl) rfl #[.slice A0 l0.length c0, .int .i64 1, .int .i64 100000] rfl (by (try simp only [List.map_toArray, List.map_cons, List.map_nil]); first | done | rfl | (simp only [ne_nil_isEmpty]; rfl) | (simp only [List.length_drop, List.length_take]; rfl)) ?_; (with_reducible refine (laws_pick.calls kj25 _ _ l0 1 100000 t117 _ ?side1 ?side2 A36.out).mono ?_); (case side1 => repeat (first | exact (Kd.C_below HR0.out HB.out) | (with_reducible refine Kd.C_alloc ?_ _) | (with_reducible refine Kd.C_drewN ?_ _) | (with_reducible refine Kd.C_drew ?_))); (case side2 => exact HC0.out); rintro e w' ⟨rfl, ⟨nd, rfl⟩⟩; refine ⟨_, rfl, ?_⟩) | ((with_reducible refine gate_callee (f := 28) rfl ?_); refine goesL_ (some 93) rfl rfl Tryd.func28 (by kernel_rfl) rfl #[.int .i64 t117] rfl (by (try simp only [List.map_toArray, List.map_cons, List.map_nil]); first | done | rfl | (simp only [ne_nil_isEmpty]; rfl) | (simp only [List.length_drop, List.length_take]; rfl)) ?_; (with_reducible refine (laws_digits.calls kj25 t117 t118 _ A37.out).mono ?_); rintro e w48 ⟨rfl, hb⟩; refine ⟨_, rfl, ?_⟩; replace HB := Aside0.mk (below_step bh hb); (try clear hb); (try clear hb2); (try clear hk); (try clear hi)) | ((with_reducible refine gate_callee (f := 25) rfl ?_); refine goesL_ (some 95) rfl rfl Tryd.func25 (by kernel_rfl) rfl #[.string ((⟨#[48, 48]⟩ : ByteArray) ++ t118)] rfl (by (try simp only [List.map_toArray, List.map_cons, List.map_nil]); first | done | rfl | (simp only [ne_nil_isEmpty]; rfl) | (simp only [List.length_drop, List.length_take]; rfl)) ?_; (with_reducible refine (impl_Digits.calls ((⟨#[48, 48]⟩ : ByteArray) ++ t118) t119 true _ A39.out).mono ?_); rintro e w49 ⟨rfl, hb⟩; refine ⟨_, rfl, ?_⟩; replace HB := Aside0.mk (below_step bh hb); (try clear hb); (try clear hb2); (try clear hk); (try clear hi)) | (go_at_call 29; (with_reducible refine (laws_pick.calls kj25 _ _ l0 1 100000 t121 _ ?side1 ?side2 A41.out).mono ?_); (case side1 => repeat (first | exact (Kd.C_below HR0.out HB.out) | (with_reducible refine Kd.C_alloc ?_ _) | (with_reducible refine Kd.C_drewN ?_ _) | (with_reducible refine Kd.C_drew ?_))); (case side2 => exact HC0.out); rintro e w' ⟨rfl, ⟨nd, rfl⟩⟩) | (go_at_call 20; (with_reducible refine (impl_Hex.calls t106 t122 _ ?side1 A47.out).mono ?_); (case side1 => exact XW.to (XW.stays hX bh) (by decide)); rintro e w50 ⟨rfl, hb⟩; replace HB := Aside0.mk (below_step bh hb); (try clear hb); (try clear hb2); (try clear hk); (try clear hi)))
               go_ret
               exact ⟨by first | rfl | (simp [ne_nil_isEmpty]; done) | (simp [errW_none, errW_some] <;> rfl) | (simp [*, errW_none, errW_some] <;> rfl), bh⟩
             ·
              replace c43 := Bool.eq_false_iff.mpr c43
              subst c43
              have H1 : (some true) = some r := by rw [if_neg (show ¬ (false = true) by decide)] at H; exact H
              clear H
              have H := H1
              clear H1
              obtain rfl := Option.some.inj H
              go_wp2_with (first | ((with_reducible refine gate_callee (f := 29) rfl ?_); refine goesL_ (some 92) rfl rfl Tryd.func29 (by kernel_rfl) rfl #[.slice A0 l0.length c0, .int .i64 1, .int .i64 100000] rfl (by (try simp only [List.map_toArray, List.map_cons, List.map_nil]); first | done | rfl | (simp only [ne_nil_isEmpty]; rfl) | (simp only [List.length_drop, List.length_take]; rfl)) ?_; (with_reducible refine (laws_pick.calls kj25 _ _ l0 1 100000 t117 _ ?side1 ?side2 A36.out).mono ?_); (case side1 => repeat (first | exact (Kd.C_below HR0.out HB.out) | (with_reducible refine Kd.C_alloc ?_ _) | (with_reducible refine Kd.C_drewN ?_ _) | (with_reducible refine Kd.C_drew ?_))); (case side2 => exact HC0.out); rintro e w' ⟨rfl, ⟨nd, rfl⟩⟩; refine ⟨_, rfl, ?_⟩) | ((with_reducible refine gate_callee (f := 28) rfl ?_); refine goesL_ (some 93) rfl rfl Tryd.func28 (by kernel_rfl) rfl #[.int .i64 t117] rfl (by (try simp only [List.map_toArray, List.map_cons, List.map_nil]); first | done | rfl | (simp only [ne_nil_isEmpty]; rfl) | (simp only [List.length_drop, List.length_take]; rfl)) ?_; (with_reducible refine (laws_digits.calls kj25 t117 t118 _ A37.out).mono ?_); rintro e w51 ⟨rfl, hb⟩; refine ⟨_, rfl, ?_⟩; replace HB := Aside0.mk (below_step bh hb); (try clear hb); (try clear hb2); (try clear hk); (try clear hi)) | ((with_reducible refine gate_callee (f := 25) rfl ?_); refine goesL_ (some 95) rfl rfl Tryd.func25 (by kernel_rfl) rfl #[.string ((⟨#[48, 48]⟩ : ByteArray) ++ t118)] rfl (by (try simp only [List.map_toArray, List.map_cons, List.map_nil]); first | done | rfl | (simp only [ne_nil_isEmpty]; rfl) | (simp only [List.length_drop, List.length_take]; rfl)) ?_; (with_reducible refine (impl_Digits.calls ((⟨#[48, 48]⟩ : ByteArray) ++ t118) t119 true _ A39.out).mono ?_); rintro e w52 ⟨rfl, hb⟩; refine ⟨_, rfl, ?_⟩; replace HB := Aside0.mk (below_step bh hb); (try clear hb); (try clear hb2); (try clear hk); (try clear hi)) | (go_at_call 29; (with_reducible refine (laws_pick.calls kj25 _ _ l0 1 100000 t121 _ ?side1 ?side2 A41.out).mono ?_); (case side1 => repeat (first | exact (Kd.C_below HR0.out HB.out) | (with_reducible refine Kd.C_alloc ?_ _) | (with_reducible refine Kd.C_drewN ?_ _) | (with_reducible refine Kd.C_drew ?_))); (case side2 => exact HC0.out); rintro e w' ⟨rfl, ⟨nd, rfl⟩⟩))
              go_ret
              exact ⟨by first | rfl | (simp [ne_nil_isEmpty]; done) | (simp [errW_none, errW_some] <;> rfl) | (simp [*, errW_none, errW_some] <;> rfl), bh⟩
            ·
             rw [if_neg c42] at H
             have c42b0 : (t119 == t121) = false := beq_eq_false_iff_ne.mpr c42
             have c42b1 : (t119 != t121) = true := bne_iff_ne.mpr c42
             obtain rfl := Option.some.inj H
             go_wp2_with (first | ((with_reducible refine gate_callee (f := 29) rfl ?_); refine goesL_ (some 92) rfl rfl Tryd.func29 (by kernel_rfl) rfl #[.slice A0 l0.length c0, .int .i64 1, .int .i64 100000] rfl (by (try simp only [List.map_toArray, List.map_cons, List.map_nil]); first | done | rfl | (simp only [ne_nil_isEmpty]; rfl) | (simp only [List.length_drop, List.length_take]; rfl)) ?_; (with_reducible refine (laws_pick.calls kj25 _ _ l0 1 100000 t117 _ ?side1 ?side2 A36.out).mono ?_); (case side1 => repeat (first | exact (Kd.C_below HR0.out HB.out) | (with_reducible refine Kd.C_alloc ?_ _) | (with_reducible refine Kd.C_drewN ?_ _) | (with_reducible refine Kd.C_drew ?_))); (case side2 => exact HC0.out); rintro e w' ⟨rfl, ⟨nd, rfl⟩⟩; refine ⟨_, rfl, ?_⟩) | ((with_reducible refine gate_callee (f := 28) rfl ?_); refine goesL_ (some 93) rfl rfl Tryd.func28 (by kernel_rfl) rfl #[.int .i64 t117] rfl (by (try simp only [List.map_toArray, List.map_cons, List.map_nil]); first | done | rfl | (simp only [ne_nil_isEmpty]; rfl) | (simp only [List.length_drop, List.length_take]; rfl)) ?_; (with_reducible refine (laws_digits.calls kj25 t117 t118 _ A37.out).mono ?_); rintro e w53 ⟨rfl, hb⟩; refine ⟨_, rfl, ?_⟩; replace HB := Aside0.mk (below_step bh hb); (try clear hb); (try clear hb2); (try clear hk); (try clear hi)) | ((with_reducible refine gate_callee (f := 25) rfl ?_); refine goesL_ (some 95) rfl rfl Tryd.func25 (by kernel_rfl) rfl #[.string ((⟨#[48, 48]⟩ : ByteArray) ++ t118)] rfl (by (try simp only [List.map_toArray, List.map_cons, List.map_nil]); first | done | rfl | (simp only [ne_nil_isEmpty]; rfl) | (simp only [List.length_drop, List.length_take]; rfl)) ?_; (with_reducible refine (impl_Digits.calls ((⟨#[48, 48]⟩ : ByteArray) ++ t118) t119 true _ A39.out).mono ?_); rintro e w54 ⟨rfl, hb⟩; refine ⟨_, rfl, ?_⟩; replace HB := Aside0.mk (below_step bh hb); (try clear hb); (try clear hb2); (try clear hk); (try clear hi)) | (go_at_call 29; (with_reducible refine (laws_pick.calls kj25 _ _ l0 1 100000 t121 _ ?side1 ?side2 A41.out).mono ?_); (case side1 => repeat (first | exact (Kd.C_below HR0.out HB.out) | (with_reducible refine Kd.C_alloc ?_ _) | (with_reducible refine Kd.C_drewN ?_ _) | (with_reducible refine Kd.C_drew ?_))); (case side2 => exact HC0.out); rintro e w' ⟨rfl, ⟨nd, rfl⟩⟩))
             go_ret
             exact ⟨by first | rfl | (simp [ne_nil_isEmpty]; done) | (simp [errW_none, errW_some] <;> rfl) | (simp [*, errW_none, errW_some] <;> rfl), bh⟩
           ·
            replace c40 := Bool.eq_false_iff.mpr c40
            subst c40
            have H1 : (some false) = some r := by rw [if_neg (show ¬ (false = true) by decide)] at H; exact H
            clear H
            have H := H1
            clear H1
            obtain rfl := Option.some.inj H
            go_wp2_with (first | ((with_reducible refine gate_callee (f := 29) rfl ?_); refine goesL_ (some 92) rfl rfl Tryd.func29 (by kernel_rfl) rfl #[.slice A0 l0.length c0, .int .i64 1, .int .i64 100000] rfl (by (try simp only [List.map_toArray, List.map_cons, List.map_nil]); first | done | rfl | (simp only [ne_nil_isEmpty]; rfl) | (simp only [List.length_drop, List.length_take]; rfl)) ?_; (with_reducible refine (laws_pick.calls kj25 _ _ l0 1 100000 t117 _ ?side1 ?side2 A36.out).mono ?_); (case side1 => repeat (first | exact (Kd.C_below HR0.out HB.out) | (with_reducible refine Kd.C_alloc ?_ _) | (with_reducible refine Kd.C_drewN ?_ _) | (with_reducible refine Kd.C_drew ?_))); (case side2 => exact HC0.out); rintro e w' ⟨rfl, ⟨nd, rfl⟩⟩; refine ⟨_, rfl, ?_⟩) | ((with_reducible refine gate_callee (f := 28) rfl ?_); refine goesL_ (some 93) rfl rfl Tryd.func28 (by kernel_rfl) rfl #[.int .i64 t117] rfl (by (try simp only [List.map_toArray, List.map_cons, List.map_nil]); first | done | rfl | (simp only [ne_nil_isEmpty]; rfl) | (simp only [List.length_drop, List.length_take]; rfl)) ?_; (with_reducible refine (laws_digits.calls kj25 t117 t118 _ A37.out).mono ?_); rintro e w55 ⟨rfl, hb⟩; refine ⟨_, rfl, ?_⟩; replace HB := Aside0.mk (below_step bh hb); (try clear hb); (try clear hb2); (try clear hk); (try clear hi)) | ((with_reducible refine gate_callee (f := 25) rfl ?_); refine goesL_ (some 95) rfl rfl Tryd.func25 (by kernel_rfl) rfl #[.string ((⟨#[48, 48]⟩ : ByteArray) ++ t118)] rfl (by (try simp only [List.map_toArray, List.map_cons, List.map_nil]); first | done | rfl | (simp only [ne_nil_isEmpty]; rfl) | (simp only [List.length_drop, List.length_take]; rfl)) ?_; (with_reducible refine (impl_Digits.calls ((⟨#[48, 48]⟩ : ByteArray) ++ t118) t119 false _ A39.out).mono ?_); rintro e w56 ⟨rfl, hb⟩; refine ⟨_, rfl, ?_⟩; replace HB := Aside0.mk (below_step bh hb); (try clear hb); (try clear hb2); (try clear hk); (try clear hi)))
            go_ret
            exact ⟨by first | rfl | (simp [ne_nil_isEmpty]; done) | (simp [errW_none, errW_some] <;> rfl) | (simp [*, errW_none, errW_some] <;> rfl), bh⟩
          ·
           rw [if_neg c38] at H
           exact absurd H (by simp)

/-- THE ONE PURE STATEMENT of laws_FnNumbers: yours. -/
def laws_FnNumbers.Pure : Prop := ∀ (l0 : List Int), l0.length ≤ maxLen → l0.length * 1 ≤ 140737488351232 → (∀ x ∈ l0, (Lit.int .u8 x).wf = true) → ∃ k, laws_FnNumbers.f k l0 = some true
theorem laws_FnNumbers.walk (P : laws_FnNumbers.Pure) (a0 : Option Addr) (len0 cap0 : Nat) (z0 : List Int) (w : World) (hX : XW 6 w) (w0 : (a0 = none ∧ len0 = 0 ∧ cap0 = 0 ∧ z0 = []) ∨ ∃ x, a0 = some x ∧ len0 ≤ cap0 ∧ cap0 ≤ maxLen ∧ z0.length = cap0 ∧ (∀ i, i < z0.length → w.cell? (x.add i) = some (.int .u8 (z0.getD i 0))) ∧ ∀ n ∈ z0, (Lit.int .u8 n).wf = true) (y0 : len0 * 1 ≤ 140737488351232) :
  Calls Tryd.prog 7 #[.slice a0 len0 cap0] w fun e w' => e = .returned (.bool true) ∧ Below w.heap.size w w' := by
 obtain ⟨l0, rfl, hr0, hm0, hw0, hc0⟩ := ReadsInt.ofRowC w0
 obtain ⟨k, h⟩ := P l0 hm0 y0 hw0
 refine (laws_FnNumbers.calls k _ _ l0 true w hX (Kd.C_of_reads (d := (0 : Int)) (h1 := fun _ => rfl) hr0) hc0 h).mono ?_
 rintro e w' ⟨rfl, hd⟩
 exact ⟨rfl, hd⟩
end Go.Proofs.YtpolkndhjcdheaaDoor.P
namespace Go.Proofs.YtpolkndhjcdheaaDoor.Q
open Go.RowKit Go.Proofs.YtpolkndhjcdheaaDoorW.PrintWords Go.Proofs.YtpolkndhjcdheaaDoorW.PrintLast Go.Proofs.YtpolkndhjcdheaaDoorW.PrintMore

theorem wrap_in {i : Int} (h0 : -9223372036854775808 ≤ i) (h1 : i ≤ 9223372036854775807) : wrap64 i = i := by unfold wrap64; omega
theorem wrap_next {i : Nat} {n : Nat} (h : i < n) (hn : n ≤ 4611686018427387904) : wrap64 ((i : Int) + 1) = ((i + 1 : Nat) : Int) := by unfold wrap64; omega

theorem toList_data (s : ByteArray) : s.toList = s.data.toList := ByteArray.toList_eq s
theorem eq_of_toList {a b : ByteArray} (h : a.toList = b.toList) : a = b := by
  rw [toList_data, toList_data] at h
  exact ByteArray.ext (Array.toList_inj.1 h)
theorem bt_get (s : ByteArray) (i : Nat) (h : i < s.size) : (bytesOf s)[i]? = some (bt s i) := by
  rw [← rd_bytesOf]
  have h1 : i < (bytesOf s).length := by rw [bytesOf_length]; exact h
  simp [rd, List.getD_eq_getElem?_getD, List.getElem?_eq_getElem h1]
theorem drop_bt (s : ByteArray) (i : Nat) (h : i < s.size) : (bytesOf s).drop i = bt s i :: (bytesOf s).drop (i + 1) := by
  have h1 : i < (bytesOf s).length := by rw [bytesOf_length]; exact h
  rw [List.drop_eq_getElem_cons h1]
  have := bt_get s i h
  rw [List.getElem?_eq_getElem h1] at this
  rw [Option.some.inj this]
theorem mem_bytes {s : ByteArray} {c : Int} (h : c ∈ bytesOf s) : 0 ≤ c ∧ c ≤ 255 := by
  unfold bytesOf at h
  obtain ⟨b, _, rfl⟩ := List.mem_map.1 h
  have := b.toNat_lt
  omega
theorem bytes_nums (l : List Int) (h : ∀ c ∈ l, 0 ≤ c ∧ c ≤ 255) : bytesOf (strOfNums l) = l := by
  unfold bytesOf
  rw [strOfNums_data, List.map_map]
  refine (List.map_congr_left fun c hc => ?_).trans (List.map_id l)
  have := h c hc
  simp only [Function.comp, UInt8.toNat_ofNat', id]
  omega
theorem nums_bytes (s : ByteArray) : strOfNums (bytesOf s) = s := by
  apply ByteArray.ext
  apply Array.toList_inj.1
  rw [strOfNums_data]
  unfold bytesOf
  rw [List.map_map]
  refine (List.map_congr_left fun c hc => ?_).trans (List.map_id _)
  simp
theorem bytes_inj {a b : ByteArray} (h : bytesOf a = bytesOf b) : a = b := by rw [← nums_bytes a, ← nums_bytes b, h]
theorem bytes_append (a b : ByteArray) : bytesOf (a ++ b) = bytesOf a ++ bytesOf b := by
  unfold bytesOf
  rw [← List.map_append]
  simp [ByteArray.data_append]

/-- A loop over bytes: what a round does with its state and a byte; an end ahead of time. -/
def runL {σ β : Type} (f : σ → Int → σ ⊕ β) (fin : σ → β) : List Int → σ → β
  | [], st => fin st
  | c :: cs, st => match f st c with
    | .inl st' => runL f fin cs st'
    | .inr b => b
/-- The printed loop comes to what 'runL' comes to, from some number of rounds on. -/
theorem ev_run {σ β : Type} (s : ByteArray) (I : σ → Nat → Prop) (f : σ → Int → σ ⊕ β) (fin : σ → β) (g : Nat → σ → Int → Option β) (K : Nat)
    (hstep : ∀ k st (i : Nat), K ≤ k → i < s.size → I st i → (∀ st', f st (bt s i) = .inl st' → g (k + 1) st i = g k st' ((i + 1 : Nat) : Int) ∧ I st' (i + 1)) ∧ (∀ b, f st (bt s i) = .inr b → g (k + 1) st i = some b))
    (hend : ∀ k st, K ≤ k → I st s.size → g (k + 1) st (s.size : Int) = some (fin st)) (st : σ) (h0 : I st 0) :
    Ev (fun k => g k st 0) (runL f fin (bytesOf s) st) := by
  have key : ∀ (d i : Nat) (st : σ), i + d = s.size → I st i → ∀ k, K + d < k → g k st (i : Int) = some (runL f fin ((bytesOf s).drop i) st) := by
    intro d
    induction d with
    | zero =>
      intro i st hd hI k hk
      obtain ⟨k, rfl⟩ : ∃ m, k = m + 1 := ⟨k - 1, by omega⟩
      have e : i = s.size := by omega
      subst e
      rw [hend k st (by omega) hI, List.drop_of_length_le (by rw [bytesOf_length]; exact Nat.le_refl _)]
      rfl
    | succ d ih =>
      intro i st hd hI k hk
      obtain ⟨k, rfl⟩ : ∃ m, k = m + 1 := ⟨k - 1, by omega⟩
      obtain ⟨h1, h2⟩ := hstep k st i (by omega) (by omega) hI
      rw [drop_bt s i (by omega)]
      show g (k + 1) st i = some (match f st (bt s i) with | .inl st' => runL f fin ((bytesOf s).drop (i + 1)) st' | .inr b => b)
      cases hf : f st (bt s i) with
      | inl st' =>
        obtain ⟨e, hI'⟩ := h1 st' hf
        rw [e]
        exact ih (i + 1) st' (by omega) hI' k (by omega)
      | inr b => exact h2 b hf
  refine ⟨K + s.size + 1, fun k hk => ?_⟩
  have := key s.size 0 st (by omega) h0 k (by omega)
  rw [List.drop_zero] at this
  exact this

/-- A loop that asks each byte. -/
theorem ev_all (s : ByteArray) (p : Int → Bool) (g : Nat → Int → Option Bool) (K : Nat)
    (h1 : ∀ k (i : Nat), K ≤ k → i < s.size → p (bt s i) = true → g (k + 1) i = g k ((i + 1 : Nat) : Int))
    (h0 : ∀ k (i : Nat), K ≤ k → i < s.size → p (bt s i) = false → g (k + 1) i = some false)
    (he : ∀ k, K ≤ k → g (k + 1) (s.size : Int) = some true) : Ev (fun k => g k 0) ((bytesOf s).all p) := by
  have h := ev_run (σ := Unit) (β := Bool) s (fun _ _ => True) (fun _ c => if p c = true then .inl () else .inr false) (fun _ => true) (fun k _ i => g k i) K
    (fun k st i hk hi _ => ⟨fun st' e => ⟨h1 k i hk hi (by
        by_cases hp : p (bt s i) = true
        · exact hp
        · rw [if_neg hp] at e; cases e), trivial⟩, fun b e => by
        by_cases hp : p (bt s i) = true
        · rw [if_pos hp] at e; cases e
        · rw [if_neg hp] at e
          obtain rfl : false = b := by injection e
          exact h0 k i hk hi (by simpa using hp)⟩)
    (fun k st hk _ => he k hk) () trivial
  have e : ∀ l : List Int, runL (σ := Unit) (β := Bool) (fun _ c => if p c = true then .inl () else .inr false) (fun _ => true) l () = l.all p := by
    intro l
    induction l with
    | nil => rfl
    | cons c cs ih =>
      rw [List.all_cons]
      unfold runL
      by_cases hp : p c = true
      · simp only [hp, if_true, Bool.true_and]; exact ih
      · simp only [(by simpa using hp : p c = false), Bool.false_and, Bool.false_eq_true, if_false]
  rw [e] at h
  exact h
theorem runL_all {β : Type} (p : Int → Bool) (r b : β) (l : List Int) : runL (σ := Unit) (fun _ c => if p c = true then .inl () else .inr b) (fun _ => r) l () = if l.all p = true then r else b := by
  induction l with
  | nil => rfl
  | cons c cs ih =>
    rw [List.all_cons]
    unfold runL
    by_cases hp : p c = true
    · simp only [hp, if_true, Bool.true_and]; exact ih
    · simp only [(by simpa using hp : p c = false), Bool.false_and, Bool.false_eq_true, if_false]
/-- A loop that asks each byte, and goes on behind it. -/
theorem ev_allr {β : Type} (s : ByteArray) (p : Int → Bool) (r b : β) (g : Nat → Int → Option β) (K : Nat)
    (h1 : ∀ k (i : Nat), K ≤ k → i < s.size → p (bt s i) = true → g (k + 1) i = g k ((i + 1 : Nat) : Int))
    (h0 : ∀ k (i : Nat), K ≤ k → i < s.size → p (bt s i) = false → g (k + 1) i = some b)
    (he : ∀ k, K ≤ k → g (k + 1) (s.size : Int) = some r) : Ev (fun k => g k 0) (if (bytesOf s).all p = true then r else b) := by
  rw [← runL_all p r b (bytesOf s)]
  refine ev_run (σ := Unit) s (fun _ _ => True) (fun _ c => if p c = true then .inl () else .inr b) (fun _ => r) (fun k _ i => g k i) K
    (fun k st i hk hi _ => ⟨fun st' e => ⟨h1 k i hk hi (by
        by_cases hp : p (bt s i) = true
        · exact hp
        · rw [if_neg hp] at e; cases e), trivial⟩, fun b' e => by
        by_cases hp : p (bt s i) = true
        · rw [if_pos hp] at e; cases e
        · rw [if_neg hp] at e
          obtain rfl : b = b' := by injection e
          exact h0 k i hk hi (by simpa using hp)⟩)
    (fun k st hk _ => he k hk) () trivial
/-- A loop that puts something behind a list for each byte. -/
theorem runL_flat {β : Type} (f : Int → List Int) (fin : List Int → β) (l st : List Int) : runL (fun st c => .inl (st ++ f c)) fin l st = fin (st ++ l.flatMap f) := by
  induction l generalizing st with
  | nil => simp [runL]
  | cons c cs ih =>
    unfold runL
    simp only [ih, List.flatMap_cons, List.append_assoc]
theorem ev_const {α : Type} {x : Option α} {r : α} (h : x = some r) : Ev (fun _ => x) r := ⟨0, fun _ _ => h⟩
theorem ev_eq {α : Type} {g : Nat → Option α} {r r' : α} (h : Ev g r) (e : r = r') : Ev g r' := e ▸ h
/-- From a number of rounds on: a law that holds at each such number. -/
theorem ev_now {α : Type} {g : Nat → Option α} {r : α} (K : Nat) (h : ∀ k, K ≤ k → g k = some r) : Ev g r := ⟨K, h⟩
theorem all_congr' {l : List Int} {p q : Int → Bool} (h : ∀ c ∈ l, p c = q c) : l.all p = l.all q := by
  induction l with
  | nil => rfl
  | cons a l ih =>
    rw [List.all_cons, List.all_cons, h a List.mem_cons_self, ih fun c hc => h c (List.mem_cons_of_mem _ hc)]
end Go.Proofs.YtpolkndhjcdheaaDoor.Q
namespace Go.Proofs.YtpolkndhjcdheaaDoor.Q
set_option linter.unusedVariables false
set_option linter.unusedSimpArgs false
open Go.RowKit Go.Proofs.YtpolkndhjcdheaaDoor.P Go.Proofs.YtpolkndhjcdheaaDoorW.PrintWords Go.Proofs.YtpolkndhjcdheaaDoorW.PrintLast Go.Proofs.YtpolkndhjcdheaaDoorW.PrintMore

def visB (c : Int) : Bool := decide (32 ≤ c) && decide (c ≤ 126) || decide (c = 9)
def digB (c : Int) : Bool := decide (48 ≤ c) && decide (c ≤ 57)
def letB (c : Int) : Bool := decide (97 ≤ c) && decide (c ≤ 122) || decide (65 ≤ c) && decide (c ≤ 90)
def hexB (c : Int) : Bool := digB c || decide (97 ≤ c) && decide (c ≤ 102) || decide (65 ≤ c) && decide (c ≤ 70)
def tagB (c : Int) : Bool := decide (33 ≤ c) && decide (c ≤ 126) && decide (c ≠ 34)
def tokB (c : Int) : Bool := letB c || digB c || decide (c ∈ [33, 35, 36, 37, 38, 39, 42, 43, 45, 46, 94, 95, 124, 126, 96])
def plaB (c : Int) : Bool := letB c || digB c || decide (c ∈ [45, 46, 95, 126, 47, 58, 64, 33, 36, 38, 39, 40, 41, 42, 43, 44, 59, 61])

theorem impl_isDigit_is (c : Int) : impl_isDigit.f c = some (digB c) := by
  unfold impl_isDigit.f digB
  by_cases h1 : c ≥ 48 <;> simp [h1] <;> omega
theorem impl_isHex_is (c : Int) : impl_isHex.f c = some (hexB c) := by
  unfold impl_isHex.f hexB
  rw [impl_isDigit_is]
  cases h0 : digB c <;> by_cases h1 : c ≥ 97 <;> by_cases h2 : c ≤ 102 <;> by_cases h3 : c ≥ 65 <;> by_cases h4 : c ≤ 70 <;> simp [h1, h2, h3, h4] <;> omega

/-- A law on bytes, tried at each. -/
theorem byte_cases {p : Int → Prop} (h : ∀ n : Fin 256, p (n.val : Int)) (c : Int) (h0 : 0 ≤ c) (h1 : c ≤ 255) : p c := by
  have := h ⟨c.toNat, by omega⟩
  rwa [show ((⟨c.toNat, by omega⟩ : Fin 256).val : Int) = c from by show (c.toNat : Int) = c; omega] at this
/-- A hexadecimal digit's value, or -1. -/
def hexV (c : Int) : Int := if digB c = true then c - 48 else if 97 ≤ c ∧ c ≤ 102 then c - 87 else if 65 ≤ c ∧ c ≤ 70 then c - 55 else -1
theorem hexV_neg (c : Int) : decide (hexV c < 0) = !hexB c := by
  unfold hexV hexB
  cases h0 : digB c
  · by_cases h1 : 97 ≤ c ∧ c ≤ 102
    · simp [h1]; omega
    · by_cases h2 : 65 ≤ c ∧ c ≤ 70
      · have h1' : (decide (97 ≤ c) && decide (c ≤ 102)) = false := by simp; omega
        simp [h1, h1', h2]; omega
      · have h1' : (decide (97 ≤ c) && decide (c ≤ 102)) = false := by simp; omega
        have h2' : (decide (65 ≤ c) && decide (c ≤ 70)) = false := by simp; omega
        simp [h1, h1', h2, h2']
  · unfold digB at h0
    simp at h0
    simp
    omega
theorem spec_l1Hex_is (c : Int) (h0 : 0 ≤ c) (h1 : c ≤ 255) (k : Nat) (hk : 2 ≤ k) : spec_l1Hex.f k c = some (hexV c) :=
  at_rounds (fun k => spec_l1Hex.mono c k) hk (byte_cases (p := fun c => spec_l1Hex.f 2 c = some (hexV c)) (by decide +kernel) c h0 h1)
/-- 'all' over a predicate. -/
theorem all_hex (s : ByteArray) (hs : s.size ≤ 9223372036854775807) : impl_all.f s 51 = some ((bytesOf s).all hexB) := by
  unfold impl_all.f
  rw [if_pos hs]
  simp only [Nat.reduceEqDiff, if_true, if_false, reduceIte]
  rw [all_congr' fun c hc => (by rw [impl_isHex_is]; cases hexB c <;> rfl : (impl_isHex.f c == some true) = hexB c)]
theorem all_dig (s : ByteArray) (hs : s.size ≤ 9223372036854775807) : impl_all.f s 53 = some ((bytesOf s).all digB) := by
  unfold impl_all.f
  rw [if_pos hs]
  simp only [Nat.reduceEqDiff, if_true, if_false, reduceIte]
  rw [all_congr' fun c hc => (by rw [impl_isDigit_is]; cases digB c <;> rfl : (impl_isDigit.f c == some true) = digB c)]
theorem bytes_extract (s : ByteArray) (a b : Nat) : bytesOf (s.extract a b) = ((bytesOf s).drop a).take (b - a) := by
  unfold bytesOf
  rw [Lib.extract_data, List.map_take, List.map_drop]
theorem bytes_last (s : ByteArray) (h : 0 < s.size) : bytesOf s = bytesOf (s.extract 0 (s.size - 1)) ++ [bt s ((s.size - 1 : Nat) : Int)] := by
  rw [bytes_extract, List.drop_zero, Nat.sub_zero]
  have h1 := drop_bt s (s.size - 1) (by omega)
  have h2 : (bytesOf s).drop (s.size - 1 + 1) = [] := List.drop_of_length_le (by rw [bytesOf_length]; omega)
  rw [h2] at h1
  rw [← h1, List.take_append_drop]
theorem bytes_first (s : ByteArray) (h : 0 < s.size) : bytesOf s = bt s 0 :: bytesOf (s.extract 1 s.size) := by
  rw [bytes_extract]
  have h1 := drop_bt s 0 h
  rw [List.drop_zero] at h1
  rw [List.take_of_length_le (by rw [List.length_drop, bytesOf_length]; exact Nat.le_refl _)]
  exact h1
theorem size_extract (s : ByteArray) (a b : Nat) (hb : b ≤ s.size) : (s.extract a b).size = b - a := by
  rw [← bytesOf_length, bytes_extract, List.length_take, List.length_drop, bytesOf_length]
  omega
theorem toList_nil (s : ByteArray) : s.toList = [] ↔ s.size = 0 := by
  rw [toList_data, ← data_length]
  exact List.length_eq_zero_iff.symm
theorem bytes_nil (s : ByteArray) (h : s.size = 0) : bytesOf s = [] := List.eq_nil_of_length_eq_zero (by rw [bytesOf_length]; exact h)
theorem bytes_ofList (l : List UInt8) : bytesOf ⟨l.toArray⟩ = l.map fun b => (b.toNat : Int) := by
  unfold bytesOf
  rfl
theorem bytes_two (s : ByteArray) (i : Nat) (h : i + 2 ≤ s.size) : bytesOf (s.extract i (i + 2)) = [bt s (i : Int), bt s ((i + 1 : Nat) : Int)] := by
  rw [bytes_extract, drop_bt s i (by omega), drop_bt s (i + 1) (by omega), show i + 2 - i = 2 from by omega]
  rfl
/-- From some number of rounds on it answers, and the answer is as told. -/
def TotP {α : Type} (g : Nat → Option α) (P : α → Prop) : Prop := ∃ r, Ev g r ∧ P r
theorem TotP.bind {α β : Type} {g : Nat → Option α} {f : Nat → α → Option β} {P : α → Prop} {Q : β → Prop} (h : TotP g P) (k : ∀ a, P a → TotP (fun n => f n a) Q) : TotP (fun n => (g n).bind (f n)) Q := by
  obtain ⟨a, ha, pa⟩ := h
  obtain ⟨b, hb, qb⟩ := k a pa
  exact ⟨b, Ev.bind ha hb, qb⟩
theorem TotP.of {α : Type} {x : Option α} {P : α → Prop} (h : ∃ r, x = some r ∧ P r) : TotP (fun _ => x) P := by
  obtain ⟨r, e, p⟩ := h
  exact ⟨r, ev_const e, p⟩
theorem TotP.now {α : Type} {r : α} {P : α → Prop} (p : P r) : TotP (fun _ => some r) P := ⟨r, Ev.now r, p⟩
theorem TotP.imp {α : Type} {g : Nat → Option α} {P Q : α → Prop} (h : TotP g P) (pq : ∀ r, P r → Q r) : TotP g Q := by
  obtain ⟨r, e, p⟩ := h
  exact ⟨r, e, pq r p⟩
theorem TotP.step {α : Type} {g f : Nat → Option α} {P : α → Prop} (h : ∀ k, g (k + 1) = f k) (t : TotP f P) : TotP g P := by
  obtain ⟨r, e, p⟩ := t
  exact ⟨r, Ev.step h e, p⟩
theorem TotP.ite {α : Type} {c : Prop} [Decidable c] {f g : Nat → Option α} {P : α → Prop} (hf : c → TotP f P) (hg : ¬ c → TotP g P) : TotP (fun k => if c then f k else g k) P := by
  by_cases h : c
  · simp only [if_pos h]; exact hf h
  · simp only [if_neg h]; exact hg h
theorem bindOf {α β : Type} {x : Option α} {f : α → Option β} {P : α → Prop} {Q : β → Prop} (h : ∃ r, x = some r ∧ P r) (k : ∀ a, P a → ∃ r, f a = some r ∧ Q r) : ∃ r, x.bind f = some r ∧ Q r := by
  obtain ⟨a, rfl, p⟩ := h
  exact k a p

theorem and255 (a : Int) : 0 ≤ Go.bits .and .i64 a 255 ∧ Go.bits .and .i64 a 255 ≤ 255 := by
  unfold Go.bits
  have h : ((BitVec.ofInt IntKind.i64.bits a) &&& (BitVec.ofInt IntKind.i64.bits 255)).toNat ≤ 255 := by
    rw [BitVec.toNat_and]
    exact Nat.le_trans Nat.and_le_right (by decide)
  show 0 ≤ IntKind.i64.wrap ((((BitVec.ofInt IntKind.i64.bits a) &&& (BitVec.ofInt IntKind.i64.bits 255)).toNat : Nat) : Int) ∧ IntKind.i64.wrap ((((BitVec.ofInt IntKind.i64.bits a) &&& (BitVec.ofInt IntKind.i64.bits 255)).toNat : Nat) : Int) ≤ 255
  generalize ((BitVec.ofInt IntKind.i64.bits a) &&& (BitVec.ofInt IntKind.i64.bits 255)).toNat = n at h ⊢
  rw [IntKind.wrap_i64]
  omega
/-- The cursor's place is no negative number. -/
theorem byte_ok (b : List Int) (i h : Int) (h0 : 0 ≤ i) (hb : b.length ≤ 140737488351232) : ∃ r : Int × Int × Int, spec_l1Byte.f b i h = some r ∧ (0 ≤ r.1 ∧ r.1 ≤ 255 ∧ 0 ≤ r.2.1) := by
  unfold spec_l1Byte.f
  by_cases hi : i < (b.length : Int)
  · rw [if_pos hi, if_pos h0]
    exact ⟨_, rfl, (and255 _).1, (and255 _).2, by show 0 ≤ wrap64 (i + 1); rw [wrap_in (by omega) (by omega)]; omega⟩
  · rw [if_neg hi]
    exact ⟨_, rfl, (and255 _).1, (and255 _).2, h0⟩
theorem below_ok (b : List Int) (i h n : Int) (h0 : 0 ≤ i) (hb : b.length ≤ 140737488351232) :
    ∃ r : Int × Int × Int, spec_l1Below.f b i h n = some r ∧ (0 ≤ r.1 ∧ (0 < n → r.1 < n) ∧ (n ≤ 0 → r.1 = 0) ∧ 0 ≤ r.2.1) := by
  unfold spec_l1Below.f
  by_cases hn : n ≤ 0
  · rw [if_pos hn]
    exact ⟨_, rfl, by show (0 : Int) ≤ 0; omega, fun h => by omega, fun _ => rfl, h0⟩
  · rw [if_neg hn]
    by_cases h2 : n ≤ 256
    · rw [if_pos h2]
      refine bindOf (byte_ok b i h h0 hb) fun r ⟨r0, r1, r2⟩ => ?_
      rw [if_neg (by omega)]
      refine ⟨_, rfl, ?_, fun _ => ?_, fun h => by omega, r2⟩
      · show 0 ≤ Int.tmod r.1 n
        rw [Int.tmod_eq_emod_of_nonneg r0]; exact Int.emod_nonneg _ (by omega)
      · show Int.tmod r.1 n < n
        rw [Int.tmod_eq_emod_of_nonneg r0]; exact Int.emod_lt_of_pos _ (by omega)
    · rw [if_neg h2]
      refine bindOf (byte_ok b i h h0 hb) fun r ⟨r0, r1, r2⟩ => ?_
      refine bindOf (byte_ok b _ _ r2 hb) fun s ⟨s0, s1, s2⟩ => ?_
      refine bindOf (byte_ok b _ _ s2 hb) fun t ⟨t0, t1, t2⟩ => ?_
      refine bindOf (byte_ok b _ _ t2 hb) fun u ⟨u0, u1, u2⟩ => ?_
      rw [if_neg (by omega)]
      rw [wrap_in (i := r.1 * 16777216) (by omega) (by omega), wrap_in (i := s.1 * 65536) (by omega) (by omega), wrap_in (i := r.1 * 16777216 + s.1 * 65536) (by omega) (by omega), wrap_in (i := t.1 * 256) (by omega) (by omega), wrap_in (i := r.1 * 16777216 + s.1 * 65536 + t.1 * 256) (by omega) (by omega), wrap_in (i := r.1 * 16777216 + s.1 * 65536 + t.1 * 256 + u.1) (by omega) (by omega)]
      refine ⟨_, rfl, ?_, fun _ => ?_, fun h => by omega, u2⟩
      · show 0 ≤ Int.tmod _ n
        rw [Int.tmod_eq_emod_of_nonneg (by omega)]; exact Int.emod_nonneg _ (by omega)
      · show Int.tmod _ n < n
        rw [Int.tmod_eq_emod_of_nonneg (by omega)]; exact Int.emod_lt_of_pos _ (by omega)
theorem once_ok (b : List Int) (i h n : Int) (h0 : 0 ≤ i) (hb : b.length ≤ 140737488351232) :
    ∃ r : Bool × Int × Int, spec_l1Once.f b i h n = some r ∧ 0 ≤ r.2.1 := by
  unfold spec_l1Once.f
  exact bindOf (below_ok b i h n h0 hb) fun r ⟨_, _, _, r3⟩ => ⟨_, rfl, r3⟩
theorem new_loop (b : List Int) (hb : b.length ≤ 140737488351232) (d : Nat) : ∀ (i : Nat) (x : Int), i + d = b.length → ∃ h, ∀ k, d < k → spec_l1New.l0 k b x (i : Int) = some (b, 0, h) := by
  induction d with
  | zero =>
    intro i x hd
    refine ⟨x, fun k hk => ?_⟩
    obtain ⟨k, rfl⟩ : ∃ z, k = z + 1 := ⟨k - 1, by omega⟩
    simp only [spec_l1New.l0]
    rw [if_neg (by omega)]
  | succ d ih =>
    intro i x hd
    obtain ⟨h, hh⟩ := ih (i + 1) (Go.bits .and .i64 (wrap64 ((wrap64 ((wrap64 (x * 137)) + (wrap64 (rd b (i : Int))))) + 11)) 1073741823) (by omega)
    refine ⟨h, fun k hk => ?_⟩
    obtain ⟨k, rfl⟩ : ∃ z, k = z + 1 := ⟨k - 1, by omega⟩
    simp only [spec_l1New.l0]
    rw [if_pos (by omega), if_pos (by omega), wrap_in (i := (i : Int) + 1) (by omega) (by omega)]
    exact hh k (by omega)
theorem new_ok (b : List Int) (hb : b.length ≤ 140737488351232) : TotP (fun k => spec_l1New.f k b) (fun r => r.1 = b ∧ 0 ≤ r.2.1) := by
  obtain ⟨h, hh⟩ := new_loop b hb b.length 0 (wrap64 (109013 + (b.length : Int))) (by omega)
  refine ⟨(b, 0, h), ⟨b.length + 1, fun k hk => ?_⟩, rfl, by show (0 : Int) ≤ 0; omega⟩
  unfold spec_l1New.f
  exact hh k (by omega)
theorem strOfNums_size (l : List Int) : (strOfNums l).size = l.length := by
  show (strOfNums l).data.size = _
  rw [← Array.length_toList, strOfNums_data, List.length_map]
theorem drawText_end (b : List Int) (hb : b.length ≤ 140737488351232) (x : List Int) (i h : Int) (h0 : 0 ≤ i) (k : Nat) : ∃ r, spec_l1DrawText.j1 (k + 1) x (decide ((x.length : Int) > 0)) b i h = some r ∧ (0 ≤ r.2.1 ∧ r.1.size = x.length) := by
  simp only [spec_l1DrawText.j1]
  by_cases hx : (x.length : Int) > 0
  · rw [decide_eq_true hx, if_pos rfl]
    refine bindOf (below_ok b i h _ h0 hb) fun r0 p0 => ?_
    refine bindOf (byte_ok b _ _ p0.2.2.2 hb) fun r1 p1 => ?_
    rw [if_pos p0.1, if_pos (p0.2.1 (by omega))]
    exact ⟨_, rfl, p1.2.2, by show (strOfNums _).size = _; rw [strOfNums_size, List.length_set]⟩
  · rw [decide_eq_false hx, if_neg (by simp)]
    exact ⟨_, rfl, h0, by show (strOfNums _).size = _; rw [strOfNums_size]⟩
theorem drawText_stop (b : List Int) (hb : b.length ≤ 140737488351232) (x : List Int) (i h : Int) (h0 : 0 ≤ i) (k : Nat) : ∃ r, spec_l1DrawText.j1 (k + 1) x false b i h = some r ∧ (0 ≤ r.2.1 ∧ r.1.size = x.length) := by
  simp only [spec_l1DrawText.j1]
  rw [if_neg (by simp)]
  exact ⟨_, rfl, h0, by show (strOfNums _).size = _; rw [strOfNums_size]⟩
theorem drawText_loop (b : List Int) (hb : b.length ≤ 140737488351232) (signs : ByteArray) (hs : 0 < signs.size) (d : Nat) : ∀ (x : List Int) (i h : Int), 0 ≤ i → x.length + d ≤ 1000000 →
    ∃ r, (0 ≤ r.2.1 ∧ r.1.size = x.length + d) ∧ ∀ k, d + 1 < k → spec_l1DrawText.l0 k signs x (d : Int) b i h = some r := by
  induction d with
  | zero =>
    intro x i h h0 hd
    obtain ⟨r0, e0, p0⟩ := once_ok b i h 14 h0 hb
    by_cases hc : r0.1 = true
    · obtain ⟨r1, _, p1⟩ := drawText_end b hb x r0.2.1 r0.2.2 p0 0
      refine ⟨r1, p1, fun k hk => ?_⟩
      obtain ⟨k, rfl⟩ : ∃ z, k = z + 2 := ⟨k - 2, by omega⟩
      simp only [spec_l1DrawText.l0]
      rw [if_neg (by omega), e0]
      simp only [Option.bind_some]
      rw [if_pos hc]
      obtain ⟨r2, e2, _⟩ := drawText_end b hb x r0.2.1 r0.2.2 p0 k
      have e3 : spec_l1DrawText.j1 (k + 1) x (decide ((x.length : Int) > 0)) b r0.2.1 r0.2.2 = spec_l1DrawText.j1 (0 + 1) x (decide ((x.length : Int) > 0)) b r0.2.1 r0.2.2 := by simp only [spec_l1DrawText.j1]
      rw [e3]
      assumption
    · refine ⟨(strOfNums x, r0.2.1, r0.2.2), ⟨p0, by show (strOfNums x).size = _; rw [strOfNums_size]; rfl⟩, fun k hk => ?_⟩
      obtain ⟨k, rfl⟩ : ∃ z, k = z + 2 := ⟨k - 2, by omega⟩
      simp only [spec_l1DrawText.l0]
      rw [if_neg (by omega), e0]
      simp only [Option.bind_some]
      rw [if_neg hc]
      simp only [spec_l1DrawText.j1]
      rw [if_neg (by simp)]
  | succ d ih =>
    intro x i h h0 hd
    obtain ⟨r0, e0, p0⟩ := below_ok b i h (signs.size : Int) h0 hb
    obtain ⟨r, p, hr⟩ := ih (x ++ [bt signs r0.1]) r0.2.1 r0.2.2 p0.2.2.2 (by rw [List.length_append, List.length_singleton]; omega)
    refine ⟨r, ⟨p.1, by rw [p.2, List.length_append, List.length_singleton]; omega⟩, fun k hk => ?_⟩
    obtain ⟨k, rfl⟩ : ∃ z, k = z + 1 := ⟨k - 1, by omega⟩
    simp only [spec_l1DrawText.l0]
    rw [if_pos (by omega), e0]
    simp only [Option.bind_some]
    rw [if_pos p0.1, if_pos (p0.2.1 (by omega)), if_pos (by omega), wrap_in (i := ((d + 1 : Nat) : Int) - 1) (by omega) (by omega), show ((d + 1 : Nat) : Int) - 1 = (d : Int) by omega]
    exact hr k (by omega)
theorem drawText_ok (b : List Int) (hb : b.length ≤ 140737488351232) (i h : Int) (h0 : 0 ≤ i) (signs : ByteArray) (hs : 0 < signs.size) (m : Int) (m0 : 0 ≤ m) (m1 : m ≤ 1000) :
    TotP (fun k => spec_l1DrawText.f k b i h signs m) (fun r => 0 ≤ r.2.1 ∧ r.1.size ≤ m.toNat) := by
  unfold spec_l1DrawText.f
  rw [wrap_in (i := m + 1) (by omega) (by omega)]
  refine TotP.bind (TotP.of (below_ok b i h _ h0 hb)) fun r0 p0 => ?_
  obtain ⟨r, p, hr⟩ := drawText_loop b hb signs hs r0.1.toNat [] r0.2.1 r0.2.2 p0.2.2.2 (by have := p0.2.1 (by omega); simp only [List.length_nil]; omega)
  refine ⟨r, ⟨r0.1.toNat + 2, fun k hk => ?_⟩, p.1, by rw [p.2]; have := p0.2.1 (by omega); simp only [List.length_nil]; omega⟩
  have := hr k (by omega)
  rw [Int.toNat_of_nonneg p0.1] at this
  exact this
theorem rd_byte (b : List Int) (hx : ∀ x ∈ b, 0 ≤ x ∧ x ≤ 255) (i : Int) : 0 ≤ rd b i ∧ rd b i ≤ 255 := by
  unfold rd
  rw [List.getD_eq_getElem?_getD]
  cases h : b[i.toNat]? with
  | none => exact ⟨by decide, by decide⟩
  | some v => exact hx v (List.mem_of_getElem? h)
theorem pick_loop (b : List Int) (hb : b.length ≤ 140737488351232) (hx : ∀ x ∈ b, 0 ≤ x ∧ x ≤ 255) (s n : Int) (hs : 0 ≤ s ∧ s ≤ 1000) (hn : 0 < n) (d : Nat) : ∀ (i : Nat) (x : Int), i + d = b.length → 0 ≤ x → x ≤ 9000000000000000 → (∃ r, (0 ≤ r ∧ r < n) ∧ ∀ k, d < k → laws_pick.l0 k b s n x (i : Int) = some r) := by
  induction d with
  | zero =>
    intro i x hd x0 x1
    refine ⟨Int.tmod x n, ?_, fun k hk => ?_⟩
    · rw [Int.tmod_eq_emod_of_nonneg x0]; exact ⟨Int.emod_nonneg _ (by omega), Int.emod_lt_of_pos _ hn⟩
    obtain ⟨k, rfl⟩ : ∃ z, k = z + 1 := ⟨k - 1, by omega⟩
    simp only [laws_pick.l0]
    rw [if_neg (by omega), if_neg (by omega)]
  | succ d ih =>
    intro i x hd x0 x1
    have hr := rd_byte b hx (i : Int)
    have e : wrap64 ((wrap64 ((wrap64 (x * 113)) + (wrap64 (rd b (i : Int))))) + s) = x * 113 + rd b (i : Int) + s := by
      rw [wrap_in (i := x * 113) (by omega) (by omega), wrap_in (i := rd b (i : Int)) (by omega) (by omega), wrap_in (i := x * 113 + rd b (i : Int)) (by omega) (by omega), wrap_in (by omega) (by omega)]
    have e1 : 0 ≤ Int.tmod (x * 113 + rd b (i : Int) + s) 1000003 ∧ Int.tmod (x * 113 + rd b (i : Int) + s) 1000003 ≤ 9000000000000000 := by
      rw [Int.tmod_eq_emod_of_nonneg (by omega)]
      omega
    obtain ⟨r, p, hr⟩ := ih (i + 1) (Int.tmod (x * 113 + rd b (i : Int) + s) 1000003) (by omega) e1.1 e1.2
    refine ⟨r, p, fun k hk => ?_⟩
    obtain ⟨k, rfl⟩ : ∃ z, k = z + 1 := ⟨k - 1, by omega⟩
    simp only [laws_pick.l0]
    rw [if_pos (by omega), if_pos (by omega), wrap_in (i := (i : Int) + 1) (by omega) (by omega), e]
    exact hr k (by omega)
theorem pick_ok (b : List Int) (hb : b.length ≤ 140737488351232) (hx : ∀ x ∈ b, 0 ≤ x ∧ x ≤ 255) (s n : Int) (hs : 0 ≤ s ∧ s ≤ 1000) (hn : 0 < n) : TotP (fun k => laws_pick.f k b s n) (fun r => 0 ≤ r ∧ r < n) := by
  have e : wrap64 ((b.length : Int) + (wrap64 (7919 * s))) = b.length + 7919 * s := by rw [wrap_in (i := 7919 * s) (by omega) (by omega), wrap_in (by omega) (by omega)]
  obtain ⟨r, p, hr⟩ := pick_loop b hb hx s n hs hn b.length 0 ((b.length : Int) + 7919 * s) (by omega) (by omega) (by omega)
  refine ⟨r, ⟨b.length + 1, fun k hk => ?_⟩, p⟩
  unfold laws_pick.f
  rw [e]
  exact hr k (by omega)
def inB (x a b : Int) : Bool := decide (a ≤ x) && decide (x ≤ b)
theorem spec_l1In_is (x a b : Int) : spec_l1In.f x a b = some (inB x a b) := by
  unfold spec_l1In.f inB
  by_cases h : x ≥ a
  · rw [if_pos h, decide_eq_true (by omega : a ≤ x), Bool.true_and]
  · rw [if_neg h, decide_eq_false (by omega : ¬ a ≤ x), Bool.false_and]
theorem impl_within_is (x a b : Int) : impl_within.f x a b = some (inB x a b) := by
  unfold impl_within.f inB
  by_cases h : x ≥ a
  · rw [if_pos h, decide_eq_true (by omega : a ≤ x), Bool.true_and]
  · rw [if_neg h, decide_eq_false (by omega : ¬ a ≤ x), Bool.false_and]
theorem inB_true {x a b : Int} (h : inB x a b = true) : a ≤ x ∧ x ≤ b := by unfold inB at h; simpa using h
def hexD (n : Nat) : ByteArray := strOfNums [bt digs36 (n : Int)]
/-- A number's hexadecimal numeral. -/
def hexT (n : Nat) : ByteArray := strOfNums (hexL n)
theorem hex_digit (m : Nat) (h : m < 16) : (⟨#[48, 49, 50, 51, 52, 53, 54, 55, 56, 57, 97, 98, 99, 100, 101, 102]⟩ : ByteArray).extract m (m + 1) = hexD m := by
  have key : ∀ i : Fin 16, ((⟨#[48, 49, 50, 51, 52, 53, 54, 55, 56, 57, 97, 98, 99, 100, 101, 102]⟩ : ByteArray).extract i.1 (i.1 + 1)).data.toList = (hexD i.1).data.toList := by decide
  have := key ⟨m, h⟩
  exact ByteArray.ext (Array.toList_inj.1 this)
theorem hexD_size (n : Nat) : (hexD n).size = 1 := by
  unfold hexD strOfNums
  rfl
theorem hex_app (l : List Int) (d : Nat) (s : ByteArray) : strOfNums l ++ (hexD d ++ s) = strOfNums (l ++ [bt digs36 (d : Int)]) ++ s := by
  apply ByteArray.ext
  apply Array.toList_inj.1
  unfold hexD
  simp only [ByteArray.data_append, Array.toList_append, strOfNums_data, List.map_append, List.append_assoc]
theorem hex_step (k n : Nat) (s : ByteArray) (h : s.toList = [] ∨ 0 < n) (hn : n ≤ 9000000000000000000) (hs : s.size ≤ 1000) :
    spec_Hex.l0 (k + 1) (n : Int) s = spec_Hex.l0 k ((n / 16 : Nat) : Int) (hexD (n % 16) ++ s) := by
  have e1 : Int.tmod (n : Int) 16 = ((n % 16 : Nat) : Int) := by rw [Int.tmod_eq_emod_of_nonneg (by omega)]; omega
  have e2 : wrap64 (((n % 16 : Nat) : Int) + 1) = ((n % 16 + 1 : Nat) : Int) := by rw [wrap_in (by omega) (by omega)]; omega
  have e3 : wrap64 (Int.tdiv (n : Int) 16) = ((n / 16 : Nat) : Int) := by rw [Int.tdiv_eq_ediv_of_nonneg (by omega), wrap_in (by omega) (by omega)]; omega
  have e4 := hex_digit (n % 16) (Nat.mod_lt _ (by decide))
  simp only [spec_Hex.l0]
  by_cases h1 : s.toList = []
  · rw [if_pos h1, e1, e2, e3, if_pos (by omega), if_pos (by omega), if_pos (by omega), Int.toNat_natCast, Int.toNat_natCast, e4, if_pos (by rw [hexD_size]; omega)]
  · have h0 := h.resolve_left h1
    rw [if_neg h1, if_pos (by omega), e1, e2, e3, if_pos (by omega), if_pos (by omega), if_pos (by omega), Int.toNat_natCast, Int.toNat_natCast, e4, if_pos (by rw [hexD_size]; omega)]
theorem hex_stop (k : Nat) (s : ByteArray) (h : s.toList ≠ []) : spec_Hex.l0 (k + 1) 0 s = some s := by
  simp only [spec_Hex.l0]
  rw [if_neg h, if_neg (by omega)]
theorem hex_ne (d : Nat) (s : ByteArray) : (hexD d ++ s).toList ≠ [] := by
  rw [toList_data]
  simp [hexD, ByteArray.data_append, strOfNums_data]
theorem hex_loop (d : Nat) : ∀ (n : Nat) (s : ByteArray), n < 16 ^ (d + 1) → (s.toList = [] ∨ 0 < n) → n ≤ 9000000000000000000 → s.size + d ≤ 1000 → Ev (fun k => spec_Hex.l0 k (n : Int) s) (strOfNums (hexL n) ++ s) := by
  induction d with
  | zero =>
    intro n s hn h hb hs
    have h16 : n < 16 := by simpa using hn
    refine Ev.step (fun k => hex_step k n s h hb (by omega)) ?_
    rw [show n / 16 = 0 by omega, show n % 16 = n by omega, hexL, dif_pos h16]
    exact Ev.step (f := fun _ => some (hexD n ++ s)) (fun k => hex_stop k _ (hex_ne n s)) (Ev.now _)
  | succ d ih =>
    intro n s hn h hb hs
    refine Ev.step (fun k => hex_step k n s h hb (by omega)) ?_
    by_cases h16 : n < 16
    · rw [show n / 16 = 0 by omega, show n % 16 = n by omega, hexL, dif_pos h16]
      exact Ev.step (f := fun _ => some (hexD n ++ s)) (fun k => hex_stop k _ (hex_ne n s)) (Ev.now _)
    · rw [hexL, dif_neg h16, ← hex_app]
      exact ih (n / 16) (hexD (n % 16) ++ s) (by rw [Nat.pow_succ] at hn; omega) (.inr (by omega)) (by omega) (by rw [ByteArray.size_append, hexD_size]; omega)
def hexR (n : Int) : ByteArray := if inB n 0 4503599627370496 = true then hexT n.toNat else ⟨#[]⟩
theorem spec_Hex_ev (n : Int) : Ev (fun k => spec_Hex.f k n) (hexR n) := by
  unfold spec_Hex.f hexR
  rw [spec_l1In_is]
  simp only [Option.bind_some]
  by_cases h : inB n 0 4503599627370496 = true
  · simp only [if_pos h]
    have hr := inB_true h
    have := hex_loop 15 n.toNat ⟨#[]⟩ (by omega) (.inl ((toList_nil _).2 rfl)) (by omega) (by decide)
    rw [show ((n.toNat : Nat) : Int) = n by omega] at this
    refine ev_eq this ?_
    apply ByteArray.ext
    apply Array.toList_inj.1
    simp [ByteArray.data_append, hexT]
  · simp only [if_neg h]
    exact Ev.now _
theorem impl_Hex_is (n : Int) : impl_Hex.f n = some (hexR n) := by
  unfold impl_Hex.f hexR
  rw [impl_within_is]
  simp only [Option.bind_some]
  by_cases h : inB n 0 4503599627370496 = true
  · have hr := inB_true h
    rw [if_pos h, if_pos h]
    unfold strconv_FormatInt.f
    rw [if_pos ⟨rfl, hr.1, by omega⟩]
    rfl
  · rw [if_neg h, if_neg h]
theorem dgt_hex (c : Int) : dgt c = hexV c := by
  unfold dgt hexV digB
  by_cases h : 48 ≤ c ∧ c ≤ 57
  · rw [if_pos h, if_pos (by simp [h])]
  · have hb : (decide (48 ≤ c) && decide (c ≤ 57)) = false := by simp; omega
    rw [if_neg h, hb]
    simp
theorem hexV_lt (c : Int) : hexV c < 16 := by
  rw [← dgt_hex]
  unfold dgt
  split
  · omega
  · split
    · omega
    · split <;> omega
theorem hexB_is (c : Int) : hexB c = (decide (0 ≤ dgt c) && decide (dgt c < 16)) := by
  have h1 := hexV_neg c
  have h2 := hexV_lt c
  rw [dgt_hex, decide_eq_true h2, Bool.and_true]
  by_cases h : 0 ≤ hexV c
  · rw [decide_eq_false (by omega : ¬ hexV c < 0)] at h1
    rw [decide_eq_true h]
    cases hb : hexB c
    · rw [hb] at h1; cases h1
    · rfl
  · rw [decide_eq_true (by omega : hexV c < 0)] at h1
    rw [decide_eq_false h]
    cases hb : hexB c
    · rfl
    · rw [hb] at h1; cases h1
theorem digB_is (c : Int) : digB c = (decide (0 ≤ dgt c) && decide (dgt c < 10)) := by
  unfold digB dgt
  by_cases h : 48 ≤ c ∧ c ≤ 57
  · rw [if_pos h]
    have a : 0 ≤ c - 48 := by omega
    have b : c - 48 < 10 := by omega
    simp [h, a, b]
  · rw [if_neg h]
    have : (decide (48 ≤ c) && decide (c ≤ 57)) = false := by simp; omega
    rw [this]
    split
    · have : ¬ c - 87 < 10 := by omega
      simp [this]
    · split
      · have : ¬ c - 55 < 10 := by omega
        simp [this]
      · simp
theorem dgt_dig {c : Int} (h : digB c = true) : dgt c = c - 48 ∧ 48 ≤ c ∧ c ≤ 57 := by
  unfold digB at h
  simp at h
  unfold dgt
  rw [if_pos h]
  exact ⟨rfl, h⟩
theorem all_okB16 (l : List Int) : l.all hexB = okB 16 l := all_congr' fun c _ => hexB_is c
theorem all_okB10 (l : List Int) : l.all digB = okB 10 l := all_congr' fun c _ => digB_is c
/-- A text's number at a base, if it has one to so many digits. -/
def numOk (b : Int) (m : Nat) (p : Int → Bool) (s : ByteArray) : Int × Bool := if 1 ≤ s.size ∧ s.size ≤ m ∧ (bytesOf s).all p = true then (numB b (bytesOf s), true) else (0, false)
theorem runL_num (b : Int) (p : Int → Bool) (l : List Int) (st : Int) :
    runL (fun (st : Int) c => if p c = true then .inl (st * b + dgt c) else .inr ((0 : Int), false)) (fun st => (st, true)) l st = if l.all p = true then (l.foldl (fun n c => n * b + dgt c) st, true) else (0, false) := by
  induction l generalizing st with
  | nil => rfl
  | cons c cs ih =>
    rw [List.all_cons]
    unfold runL
    by_cases hp : p c = true
    · simp only [hp, if_true, Bool.true_and, ih, List.foldl_cons]
    · simp only [(by simpa using hp : p c = false), Bool.false_and, Bool.false_eq_true, if_false]
theorem num_next {b st d : Int} {i : Nat} (hb : 0 ≤ b) (h0 : 0 ≤ st) (h1 : st < b ^ i) (d0 : 0 ≤ d) (d1 : d < b) : 0 ≤ st * b ∧ 0 ≤ st * b + d ∧ st * b + d < b ^ (i + 1) := by
  have a := Int.mul_nonneg h0 hb
  rw [Int.pow_succ]
  have : (st + 1) * b ≤ b ^ i * b := Int.mul_le_mul_of_nonneg_right (by omega) hb
  rw [Int.add_mul, Int.one_mul] at this
  omega
theorem num_loop (b : Int) (hb : b = 10 ∨ b = 16) (m : Nat) (hm : (b = 10 ∧ m ≤ 15) ∨ (b = 16 ∧ m ≤ 13)) (p : Int → Bool) (hp : ∀ c, p c = true → 0 ≤ dgt c ∧ dgt c < b) (s : ByteArray) (hs : s.size ≤ m) (g : Nat → Int → Int → Option (Int × Bool)) (K : Nat)
    (h1 : ∀ k (st : Int) (i : Nat), K ≤ k → i < s.size → p (bt s i) = true → wrap64 (st * b) = st * b → wrap64 (st * b + dgt (bt s i)) = st * b + dgt (bt s i) → g (k + 1) st i = g k (st * b + dgt (bt s i)) ((i + 1 : Nat) : Int))
    (h0 : ∀ k (st : Int) (i : Nat), K ≤ k → i < s.size → p (bt s i) = false → g (k + 1) st i = some (0, false))
    (he : ∀ k (st : Int), K ≤ k → g (k + 1) st (s.size : Int) = some (st, true)) : Ev (fun k => g k 0 0) (if (bytesOf s).all p = true then (numB b (bytesOf s), true) else (0, false)) := by
  have hr := ev_run s (fun (st : Int) i => 0 ≤ st ∧ st < b ^ i) (fun (st : Int) c => if p c = true then .inl (st * b + dgt c) else .inr ((0 : Int), false)) (fun st => (st, true)) g K
    (fun k st i hk hi hI => ⟨fun st' e => (by
        by_cases hq : p (bt s i) = true
        · rw [if_pos hq] at e
          obtain rfl : st * b + dgt (bt s i) = st' := by injection e
          obtain ⟨d0, d1⟩ := hp _ hq
          obtain ⟨a0, a1, a2⟩ := num_next (b := b) (by omega) hI.1 hI.2 d0 d1
          have hw := pow_small hb hm (k := i + 1) (by omega)
          exact ⟨h1 k st i hk hi hq (wrap_in (by omega) (by omega)) (wrap_in (by omega) (by omega)), a1, a2⟩
        · rw [if_neg hq] at e; cases e),
      fun r e => (by
        by_cases hq : p (bt s i) = true
        · rw [if_pos hq] at e; cases e
        · rw [if_neg hq] at e
          obtain rfl : ((0 : Int), false) = r := by injection e
          exact h0 k st i hk hi (by simpa using hq))⟩)
    (fun k st hk _ => he k st hk) 0 ⟨by omega, by simp⟩
  rw [runL_num] at hr
  exact hr
theorem spec_Digits_ev (s : ByteArray) : Ev (fun k => spec_Digits.f k s) (numOk 10 15 digB s) := by
  have no : Ev (fun k => spec_Digits.j0 k s true) ((0 : Int), false) := Ev.step (f := fun _ => some (0, false)) (fun k => by simp only [spec_Digits.j0, if_true]) (Ev.now _)
  unfold spec_Digits.f numOk
  by_cases h1 : (s.size : Int) < 1
  · simp only [if_pos h1]
    rw [if_neg (by omega)]
    exact no
  · simp only [if_neg h1]
    by_cases h2 : (s.size : Int) > 15
    · rw [decide_eq_true h2, if_neg (by omega)]
      exact no
    · rw [decide_eq_false h2]
      refine Ev.step (f := fun k => spec_Digits.l0 k s 0 0) (fun k => by simp only [spec_Digits.j0, Bool.false_eq_true, if_false]) ?_
      refine ev_eq (num_loop 10 (.inl rfl) 15 (.inl ⟨rfl, Nat.le_refl _⟩) digB (fun c h => by obtain ⟨a, b, c⟩ := dgt_dig h; omega) s (by omega) (fun k st i => spec_Digits.l0 k s st i) 0 (fun k st i _ hi hq w1 w2 => ?_) (fun k st i _ hi hq => ?_) (fun k st _ => ?_)) ?_
      · obtain ⟨e, c0, c1⟩ := dgt_dig hq
        rw [e] at w2
        simp only [spec_Digits.l0]
        rw [if_pos (by omega), if_pos (by omega), if_neg (by omega), if_neg (by omega), wrap_next hi (by omega), w1, Int.emod_eq_of_lt (by omega) (by omega), w2, e]
      · unfold digB at hq
        simp at hq
        simp only [spec_Digits.l0]
        rw [if_pos (by omega), if_pos (by omega)]
        by_cases h3 : bt s i < 48
        · rw [if_pos h3]
        · rw [if_neg h3, if_pos (by omega)]
      · simp only [spec_Digits.l0]
        rw [if_neg (by omega)]
      · have a : 1 ≤ s.size := by omega
        have b : s.size ≤ 15 := by omega
        simp only [a, b, true_and]
theorem impl_Digits_is (s : ByteArray) : impl_Digits.f s = some (numOk 10 15 digB s) := by
  unfold impl_Digits.f numOk
  by_cases h1 : (s.size : Int) < 1
  · rw [if_pos h1, if_neg (by omega)]
  · rw [if_neg h1]
    by_cases h2 : (s.size : Int) > 15
    · rw [if_pos h2, if_neg (by omega)]
    · rw [if_neg h2, all_dig s (by omega)]
      simp only [Option.bind_some]
      have a : 1 ≤ s.size := by omega
      have b : s.size ≤ 15 := by omega
      by_cases h3 : (bytesOf s).all digB = true
      · rw [if_pos h3, if_pos ⟨a, b, h3⟩]
        unfold strconv_ParseInt.f
        rw [if_pos ⟨rfl, by omega, by rw [← all_okB10]; exact h3, .inr ⟨rfl, b⟩⟩]
        rfl
      · rw [if_neg h3, if_neg (by intro h; exact h3 h.2.2)]
theorem spec_HexDigits_ev (s : ByteArray) : Ev (fun k => spec_HexDigits.f k s) (numOk 16 13 hexB s) := by
  have no : Ev (fun k => spec_HexDigits.j0 k s true) ((0 : Int), false) := Ev.step (f := fun _ => some (0, false)) (fun k => by simp only [spec_HexDigits.j0, if_true]) (Ev.now _)
  unfold spec_HexDigits.f numOk
  by_cases h1 : (s.size : Int) < 1
  · simp only [if_pos h1]
    rw [if_neg (by omega)]
    exact no
  · simp only [if_neg h1]
    by_cases h2 : (s.size : Int) > 13
    · rw [decide_eq_true h2, if_neg (by omega)]
      exact no
    · rw [decide_eq_false h2]
      refine Ev.step (f := fun k => spec_HexDigits.l0 k s 0 0) (fun k => by simp only [spec_HexDigits.j0, Bool.false_eq_true, if_false]) ?_
      refine ev_eq (num_loop 16 (.inr rfl) 13 (.inr ⟨rfl, Nat.le_refl _⟩) hexB (fun c h => by rw [hexB_is] at h; simpa using h) s (by omega) (fun k st i => spec_HexDigits.l0 k s st i) 2 (fun k st i hk hi hq w1 w2 => ?_) (fun k st i hk hi hq => ?_) (fun k st _ => ?_)) ?_
      · have hr := bt_range s i
        have hn := hexV_neg (bt s i)
        rw [hq] at hn
        rw [dgt_hex] at w2 ⊢
        simp only [spec_HexDigits.l0]
        rw [if_pos (by omega), if_pos (by omega), spec_l1Hex_is _ hr.1 hr.2 k hk, wrap_next hi (by omega)]
        simp only [Option.bind_some]
        rw [if_neg (by simpa using hn), w1, w2]
      · have hr := bt_range s i
        have hn := hexV_neg (bt s i)
        rw [hq] at hn
        simp only [spec_HexDigits.l0]
        rw [if_pos (by omega), if_pos (by omega), spec_l1Hex_is _ hr.1 hr.2 k hk]
        simp only [Option.bind_some]
        rw [if_pos (by simpa using hn)]
      · simp only [spec_HexDigits.l0]
        rw [if_neg (by omega)]
      · have a : 1 ≤ s.size := by omega
        have b : s.size ≤ 13 := by omega
        simp only [a, b, true_and]
theorem impl_HexDigits_is (s : ByteArray) : impl_HexDigits.f s = some (numOk 16 13 hexB s) := by
  unfold impl_HexDigits.f numOk
  by_cases h1 : (s.size : Int) < 1
  · rw [if_pos h1, if_neg (by omega)]
  · rw [if_neg h1]
    by_cases h2 : (s.size : Int) > 13
    · rw [if_pos h2, if_neg (by omega)]
    · rw [if_neg h2, all_hex s (by omega)]
      simp only [Option.bind_some]
      have a : 1 ≤ s.size := by omega
      have b : s.size ≤ 13 := by omega
      by_cases h3 : (bytesOf s).all hexB = true
      · rw [if_pos h3, if_pos ⟨a, b, h3⟩]
        unfold strconv_ParseInt.f
        rw [if_pos ⟨rfl, by omega, by rw [← all_okB16]; exact h3, .inl ⟨rfl, b⟩⟩]
        rfl
      · rw [if_neg h3, if_neg (by intro h; exact h3 h.2.2)]
theorem hex_sign (m : Nat) (h : m < 16) : (0 ≤ bt digs36 (m : Int) ∧ bt digs36 (m : Int) ≤ 255) ∧ hexB (bt digs36 (m : Int)) = true ∧ dgt (bt digs36 (m : Int)) = (m : Int) := by
  have key : ∀ i : Fin 16, (0 ≤ bt digs36 ((i.1 : Nat) : Int) ∧ bt digs36 ((i.1 : Nat) : Int) ≤ 255) ∧ hexB (bt digs36 ((i.1 : Nat) : Int)) = true ∧ dgt (bt digs36 ((i.1 : Nat) : Int)) = ((i.1 : Nat) : Int) := by decide
  exact key ⟨m, h⟩
theorem hexL_bytes (n : Nat) : (∀ c ∈ hexL n, 0 ≤ c ∧ c ≤ 255) ∧ (hexL n).all hexB = true ∧ numB 16 (hexL n) = (n : Int) ∧ 1 ≤ (hexL n).length := by
  induction n using Nat.strongRecOn with
  | _ n ih =>
    rw [hexL]
    by_cases h : n < 16
    · rw [dif_pos h]
      obtain ⟨a, b, c⟩ := hex_sign n h
      exact ⟨fun x hx => by rw [List.mem_singleton.1 hx]; exact a, by simp [b], by unfold numB; simp [c], by simp⟩
    · rw [dif_neg h]
      obtain ⟨a, b, c⟩ := hex_sign (n % 16) (Nat.mod_lt _ (by decide))
      obtain ⟨i1, i2, i3, i4⟩ := ih (n / 16) (by omega)
      refine ⟨fun x hx => ?_, by rw [List.all_append, i2, List.all_cons, List.all_nil, b]; rfl, ?_, by simp⟩
      · rcases List.mem_append.1 hx with hx | hx
        · exact i1 x hx
        · rw [List.mem_singleton.1 hx]; exact a
      · rw [numB_snoc, i3, c]
        omega
theorem hex_back (n : Nat) (hs : (hexT n).size ≤ 13) : numOk 16 13 hexB (hexT n) = ((n : Int), true) := by
  obtain ⟨a, b, c, d⟩ := hexL_bytes n
  have e : bytesOf (hexT n) = hexL n := bytes_nums _ a
  have e2 : (hexT n).size = (hexL n).length := by rw [← e, bytesOf_length]
  unfold numOk
  rw [if_pos ⟨by omega, hs, by rw [e]; exact b⟩, e, c]
/-- The decimal digits of a number. -/
def decN (n : Nat) : List Int := if h : n < 10 then [48 + (n : Int)] else decN (n / 10) ++ [48 + ((n % 10 : Nat) : Int)]
termination_by n
decreasing_by omega
theorem dec_sign (m : Nat) (h : m < 10) : (0 ≤ (48 + (m : Int)) ∧ 48 + (m : Int) ≤ 255) ∧ digB (48 + (m : Int)) = true ∧ dgt (48 + (m : Int)) = (m : Int) := by
  have e : digB (48 + (m : Int)) = true := by unfold digB; simp; omega
  exact ⟨by omega, e, by rw [(dgt_dig e).1]; omega⟩
theorem decN_bytes (n : Nat) : (∀ c ∈ decN n, 0 ≤ c ∧ c ≤ 255) ∧ (decN n).all digB = true ∧ numB 10 (decN n) = (n : Int) ∧ 1 ≤ (decN n).length := by
  induction n using Nat.strongRecOn with
  | _ n ih =>
    rw [decN]
    by_cases h : n < 10
    · rw [dif_pos h]
      obtain ⟨a, b, c⟩ := dec_sign n h
      exact ⟨fun x hx => by rw [List.mem_singleton.1 hx]; exact a, by simp [b], by unfold numB; simp [c], by simp⟩
    · rw [dif_neg h]
      obtain ⟨a, b, c⟩ := dec_sign (n % 10) (Nat.mod_lt _ (by decide))
      obtain ⟨i1, i2, i3, i4⟩ := ih (n / 10) (by omega)
      refine ⟨fun x hx => ?_, by rw [List.all_append, i2, List.all_cons, List.all_nil, b]; rfl, ?_, by simp⟩
      · rcases List.mem_append.1 hx with hx | hx
        · exact i1 x hx
        · rw [List.mem_singleton.1 hx]; exact a
      · rw [numB_snoc, i3, c]
        omega
theorem decN_len (d : Nat) : ∀ n : Nat, n < 10 ^ (d + 1) → (decN n).length ≤ d + 1 := by
  induction d with
  | zero => intro n h; rw [decN, dif_pos (by simpa using h)]; simp
  | succ d ih =>
    intro n h
    rw [decN]
    by_cases h2 : n < 10
    · rw [dif_pos h2]; simp
    · rw [dif_neg h2, List.length_append, List.length_singleton]
      have := ih (n / 10) (by rw [Nat.pow_succ] at h; omega)
      omega
theorem numB_noughts (l : List Int) : numB 10 (48 :: 48 :: l) = numB 10 l := by
  unfold numB
  simp only [List.foldl_cons]
  rfl
theorem noughts_back (s : ByteArray) (n : Nat) (hs : s = strOfNums (decN n)) (hn : n < 100000) : numOk 10 15 digB ((⟨#[48, 48]⟩ : ByteArray) ++ s) = ((n : Int), true) := by
  obtain ⟨a, b, c, d⟩ := decN_bytes n
  have hl := decN_len 4 n (by simpa using hn)
  have e : bytesOf ((⟨#[48, 48]⟩ : ByteArray) ++ s) = 48 :: 48 :: decN n := by
    rw [bytes_append, hs, bytes_nums _ a]
    rfl
  have e2 : ((⟨#[48, 48]⟩ : ByteArray) ++ s).size = (decN n).length + 2 := by rw [← bytesOf_length, e]; rfl
  unfold numOk
  rw [if_pos ⟨by omega, by omega, by rw [e]; simp only [List.all_cons, b]; rfl⟩, e, numB_noughts, c]
theorem dec_app (l : List Int) (c : Int) (s : ByteArray) : strOfNums l ++ (strOfNums [c] ++ s) = strOfNums (l ++ [c]) ++ s := by
  apply ByteArray.ext
  apply Array.toList_inj.1
  simp only [ByteArray.data_append, Array.toList_append, strOfNums_data, List.map_append, List.append_assoc]
theorem digits_step (k n : Nat) (s : ByteArray) (h : s.toList = [] ∨ 0 < n) (hn : n ≤ 9000000000000000000) (hs : s.size ≤ 1000) :
    laws_digits.l0 (k + 1) (n : Int) s = laws_digits.l0 k ((n / 10 : Nat) : Int) (strOfNums [48 + ((n % 10 : Nat) : Int)] ++ s) := by
  have e1 : wrap64 (48 + Int.tmod (n : Int) 10) % 256 = 48 + ((n % 10 : Nat) : Int) := by rw [Int.tmod_eq_emod_of_nonneg (by omega), wrap_in (by omega) (by omega)]; omega
  have e3 : wrap64 (Int.tdiv (n : Int) 10) = ((n / 10 : Nat) : Int) := by rw [Int.tdiv_eq_ediv_of_nonneg (by omega), wrap_in (by omega) (by omega)]; omega
  have e4 : (strOfNums [48 + ((n % 10 : Nat) : Int)]).size + s.size ≤ 9223372036854775807 := by
    have : (strOfNums [48 + ((n % 10 : Nat) : Int)]).size = 1 := rfl
    omega
  simp only [laws_digits.l0]
  by_cases h1 : s.toList = []
  · rw [if_pos h1, e1, e3]
    simp only [Option.bind_some]
    rw [if_pos e4]
  · rw [if_neg h1, if_pos (by have := h.resolve_left h1; omega), e1, e3]
    simp only [Option.bind_some]
    rw [if_pos e4]
theorem digits_ne (c : Int) (s : ByteArray) : (strOfNums [c] ++ s).toList ≠ [] := by
  rw [toList_data]
  simp [ByteArray.data_append, strOfNums_data]
theorem digits_stop (k : Nat) (s : ByteArray) (h : s.toList ≠ []) : laws_digits.l0 (k + 1) 0 s = some s := by
  simp only [laws_digits.l0]
  rw [if_neg h, if_neg (by omega)]
theorem digits_loop (d : Nat) : ∀ (n : Nat) (s : ByteArray), n < 10 ^ (d + 1) → (s.toList = [] ∨ 0 < n) → n ≤ 9000000000000000000 → s.size + d ≤ 1000 → Ev (fun k => laws_digits.l0 k (n : Int) s) (strOfNums (decN n) ++ s) := by
  induction d with
  | zero =>
    intro n s hn h hb hs
    have h16 : n < 10 := by simpa using hn
    refine Ev.step (fun k => digits_step k n s h hb (by omega)) ?_
    rw [show n / 10 = 0 by omega, show n % 10 = n by omega, decN, dif_pos h16]
    exact Ev.step (f := fun _ => some (strOfNums [48 + (n : Int)] ++ s)) (fun k => digits_stop k _ (digits_ne _ s)) (Ev.now _)
  | succ d ih =>
    intro n s hn h hb hs
    refine Ev.step (fun k => digits_step k n s h hb (by omega)) ?_
    by_cases h16 : n < 10
    · rw [show n / 10 = 0 by omega, show n % 10 = n by omega, decN, dif_pos h16]
      exact Ev.step (f := fun _ => some (strOfNums [48 + (n : Int)] ++ s)) (fun k => digits_stop k _ (digits_ne _ s)) (Ev.now _)
    · rw [decN, dif_neg h16, ← dec_app]
      exact ih (n / 10) (strOfNums [48 + ((n % 10 : Nat) : Int)] ++ s) (by rw [Nat.pow_succ] at hn; omega) (.inr (by omega)) (by omega) (by rw [ByteArray.size_append, show (strOfNums [48 + ((n % 10 : Nat) : Int)]).size = 1 from rfl]; omega)
theorem digits_ev (n : Int) (h0 : 0 ≤ n) (h1 : n < 100000) : Ev (fun k => laws_digits.f k n) (strOfNums (decN n.toNat)) := by
  unfold laws_digits.f
  have := digits_loop 5 n.toNat ⟨#[]⟩ (by omega) (.inl ((toList_nil _).2 rfl)) (by omega) (by decide)
  rw [show ((n.toNat : Nat) : Int) = n by omega] at this
  refine ev_eq this ?_
  apply ByteArray.ext
  apply Array.toList_inj.1
  simp [ByteArray.data_append]
end Go.Proofs.YtpolkndhjcdheaaDoor.Q
namespace Go.Proofs.YtpolkndhjcdheaaDoor.Pure
set_option linter.unusedVariables false
set_option linter.unusedSimpArgs false
open Go.RowKit Go.Proofs.YtpolkndhjcdheaaDoor.P Go.Proofs.YtpolkndhjcdheaaDoor.Q Go.Proofs.YtpolkndhjcdheaaDoorW.PrintWords
theorem drawHex_ok (b : List Int) (hb : b.length ≤ 140737488351232) : TotP (fun k => spec_DrawHex.f k b) (fun _ => True) := by
 unfold spec_DrawHex.f
 refine TotP.bind (new_ok b hb) fun c pc => ?_
 obtain ⟨c0, c1, c2⟩ := c
 obtain ⟨e, p⟩ := pc
 simp only at e p
 subst e
 refine TotP.bind (TotP.of (once_ok _ _ _ 5 p hb)) fun r0 p0 => TotP.ite (fun _ => ?_) (fun _ => ?_)
 ·
  refine TotP.bind (TotP.of ⟨_, rfl, rfl⟩) fun (l : List Int) (e : ([(-1), 0, 15, 16, 4503599627370496, 4503599627370497, (-9223372036854775808)] : List Int) = l) => ?_
  exact TotP.bind (TotP.of (below_ok _ _ _ 7 p0 hb)) fun r1 p1 => TotP.ite (fun _ => TotP.ite (fun _ => TotP.now trivial) (fun c => absurd (p1.2.1 (by omega)) (by rw [← e] at c; exact c))) (fun c => absurd p1.1 c)
 ·
  refine TotP.bind (TotP.of (below_ok _ _ _ 30 p0 hb)) fun r1 p1 => TotP.ite (fun _ => ?_) (fun c => ?_)
  ·
   exact TotP.bind (TotP.of (below_ok _ _ _ _ p1.2.2.2 hb)) fun r2 p2 => TotP.now trivial
  ·
   refine absurd ?_ c
   rw [IntKind.wrap_u64]
   omega
theorem drawHexDigits_ok (b : List Int) (hb : b.length ≤ 140737488351232) : TotP (fun k => spec_DrawHexDigits.f k b) (fun _ => True) := by
 unfold spec_DrawHexDigits.f
 refine TotP.bind (new_ok b hb) fun c pc => ?_
 obtain ⟨c0, c1, c2⟩ := c
 obtain ⟨e, p⟩ := pc
 simp only at e p
 subst e
 refine TotP.bind (TotP.of (once_ok _ _ _ 6 p hb)) fun r0 p0 => TotP.ite (fun _ => ?_) (fun _ => ?_)
 ·
  refine TotP.bind (TotP.of ⟨_, rfl, rfl⟩) fun (l : List ByteArray) (e : _ = l) => ?_
  exact TotP.bind (TotP.of (below_ok _ _ _ 6 p0 hb)) fun r1 p1 => TotP.ite (fun _ => TotP.ite (fun _ => TotP.now trivial) (fun c => absurd (p1.2.1 (by omega)) (by rw [← e] at c; exact c))) (fun c => absurd p1.1 c)
 ·
  exact TotP.bind (drawText_ok _ hb _ _ p0 _ (by decide) 5 (by decide) (by decide)) fun r1 p1 => TotP.now trivial
theorem drawDigits_ok (b : List Int) (hb : b.length ≤ 140737488351232) : TotP (fun k => spec_DrawDigits.f k b) (fun _ => True) := by
 unfold spec_DrawDigits.f
 refine TotP.bind (new_ok b hb) fun c pc => ?_
 obtain ⟨c0, c1, c2⟩ := c
 obtain ⟨e, p⟩ := pc
 simp only at e p
 subst e
 refine TotP.bind (TotP.of (once_ok _ _ _ 6 p hb)) fun r0 p0 => TotP.ite (fun _ => ?_) (fun _ => ?_)
 ·
  refine TotP.bind (TotP.of ⟨_, rfl, rfl⟩) fun (l : List ByteArray) (e : _ = l) => ?_
  exact TotP.bind (TotP.of (below_ok _ _ _ 7 p0 hb)) fun r1 p1 => TotP.ite (fun _ => TotP.ite (fun _ => TotP.now trivial) (fun c => absurd (p1.2.1 (by omega)) (by rw [← e] at c; exact c))) (fun c => absurd p1.1 c)
 ·
  exact TotP.bind (drawText_ok _ hb _ _ p0 _ (by decide) 6 (by decide) (by decide)) fun r1 p1 => TotP.now trivial
theorem numB_nonneg (b : Int) (hb : 0 ≤ b) (l : List Int) (h : l.all hexB = true) : 0 ≤ numB b l := by
 unfold numB
 suffices ∀ (l : List Int) (n : Int), 0 ≤ n → l.all hexB = true → 0 ≤ l.foldl (fun n c => n * b + dgt c) n from this l 0 (by decide) h
 intro l
 induction l with
 | nil => intro n hn _; exact hn
 | cons c cs ih =>
  intro n hn h
  rw [List.all_cons, Bool.and_eq_true] at h
  rw [List.foldl_cons]
  refine ih _ ?_ h.2
  have := h.1
  rw [hexB_is, Bool.and_eq_true, decide_eq_true_eq] at this
  have h2 := Int.mul_nonneg hn hb
  omega
theorem FnNumbers : laws_FnNumbers.Pure := by
 intro l hl hs hx
 have hb : l.length ≤ 140737488351232 := by omega
 have hx2 : ∀ x ∈ l, 0 ≤ x ∧ x ≤ 255 := fun x h => by
  have := hx x h
  simp [Lit.wf] at this
  have e1 : IntKind.u8.min = 0 := rfl
  have e2 : IntKind.u8.max = 255 := rfl
  omega
 obtain ⟨n, ⟨K1, h1⟩, _⟩ := drawHex_ok l hb
 obtain ⟨s, ⟨K2, h2⟩, _⟩ := drawHexDigits_ok l hb
 obtain ⟨d, ⟨K3, h3⟩, _⟩ := drawDigits_ok l hb
 obtain ⟨p, ⟨K4, h4⟩, p0, p1⟩ := pick_ok l hb hx2 1 100000 (by decide) (by decide)
 obtain ⟨K5, h5⟩ := spec_HexDigits_ev s
 obtain ⟨K6, h6⟩ := spec_Digits_ev d
 obtain ⟨K7, h7⟩ := spec_Hex_ev n
 obtain ⟨K8, h8⟩ := digits_ev p p0 p1
 have j2 : ∀ k, K4 + K8 < k → laws_FnNumbers.j2 k l (numOk 16 13 hexB s).1 (numOk 16 13 hexB s).2 = some true := by
  intro k hk
  obtain ⟨k, rfl⟩ : ∃ z, k = z + 1 := ⟨k - 1, by omega⟩
  have w4 := h4 k (by omega)
  have w8 := h8 k (by omega)
  simp only [laws_FnNumbers.j2]
  simp only at w4 w8
  rw [w4]
  simp only [Option.bind_some]
  rw [w8]
  simp only [Option.bind_some]
  have hl := decN_len 4 p.toNat (by omega)
  rw [if_pos (by rw [strOfNums_size]; omega), impl_Digits_is, noughts_back _ p.toNat rfl (by omega)]
  simp only [Option.bind_some, if_true]
  rw [if_pos (by omega)]
  by_cases hc : 1 ≤ s.size ∧ s.size ≤ 13 ∧ (bytesOf s).all hexB = true
  ·
   unfold numOk
   rw [if_pos hc]
   simp only [if_true]
   by_cases hg : numB 16 (bytesOf s) > 4503599627370496
   ·
    rw [if_pos hg]
   ·
    rw [if_neg hg, impl_Hex_is]
    simp only [Option.bind_some]
    have h0 := numB_nonneg 16 (by decide) _ hc.2.2
    have hr : inB (numB 16 (bytesOf s)) 0 4503599627370496 = true := by unfold inB; simp; omega
    unfold hexR
    rw [if_pos hr]
    have hne : (hexT (numB 16 (bytesOf s)).toNat).toList ≠ [] := by
     rw [Ne, toList_nil]
     unfold hexT
     rw [strOfNums_size]
     have := (hexL_bytes (numB 16 (bytesOf s)).toNat).2.2.2
     omega
    rw [show ((hexT (numB 16 (bytesOf s)).toNat).toList != []) = true from by simpa using hne]
  ·
   unfold numOk
   rw [if_neg hc]
   simp
 have j1 : ∀ k, K4 + K8 + 1 < k → laws_FnNumbers.j1 k l n (hexR n) (numOk 16 13 hexB s).1 (numOk 16 13 hexB s).2 false = some true := by
  intro k hk
  obtain ⟨k, rfl⟩ : ∃ z, k = z + 1 := ⟨k - 1, by omega⟩
  simp only [laws_FnNumbers.j1]
  rw [if_neg (by simp)]
  by_cases he : (hexR n).toList = ([] : List UInt8)
  ·
   rw [if_pos he]
   exact j2 k (by omega)
  ·
   rw [if_neg he, impl_HexDigits_is]
   simp only [Option.bind_some]
   by_cases hz : ((hexR n).size : Int) < 14
   ·
    have hn : inB n 0 4503599627370496 = true := by
     by_cases c : inB n 0 4503599627370496 = true
     ·
      exact c
     ·
      exfalso; apply he; unfold hexR; rw [if_neg c]; exact (toList_nil _).2 rfl
    have e : hexR n = hexT n.toNat := by unfold hexR; rw [if_pos hn]
    have hr := inB_true hn
    rw [if_pos hz, e, hex_back n.toNat (by rw [e] at hz; omega)]
    simp only [if_true]
    rw [if_pos (by omega)]
    exact j2 k (by omega)
   ·
    rw [if_neg hz]
    exact j2 k (by omega)
 refine ⟨K1 + K2 + K3 + K4 + K5 + K6 + K7 + K8 + 10, ?_⟩
 have w1 := h1 (K1 + K2 + K3 + K4 + K5 + K6 + K7 + K8 + 10) (by omega)
 have w2 := h2 (K1 + K2 + K3 + K4 + K5 + K6 + K7 + K8 + 10) (by omega)
 have w3 := h3 (K1 + K2 + K3 + K4 + K5 + K6 + K7 + K8 + 10) (by omega)
 have w5 := h5 (K1 + K2 + K3 + K4 + K5 + K6 + K7 + K8 + 10) (by omega)
 simp only at w1 w2 w3 w5
 unfold laws_FnNumbers.f laws_big.f
 simp only [Option.bind_some]
 by_cases hb2 : decide ((l.length : Int) > 4096) = true
 ·
  rw [if_pos hb2]
 ·
  rw [if_neg hb2, w1]
  simp only [Option.bind_some]
  rw [impl_Hex_is, w2, w3]
  simp only [Option.bind_some]
  rw [impl_HexDigits_is, impl_Digits_is, w5]
  simp only [Option.bind_some, if_true, bne_self_eq_false]
  rw [show K1 + K2 + K3 + K4 + K5 + K6 + K7 + K8 + 10 = (K1 + K2 + K3 + K4 + K5 + K6 + K7 + K8 + 9) + 1 by omega]
  simp only [laws_FnNumbers.j0]
  have w6 := h6 (K1 + K2 + K3 + K4 + K5 + K6 + K7 + K8 + 9) (by omega)
  have w7 := h7 (K1 + K2 + K3 + K4 + K5 + K6 + K7 + K8 + 9) (by omega)
  simp only at w6 w7
  rw [if_neg (by simp), w6]
  simp only [Option.bind_some, if_true, bne_self_eq_false, Bool.false_eq_true, if_false]
  rw [w7]
  simp only [Option.bind_some, bne_self_eq_false]
  exact j1 _ (by omega)
end Go.Proofs.YtpolkndhjcdheaaDoor.Pure
namespace Go.Proofs.YtpolkndhjcdheaaDoor.fnNumbers
open Go.ChangeShapes Go.WideShapes Go.ChangeAt Go.RowKit
open Go.ChangeMaps (open_string shut_string)
set_option linter.unusedVariables false
theorem own : ownKnob Tryd.prog.godebug = none := by kernel_rfl
theorem laidOut : laidOutB Tryd.prog = true := by kernel_rfl
def IsRow (k : IntKind) (w : World) (a : Option Addr) (len cap : Nat) (zs : List Int) : Prop :=
  (a = none ∧ len = 0 ∧ cap = 0 ∧ zs = []) ∨
  ∃ x, a = some x ∧ len ≤ cap ∧ cap ≤ maxLen ∧ zs.length = cap ∧ (∀ i, i < zs.length → w.cell? (x.add i) = some (.int k (zs.getD i 0))) ∧ ∀ n ∈ zs, (Lit.int k n).wf = true
set_option maxRecDepth 100000 in
theorem lifted (os : Os) (started : os.Started) (H : Type) (enc : TypeId × Value → H) :
    ReturnsInHanded {} Tryd.checked os 7 .any (fun w args => (Rows.fnNumbersSpec.pre enc Tryd.prog Tryd.f7 [] false w args ∧ laidMetH Tryd.prog Rows.fnNumbersRow.laid w) ∧ sizedMet enc Tryd.prog Tryd.f7 (OpenSpec.ofChange Rows.fnNumbersSpec) false w args) (Rows.fnNumbersSpec.post enc Tryd.prog Tryd.f7 false true false false) := by
  refine RowAid.handed_both (C := Tryd.checked) (X := fun w _ => laidMetH Tryd.prog Rows.fnNumbersRow.laid w) (fun _ _ _ hh h => h.of_heap hh) own started (by kernel_rfl) Tryd.func7
    (ChangeSpec.witness_shaped (enc := enc) (C := Tryd.checked) (os := os) (X := fun w _ => laidMetH Tryd.prog Rows.fnNumbersRow.laid w) false (World.laidAll Tryd.prog os Rows.fnNumbersRow.laid) #[.slice none 0 0] 8 (World.laidAll_os _ _ _)
      (World.shaped_of_ZipB (by kernel_rfl) (by kernel_rfl)) (by kernel_rfl) (by kernel_rfl) (by kernel_rfl)
      (by rw [MakeChecks.laidMetH_plain _ _ _ (by kernel_rfl)]; exact laidMet_laidAll _ (by kernel_rfl) (by kernel_rfl))) ?_
  intro W base args ds gs before hval0 hW hcnd hsz0 hL hSh _
  have hsz : (DataW.weightsEach Tryd.prog (Tryd.f7.params.toList ++ Rows.fnNumbersSpec.plain.varTypes Tryd.prog) (ds ++ gs)).all (· ≤ reachBytes) = true := hsz0
  have hval : ∀ (j : Nat) t v, Tryd.f7.params[j]? = some t → args[j]? = some v → Value.okWide Tryd.prog W .any base t v := hval0
  have hW' := hW
  obtain ⟨p, q, hA0, hV, rfl, hfz, hnd⟩ := hW
  have hA : DataW.TrodAll enc Tryd.prog W 0 (fun _ => true) true Tryd.f7.params.toList args.toList ds p := hA0
  rw [Tryd.params7] at hA hval hsz
  obtain ⟨v0, vs0, d0, ds0, p0, q0, hargs, rfl, rfl, h0, r0⟩ := trodAll_cons hA
  obtain ⟨rfl, rfl, rfl⟩ := trodAll_nil r0
  obtain rfl : args = #[v0] := by cases args; simp_all
  obtain ⟨rfl, rfl⟩ := trodVars_none hV
  obtain ⟨a0, len0, cap0, rfl⟩ := okWide_slice Tryd.underlying32 (hval 0 32 v0 rfl rfl)
  have k0 := h0
  have lt0 : ∀ x ∈ p0, x.block < W.heap.size := by obtain ⟨m, hm⟩ := k0; exact DataW.trod_lt m _ _ _ hm
  obtain ⟨z0, w0⟩ : ∃ zs, IsRow .u8 W a0 len0 cap0 zs := by
    obtain ⟨fuel, hf⟩ := h0
    rcases open_ints Tryd.underlying32 Tryd.underlying5 (by kernel_rfl) hf with ⟨hcs, _⟩ | ⟨x, l, c, zs, hcs, _, hl, hm, hz, _, hcell, hwz⟩
    · simp [Value.cells] at hcs
      obtain ⟨rfl, rfl, rfl⟩ := hcs
      exact ⟨[], .inl ⟨rfl, rfl, rfl, rfl⟩⟩
    · simp [Value.cells] at hcs
      obtain ⟨rfl, rfl, rfl⟩ := hcs
      exact ⟨zs, .inr ⟨_, rfl, hl, hm, by simpa using hz, hcell, hwz⟩⟩
  have y0 : len0 * 1 ≤ 140737488351232 := Go.Proofs.YtpolkndhjcdheaaDoorW.PrintWords.sized_ints hsz (j := 0) (t := 32) rfl rfl Tryd.underlying32 Tryd.underlying5 (by kernel_rfl) (by kernel_rfl) h0
  clear hA0 hval0 hsz0 hsz
  have hXW := RowAid.xw_of (m := 6) hSh Rows.fnNumbersRow.laid hL (by kernel_rfl) (fun _ => by kernel_rfl) (fun _ => by kernel_rfl)
  refine (P.laws_FnNumbers.walk Pure.FnNumbers a0 len0 cap0 z0 W hXW w0 y0).mono fun e W' ⟨he, bel⟩ => ?_
  subst he
  exact ⟨_, rfl, _, _, _, [], _, [], hW', trodAll_mk1 (shut_bool Tryd.underlying4 _), (trodAll_cons_mk (Below.trod laidOut (by kernel_rfl) (of_decide_eq_true (by kernel_rfl)) k0 bel lt0) trodAll_mk0), rfl, bel.frame _, fun h => by cases h⟩
theorem over : Rows.fnNumbersRow.holds Tryd.pinned (OpenSpec.ofChange Rows.fnNumbersSpec) :=
  OpenClaim.holds_of_wide 7 Tryd.f7 rfl rfl rfl rfl rfl rfl rfl ⟨rfl, rfl, rfl, rfl, rfl⟩ rfl rfl rfl rfl rfl (by kernel_rfl) Tryd.func7 (by kernel_rfl)
    (of_decide_eq_true (by kernel_rfl)) (by unfold Func.isWrapper; first | (rw [if_pos (by decide +kernel)]; kernel_rfl) | (rw [if_neg (by decide +kernel)]; exact ⟨rfl, rfl⟩))
    (fun os started H enc _ => lifted os started H enc)
theorem proved : Rows.FnNumbersSaid := over
#print axioms proved
end Go.Proofs.YtpolkndhjcdheaaDoor.fnNumbers
namespace Go.Proofs.YtpolkndhjcdheaaDoor
/-- The tied card, under a short name, for the claim. -/
theorem fnNumbers_card : Rows.FnNumbersCardSaid :=
  Claim7.holds_tied_plain_at .later [] [.data, .data, .data, .sentinel, .sentinel] true (true, "2134072171a85a52d68e86f520862ac0071c1be3afb9790bf4bf02533f5fb1dc") true
    fnNumbers.proved (fun _ h => by cases h) (by kernel_rfl) (fun _ h => by cases h) fnNumbers_row_tie rfl ⟨rfl, rfl⟩ (by kernel_rfl) rfl
    (fun f fn hf hfn => by
      obtain rfl : f = 7 := Option.some.inj ((show Tryd.prog.funcNamed "loop.example/g00207/laws.FnNumbers" = some 7 by kernel_rfl).symm.trans hf) |>.symm
      obtain rfl : fn = Tryd.f7 := (Option.some.inj (Tryd.func7.symm.trans hfn)).symm
      exact ⟨by kernel_rfl, fun j t ht => by
        rw [Tryd.params7] at ht
        have hm : t ∈ [32] := by simpa using Array.mem_of_getElem? ht
        have hall : ([32].all fun u => !Tryd.prog.wantsStandIn u) = true := by kernel_rfl
        exact (show Tryd.prog.wantsStandIn t = false by simpa using List.all_eq_true.1 hall t hm)⟩)
    (by kernel_rfl)
#print axioms fnNumbers_card
end Go.Proofs.YtpolkndhjcdheaaDoor
