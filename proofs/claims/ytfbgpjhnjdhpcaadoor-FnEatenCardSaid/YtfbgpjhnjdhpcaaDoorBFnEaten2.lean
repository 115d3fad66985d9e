/- Functions of the Go program as Lean functions, and proofs about them, merged out of this session's texts by its program bundle.py; conditions: those that each theorem states. -/
import Derived.Below
import Derived.ChangeOld
import Derived.LaidMore
import Derived.Laws.BitsLemmas
import Derived.Laws.BytesArg
import Derived.Laws.Externs
import Derived.Laws.IdiomCopy
import Derived.Lay
import Derived.Lib.AppendStr
import Derived.Lib.Builder
import Derived.Lib.Bytealg
import Derived.Lib.Hide
import Derived.Lib.LaidTab
import Derived.Lib.SlBytesConst
import Derived.Lib.Strings
import Derived.Lib.UnsafeStr
import Derived.OpenShut
import Derived.ProofKit
import Derived.SevenTiedAt
import Derived.ShutString
import Derived.SizedLaws
import Derived.Stop.Joined
import Derived.Test.YtfbgpjhnjdhpcaaDoorBFnEaten1
import Derived.Test.YtfbgpjhnjdhpcaaDoorCards
import Derived.Test.YtfbgpjhnjdhpcaaDoorGParseInt
import Derived.Test.YtfbgpjhnjdhpcaaDoorGspecl1Bend
import Derived.Test.YtfbgpjhnjdhpcaaDoorP0
import Derived.Test.YtfbgpjhnjdhpcaaDoorPimplisDigit
import Derived.Test.YtfbgpjhnjdhpcaaDoorPimplisHex
import Derived.Test.YtfbgpjhnjdhpcaaDoorPimplisLetter
import Derived.Test.YtfbgpjhnjdhpcaaDoorProg
import Derived.Test.YtfbgpjhnjdhpcaaDoorPspecChunked
import Derived.Test.YtfbgpjhnjdhpcaaDoorPspecChunkerOk
import Derived.Test.YtfbgpjhnjdhpcaaDoorPspecDrawEat
import Derived.Test.YtfbgpjhnjdhpcaaDoorPspecEatAll
import Derived.Test.YtfbgpjhnjdhpcaaDoorPspecHex
import Derived.Test.YtfbgpjhnjdhpcaaDoorPspecHexDigits
import Derived.Test.YtfbgpjhnjdhpcaaDoorPspecl1Below
import Derived.Test.YtfbgpjhnjdhpcaaDoorPspecl1Byte
import Derived.Test.YtfbgpjhnjdhpcaaDoorPspecl1DrawText
import Derived.Test.YtfbgpjhnjdhpcaaDoorPspecl1From
import Derived.Test.YtfbgpjhnjdhpcaaDoorPspecl1Hex
import Derived.Test.YtfbgpjhnjdhpcaaDoorPspecl1In
import Derived.Test.YtfbgpjhnjdhpcaaDoorPspecl1New
import Derived.Test.YtfbgpjhnjdhpcaaDoorPspecl1Once
import Derived.Test.YtfbgpjhnjdhpcaaDoorPspecl5DrawAny
import Derived.Test.YtfbgpjhnjdhpcaaDoorPspecl5DrawParts
import Derived.Test.YtfbgpjhnjdhpcaaDoorPspecl5DrawText
import Derived.Test.YtfbgpjhnjdhpcaaDoorPspecl5Eat
import Derived.Test.YtfbgpjhnjdhpcaaDoorRows
import Derived.Test.YtfbgpjhnjdhpcaaDoorShelf
import Derived.Test.YtfbgpjhnjdhpcaaDoorTie
import Derived.Test.YtfbgpjhnjdhpcaaDoorWSized
import Derived.Test.YtfbgpjhnjdhpcaaDoorXA
import Derived.Test.YtfbgpjhnjdhpcaaDoorXB
import Derived.Test.YtfbgpjhnjdhpcaaDoorXW
import Derived.WalkKit
namespace Go.Proofs.YtfbgpjhnjdhpcaaDoor.P
set_option linter.unusedVariables false
set_option linter.unusedSimpArgs false
open Go.RowKit Go.Lib Go.Proofs.YtfbgpjhnjdhpcaaDoorW.PrintWords Go.Proofs.YtfbgpjhnjdhpcaaDoorW.PrintLast Go.Proofs.YtfbgpjhnjdhpcaaDoorW.PrintMore

def plainTab : List Int := [45, 46, 95, 126, 47, 58, 64, 33, 36, 38, 39, 40, 41, 42, 43, 44, 59, 61]
theorem plainTab_cell (w : World) (k : Nat) (h : k < 18) : (w.alloc (.cells #[.int .u8 45, .int .u8 46, .int .u8 95, .int .u8 126, .int .u8 47, .int .u8 58, .int .u8 64, .int .u8 33, .int .u8 36, .int .u8 38, .int .u8 39, .int .u8 40, .int .u8 41, .int .u8 42, .int .u8 43, .int .u8 44, .int .u8 59, .int .u8 61] 5 (18, 19))).cell? ⟨w.heap.size, k, none⟩ = some (.int .u8 (plainTab.getD k 0)) := by
  rw [World.cell?_alloc_mark]
  have hl : k < plainTab.length := h
  have e : (#[.int .u8 45, .int .u8 46, .int .u8 95, .int .u8 126, .int .u8 47, .int .u8 58, .int .u8 64, .int .u8 33, .int .u8 36, .int .u8 38, .int .u8 39, .int .u8 40, .int .u8 41, .int .u8 42, .int .u8 43, .int .u8 44, .int .u8 59, .int .u8 61] : Array Value) = (plainTab.map (Value.int .u8)).toArray := rfl
  rw [e, List.getElem?_toArray, List.getElem?_map, List.getD_eq_getElem?_getD, List.getElem?_eq_getElem hl]
  rfl

set_option maxHeartbeats 2000000 in
theorem spec_l3Plain_loop (c : Int) (w : World) (hc : c < 48 ∨ (57 < c ∧ c < 65) ∨ (90 < c ∧ c < 97) ∨ 122 < c) :
    Calls Tryd.prog 69 #[.int .u8 c] w fun e w' => e = .returned (.bool (plainTab.any fun x => x == c)) ∧ Below w.heap.size w w' := by
  have kc := fun (w : World) (C : Array Value) (n c : Nat) => Lib.run_convert_bytes_const (P := Tryd.prog) w 22 5 C n c Tryd.underlying22 Tryd.underlying5
  rcases hc with h | ⟨h, h'⟩ | ⟨h, h'⟩ | h
  all_goals
    go_enter Tryd.func69, Tryd.ntmps69
    go_wp2
    go_loop [30] (fun i => ∃ k : Nat, k ≤ 18 ∧ i = .int .i64 k ∧ Aside ((plainTab.take k).any (fun x => x == c) = false)) (fun i => 18 - (intOf i).toNat)
    case atStart => exact ⟨0, Nat.zero_le _, rfl, rfl⟩
    case round =>
      obtain ⟨k, hk, rfl, A⟩ := hrel
      by_cases hlt : k < 18
      · have hcell := plainTab_cell w k hlt
        have hltz : (k : Int) < 18 := by omega
        have hnext : plainTab.take (k + 1) = plainTab.take k ++ [plainTab.getD k 0] := by
          have h1 : k < plainTab.length := hlt
          rw [List.take_succ_eq_append_getElem h1, List.getD_eq_getElem?_getD, List.getElem?_eq_getElem h1]; rfl
        have N := Lib.hid hnext
        clear hnext
        obtain ⟨x, hx⟩ : ∃ x, plainTab.getD k 0 = x := ⟨_, rfl⟩
        rw [hx] at hcell
        have X := Lib.hid hx
        clear hx
        by_cases e : x = c
        · have eb : (x == c) = true := by simpa using e
          clear e
          go_wp2
          go_ret
          refine ⟨?_, by first | exact (Below.refl _ w).alloc (Nat.le_refl _) _ | (repeat (first | exact Below.refl _ _ | apply below_alloc))⟩
          have : plainTab.any (fun x => x == c) = true := by
            rw [← List.take_append_drop (k + 1) plainTab, List.any_append, N.out, List.any_append, X.out]
            simp [eb]
          rw [this]; rfl
        · have eb : (x == c) = false := by simpa using e
          clear e
          go_wp2
          go_round
          case rel => exact ⟨k + 1, by omega, by go_num, show Aside _ from (show ((plainTab.take (k + 1)).any fun x => x == c) = false by
            rw [N.out, List.any_append, A.out, X.out]
            simp [eb])⟩
          case measure => simp [intOf]; omega
      · have hltz : ¬ (k : Int) < 18 := by omega
        go_wp2
        go_ret
        refine ⟨?_, by first | exact (Below.refl _ w).alloc (Nat.le_refl _) _ | (repeat (first | exact Below.refl _ _ | apply below_alloc))⟩
        have : plainTab.any (fun x => x == c) = false := by
          have h2 := A.out
          rw [List.take_of_length_le (by show 18 ≤ k; omega)] at h2
          exact h2
        rw [this]; rfl

set_option maxHeartbeats 1000000 in
theorem spec_l3Plain_sure (c : Int) (w : World) (hc : (48 ≤ c ∧ c ≤ 57) ∨ (65 ≤ c ∧ c ≤ 90) ∨ (97 ≤ c ∧ c ≤ 122)) :
    Calls Tryd.prog 69 #[.int .u8 c] w fun e w' => e = .returned (.bool true) ∧ Below w.heap.size w w' := by
  rcases hc with ⟨h, h'⟩ | ⟨h, h'⟩ | ⟨h, h'⟩
  all_goals
    go_enter Tryd.func69, Tryd.ntmps69
    go_wp2
    go_ret
    exact ⟨rfl, Below.refl _ _⟩

def spec_l3Plain.f (a0 : Int) : Option Bool :=
  some (decide (48 ≤ a0 ∧ a0 ≤ 57) || decide (65 ≤ a0 ∧ a0 ≤ 90) || decide (97 ≤ a0 ∧ a0 ≤ 122) || plainTab.any fun x => x == a0)
theorem spec_l3Plain.calls (a0 : Int) (r : Bool) (w : World) (h : spec_l3Plain.f a0 = some r) :
    Calls Tryd.prog 69 #[.int .u8 a0] w fun e w' => e = .returned (.bool r) ∧ Below w.heap.size w w' := by
  obtain rfl := Option.some.inj h
  by_cases hc : (48 ≤ a0 ∧ a0 ≤ 57) ∨ (65 ≤ a0 ∧ a0 ≤ 90) ∨ (97 ≤ a0 ∧ a0 ≤ 122)
  · have : (decide (48 ≤ a0 ∧ a0 ≤ 57) || decide (65 ≤ a0 ∧ a0 ≤ 90) || decide (97 ≤ a0 ∧ a0 ≤ 122) || plainTab.any fun x => x == a0) = true := by
      rcases hc with h | h | h <;> simp [h]
    rw [this]
    exact spec_l3Plain_sure a0 w hc
  · have : (decide (48 ≤ a0 ∧ a0 ≤ 57) || decide (65 ≤ a0 ∧ a0 ≤ 90) || decide (97 ≤ a0 ∧ a0 ≤ 122) || plainTab.any fun x => x == a0) = (plainTab.any fun x => x == a0) := by
      rw [decide_eq_false (fun h => hc (.inl h)), decide_eq_false (fun h => hc (.inr (.inl h))), decide_eq_false (fun h => hc (.inr (.inr h)))]
      rfl
    rw [this]
    exact spec_l3Plain_loop a0 w (by omega)
end Go.Proofs.YtfbgpjhnjdhpcaaDoor.P
namespace Go.Proofs.YtfbgpjhnjdhpcaaDoor.P
open Go.RowKit Go.Proofs.YtfbgpjhnjdhpcaaDoorW.PrintWords Go.Proofs.YtfbgpjhnjdhpcaaDoorW.PrintLast Go.Proofs.YtfbgpjhnjdhpcaaDoorW.PrintMore
attribute [local go_sem] max2_int min2_int max_two min_two max_three min_three max_four min_four   -- for this text's walks alone
set_option linter.unusedVariables false
set_option linter.unusedSimpArgs false

/-! ### impl_isPlain: function 38 -/
def impl_isPlain.f (a0 : Int) : Option (Bool) := (impl_isLetter.f a0).bind fun t101 => (if t101 = true then (some true) else ((impl_isDigit.f a0).bind fun t102 => (if t102 = true then (some true) else ((strings_IndexByte.f (⟨#[45, 46, 95, 126, 47, 58, 64, 33, 36, 38, 39, 40, 41, 42, 43, 44, 59, 61]⟩ : ByteArray) a0).bind fun t103 => (some (decide (t103 ≥ 0)))))))
set_option maxHeartbeats 8000000 in
set_option maxRecDepth 100000 in
theorem impl_isPlain.calls (a0 : Int) (r : Bool) (w : World) (h : impl_isPlain.f a0 = some r) :
  Calls Tryd.prog 38 #[.int .u8 a0] w fun e w' => e = .returned (.bool r) ∧ Drawn0 w w' := by
 have H : ((impl_isLetter.f a0).bind fun t101 => (if t101 = true then (some true) else ((impl_isDigit.f a0).bind fun t102 => (if t102 = true then (some true) else ((strings_IndexByte.f (⟨#[45, 46, 95, 126, 47, 58, 64, 33, 36, 38, 39, 40, 41, 42, 43, 44, 59, 61]⟩ : ByteArray) a0).bind fun t103 => (some (decide (t103 ≥ 0)))))))) = some r := h
 clear h
 obtain ⟨t101, A20, H⟩ := Option.bind_eq_some_iff.mp H
 try dsimp only at H
 have A2 := Aside0.mk A20
 clear A20
 by_cases c3 : t101 = true
 ·
  subst c3
  have H1 : (some true) = some r := by rw [if_pos rfl] at H; exact H
  clear H
  have H := H1
  clear H1
  obtain rfl := Option.some.inj H
  go_enter Tryd.func38, Tryd.ntmps38
  go_wp2_with (first | ((with_reducible refine gate_callee (f := 64) rfl ?_); refine goesL_ (some 4) rfl rfl Tryd.func64 (by kernel_rfl) rfl #[.int .u8 a0] rfl mc ?_; (with_reducible refine (impl_isLetter.calls a0 true _ A2.out).mono ?_); rintro e w' ⟨rfl, ⟨nd, rfl⟩⟩; refine ⟨_, rfl, ?_⟩))
  go_ret
  exact ⟨by first | rfl | (simp; done) | (simp [*]; done), by repeat (first | exact Drawn0.refl _ | apply Drawn0.step)⟩
 ·
  replace c3 := Bool.eq_false_iff.mpr c3
  subst c3
  rw [if_neg (show ¬ (false = true) by decide)] at H
  obtain ⟨t102, A40, H⟩ := Option.bind_eq_some_iff.mp H
  try dsimp only at H
  have A4 := Aside0.mk A40
  clear A40
  by_cases c5 : t102 = true
  ·
   subst c5
   have H1 : (some true) = some r := by rw [if_pos rfl] at H; exact H
   clear H
   have H := H1
   clear H1
   obtain rfl := Option.some.inj H
   go_enter Tryd.func38, Tryd.ntmps38
   go_wp2_with (first | ((with_reducible refine gate_callee (f := 64) rfl ?_); refine goesL_ (some 4) rfl rfl Tryd.func64 (by kernel_rfl) rfl #[.int .u8 a0] rfl mc ?_; (with_reducible refine (impl_isLetter.calls a0 false _ A2.out).mono ?_); rintro e w' ⟨rfl, ⟨nd, rfl⟩⟩; refine ⟨_, rfl, ?_⟩) | (go_at_call 65; (with_reducible refine (impl_isDigit.calls a0 true _ A4.out).mono ?_); rintro e w' ⟨rfl, ⟨nd, rfl⟩⟩))
   go_ret
   exact ⟨by first | rfl | (simp; done) | (simp [*]; done), by repeat (first | exact Drawn0.refl _ | apply Drawn0.step)⟩
  ·
   replace c5 := Bool.eq_false_iff.mpr c5
   subst c5
   rw [if_neg (show ¬ (false = true) by decide)] at H
   replace H := Option.bind_eq_some_iff.mp H
   obtain ⟨t103, A60, H⟩ := H
   replace H : (some (decide (t103 ≥ 0))) = some r := H
   have A6 := Aside0.mk A60
   clear A60
   obtain rfl := Option.some.inj H
   go_enter Tryd.func38, Tryd.ntmps38
   go_wp2_with (first | ((with_reducible refine gate_callee (f := 64) rfl ?_); refine goesL_ (some 4) rfl rfl Tryd.func64 (by kernel_rfl) rfl #[.int .u8 a0] rfl mc ?_; (with_reducible refine (impl_isLetter.calls a0 false _ A2.out).mono ?_); rintro e w' ⟨rfl, ⟨nd, rfl⟩⟩; refine ⟨_, rfl, ?_⟩) | (go_at_call 65; (with_reducible refine (impl_isDigit.calls a0 false _ A4.out).mono ?_); rintro e w' ⟨rfl, ⟨nd, rfl⟩⟩) | (go_at_call 66; (with_reducible refine (strings_IndexByte.calls (⟨#[45, 46, 95, 126, 47, 58, 64, 33, 36, 38, 39, 40, 41, 42, 43, 44, 59, 61]⟩ : ByteArray) a0 t103 _ A6.out).mono ?_); rintro e w' ⟨rfl, ⟨nd, rfl⟩⟩))
   go_ret
   exact ⟨by first | rfl | (simp; done) | (simp [*]; done), by repeat (first | exact Drawn0.refl _ | apply Drawn0.step)⟩
end Go.Proofs.YtfbgpjhnjdhpcaaDoor.P
namespace Go.Proofs.YtfbgpjhnjdhpcaaDoor.Q
set_option linter.unusedVariables false
set_option linter.unusedSimpArgs false
open Go.RowKit Go.Proofs.YtfbgpjhnjdhpcaaDoor.P Go.Proofs.YtfbgpjhnjdhpcaaDoorW.PrintWords Go.Proofs.YtfbgpjhnjdhpcaaDoorW.PrintLast Go.Proofs.YtfbgpjhnjdhpcaaDoorW.PrintMore

def visB (c : Int) : Bool := decide (32 ≤ c) && decide (c ≤ 126) || decide (c = 9)
def digB (c : Int) : Bool := decide (48 ≤ c) && decide (c ≤ 57)
def letB (c : Int) : Bool := decide (97 ≤ c) && decide (c ≤ 122) || decide (65 ≤ c) && decide (c ≤ 90)
def hexB (c : Int) : Bool := digB c || decide (97 ≤ c) && decide (c ≤ 102) || decide (65 ≤ c) && decide (c ≤ 70)
def tagB (c : Int) : Bool := decide (33 ≤ c) && decide (c ≤ 126) && decide (c ≠ 34)
def tokB (c : Int) : Bool := letB c || digB c || decide (c ∈ [33, 35, 36, 37, 38, 39, 42, 43, 45, 46, 94, 95, 124, 126, 96])
def plaB (c : Int) : Bool := letB c || digB c || decide (c ∈ [45, 46, 95, 126, 47, 58, 64, 33, 36, 38, 39, 40, 41, 42, 43, 44, 59, 61])

theorem impl_isDigit_is (c : Int) : impl_isDigit.f c = some (digB c) := by
  unfold impl_isDigit.f digB
  by_cases h1 : c ≥ 48 <;> simp [h1] <;> omega
theorem impl_isLetter_is (c : Int) : impl_isLetter.f c = some (letB c) := by
  unfold impl_isLetter.f letB
  by_cases h1 : c ≥ 97 <;> by_cases h2 : c ≤ 122 <;> by_cases h3 : c ≥ 65 <;> by_cases h4 : c ≤ 90 <;> simp [h1, h2, h3, h4] <;> omega
theorem impl_isHex_is (c : Int) : impl_isHex.f c = some (hexB c) := by
  unfold impl_isHex.f hexB
  rw [impl_isDigit_is]
  cases h0 : digB c <;> by_cases h1 : c ≥ 97 <;> by_cases h2 : c ≤ 102 <;> by_cases h3 : c ≥ 65 <;> by_cases h4 : c ≤ 70 <;> simp [h1, h2, h3, h4] <;> omega

/-- A law on bytes, tried at each. -/
theorem byte_cases {p : Int → Prop} (h : ∀ n : Fin 256, p (n.val : Int)) (c : Int) (h0 : 0 ≤ c) (h1 : c ≤ 255) : p c := by
  have := h ⟨c.toNat, by omega⟩
  rwa [show ((⟨c.toNat, by omega⟩ : Fin 256).val : Int) = c from by show (c.toNat : Int) = c; omega] at this
theorem impl_isPlain_is (c : Int) (h0 : 0 ≤ c) (h1 : c ≤ 255) : impl_isPlain.f c = some (plaB c) :=
  byte_cases (p := fun c => impl_isPlain.f c = some (plaB c)) (by decide +kernel) c h0 h1
theorem spec_l3Plain_is (c : Int) (h0 : 0 ≤ c) (h1 : c ≤ 255) : spec_l3Plain.f c = some (plaB c) :=
  byte_cases (p := fun c => spec_l3Plain.f c = some (plaB c)) (by decide +kernel) c h0 h1
/-- A hexadecimal digit's value, or -1. -/
def hexV (c : Int) : Int := if digB c = true then c - 48 else if 97 ≤ c ∧ c ≤ 102 then c - 87 else if 65 ≤ c ∧ c ≤ 70 then c - 55 else -1
theorem hexV_neg (c : Int) : decide (hexV c < 0) = !hexB c := by
  unfold hexV hexB
  cases h0 : digB c
  · by_cases h1 : 97 ≤ c ∧ c ≤ 102
    · simp [h1]; omega
    · by_cases h2 : 65 ≤ c ∧ c ≤ 70
      · have h1' : (decide (97 ≤ c) && decide (c ≤ 102)) = false := by simp; omega
        simp [h1, h1', h2]; omega
      · have h1' : (decide (97 ≤ c) && decide (c ≤ 102)) = false := by simp; omega
        have h2' : (decide (65 ≤ c) && decide (c ≤ 70)) = false := by simp; omega
        simp [h1, h1', h2, h2']
  · unfold digB at h0
    simp at h0
    simp
    omega
theorem spec_l1Hex_is (c : Int) (h0 : 0 ≤ c) (h1 : c ≤ 255) (k : Nat) (hk : 2 ≤ k) : spec_l1Hex.f k c = some (hexV c) :=
  at_rounds (fun k => spec_l1Hex.mono c k) hk (byte_cases (p := fun c => spec_l1Hex.f 2 c = some (hexV c)) (by decide +kernel) c h0 h1)
/-- 'all' over a predicate. -/
theorem all_hex (s : ByteArray) (hs : s.size ≤ 9223372036854775807) : impl_all.f s 62 = some ((bytesOf s).all hexB) := by
  unfold impl_all.f
  rw [if_pos hs]
  simp only [Nat.reduceEqDiff, if_true, if_false, reduceIte]
  rw [all_congr' fun c hc => (by rw [impl_isHex_is]; cases hexB c <;> rfl : (impl_isHex.f c == some true) = hexB c)]
theorem all_dig (s : ByteArray) (hs : s.size ≤ 9223372036854775807) : impl_all.f s 65 = some ((bytesOf s).all digB) := by
  unfold impl_all.f
  rw [if_pos hs]
  simp only [Nat.reduceEqDiff, if_true, if_false, reduceIte]
  rw [all_congr' fun c hc => (by rw [impl_isDigit_is]; cases digB c <;> rfl : (impl_isDigit.f c == some true) = digB c)]
def inB (x a b : Int) : Bool := decide (a ≤ x) && decide (x ≤ b)
theorem spec_l1In_is (x a b : Int) : spec_l1In.f x a b = some (inB x a b) := by
  unfold spec_l1In.f inB
  by_cases h : x ≥ a
  · rw [if_pos h, decide_eq_true (by omega : a ≤ x), Bool.true_and]
  · rw [if_neg h, decide_eq_false (by omega : ¬ a ≤ x), Bool.false_and]
theorem impl_within_is (x a b : Int) : impl_within.f x a b = some (inB x a b) := by
  unfold impl_within.f inB
  by_cases h : x ≥ a
  · rw [if_pos h, decide_eq_true (by omega : a ≤ x), Bool.true_and]
  · rw [if_neg h, decide_eq_false (by omega : ¬ a ≤ x), Bool.false_and]
theorem inB_true {x a b : Int} (h : inB x a b = true) : a ≤ x ∧ x ≤ b := by unfold inB at h; simpa using h
/-- What a state asks of Left and Digits. -/
def chunkState (st left : Int) (dg : ByteArray) : Bool :=
  if st = 1 then left == 0 else if st = 2 then dg.toList == ([] : List UInt8) else if st = 3 then (dg.toList == ([] : List UInt8)) && decide (left > 0) else decide (left = 0) && (dg.toList == ([] : List UInt8))
def chunkerOk (st left : Int) (dg bd : ByteArray) : Bool :=
  inB st 1 9 && (inB left 0 4000 && (decide (dg.size ≤ 13) && (decide ((bd.size : Int) + left ≤ 4000) && ((bytesOf dg).all hexB && chunkState st left dg))))
theorem spec_ChunkerOk_ev (st left : Int) (dg bd : ByteArray) (hb : bd.size ≤ 4611686018427387904) : Ev (fun k => spec_ChunkerOk.f k st left dg bd) (chunkerOk st left dg bd) := by
  have no : Ev (fun k => spec_ChunkerOk.j0 k true st left dg bd) false := Ev.step (f := fun _ => some false) (fun k => by simp only [spec_ChunkerOk.j0, if_true]) (Ev.now _)
  unfold spec_ChunkerOk.f chunkerOk
  simp only [spec_l1In_is, Option.bind_some]
  cases h1 : inB st 1 9
  · simp only [Bool.false_eq_true, if_false, Bool.false_and]; exact no
  · simp only [if_true, Bool.true_and]
    cases h2 : inB left 0 4000
    · simp only [Bool.false_eq_true, if_false, Bool.false_and]; exact no
    · simp only [if_true, Bool.true_and]
      obtain ⟨l0, l1⟩ := inB_true h2
      by_cases h3 : (dg.size : Int) > 13
      · simp only [if_pos h3]
        rw [decide_eq_false (by omega : ¬ dg.size ≤ 13), Bool.false_and]; exact no
      · simp only [if_neg h3]
        rw [decide_eq_true (by omega : dg.size ≤ 13), Bool.true_and, wrap_in (by omega) (by omega)]
        by_cases h4 : (bd.size : Int) + left > 4000
        · rw [decide_eq_true h4, decide_eq_false (by omega : ¬ (bd.size : Int) + left ≤ 4000), Bool.false_and]; exact no
        · rw [decide_eq_false h4, decide_eq_true (by omega : (bd.size : Int) + left ≤ 4000), Bool.true_and]
          refine Ev.step (f := fun k => spec_ChunkerOk.l0 k 0 st left dg bd) (fun k => by simp only [spec_ChunkerOk.j0, Bool.false_eq_true, if_false]) ?_
          refine ev_eq (ev_allr dg hexB (chunkState st left dg) false (fun k i => spec_ChunkerOk.l0 k i st left dg bd) 2 (fun k i hk hi hp => ?_) (fun k i hk hi hp => ?_) (fun k _ => ?_)) (by cases (bytesOf dg).all hexB <;> simp)
          · have hr := bt_range dg i
            have hn := hexV_neg (bt dg i)
            rw [hp] at hn
            simp only [spec_ChunkerOk.l0]
            rw [if_pos (by omega), if_pos (by omega), spec_l1Hex_is _ hr.1 hr.2 k hk, wrap_next hi (by omega)]
            simp only [Option.bind_some]
            rw [if_neg (by simpa using hn)]
          · have hr := bt_range dg i
            have hn := hexV_neg (bt dg i)
            rw [hp] at hn
            simp only [spec_ChunkerOk.l0]
            rw [if_pos (by omega), if_pos (by omega), spec_l1Hex_is _ hr.1 hr.2 k hk]
            simp only [Option.bind_some]
            rw [if_pos (by simpa using hn)]
          · simp only [spec_ChunkerOk.l0]
            rw [if_neg (by omega)]
            unfold chunkState
            by_cases s1 : st = 1
            · simp [s1]
            · by_cases s2 : st = 2
              · simp [s2]
              · by_cases s3 : st = 3
                · by_cases e : dg.toList = [] <;> simp [s3, e]
                · by_cases e : left = 0 <;> simp [s1, s2, s3, e]
theorem impl_ChunkerOk_ev (st left : Int) (dg bd : ByteArray) (hb : bd.size ≤ 4611686018427387904) : Ev (fun k => impl_ChunkerOk.f k st left dg bd) (chunkerOk st left dg bd) := by
  have no : Ev (fun k => impl_ChunkerOk.j0 k true st left dg bd) false := Ev.step (f := fun _ => some false) (fun k => by simp only [impl_ChunkerOk.j0, if_true]) (Ev.now _)
  unfold impl_ChunkerOk.f chunkerOk
  simp only [impl_within_is, Option.bind_some]
  cases h1 : inB st 1 9
  · simp only [Bool.false_eq_true, if_false, Bool.false_and]; exact no
  · simp only [if_true, Bool.true_and]
    cases h2 : inB left 0 4000
    · simp only [Bool.false_eq_true, if_false, Bool.false_and]; exact no
    · simp only [if_true, Bool.true_and]
      obtain ⟨l0, l1⟩ := inB_true h2
      by_cases h3 : (dg.size : Int) > 13
      · simp only [if_pos h3]
        rw [decide_eq_false (by omega : ¬ dg.size ≤ 13), Bool.false_and]; exact no
      · simp only [if_neg h3]
        rw [decide_eq_true (by omega : dg.size ≤ 13), Bool.true_and, all_hex dg (by omega)]
        simp only [Option.bind_some]
        cases h5 : (bytesOf dg).all hexB
        · simp only [Bool.false_eq_true, if_false, Bool.false_and, Bool.and_false]; exact no
        · simp only [if_true, Bool.true_and]
          by_cases h6 : (bd.size : Int) > 4000
          · simp only [if_pos h6]
            rw [decide_eq_false (by omega : ¬ (bd.size : Int) + left ≤ 4000), Bool.false_and]; exact no
          · simp only [if_neg h6]
            rw [wrap_in (by omega) (by omega)]
            by_cases h4 : left + (bd.size : Int) > 4000
            · rw [decide_eq_true h4, decide_eq_false (by omega : ¬ (bd.size : Int) + left ≤ 4000), Bool.false_and]; exact no
            · rw [decide_eq_false h4, decide_eq_true (by omega : (bd.size : Int) + left ≤ 4000), Bool.true_and]
              refine Ev.step (f := fun _ => some (chunkState st left dg)) (fun k => ?_) (Ev.now _)
              simp only [impl_ChunkerOk.j0, Bool.false_eq_true, if_false]
              unfold chunkState
              by_cases p : left > 0
              · have p0 : ¬ left = 0 := by omega
                by_cases s2 : st = 2
                · by_cases e : dg.toList = [] <;> simp [p, p0, s2, e]
                · by_cases s3 : st = 3
                  · by_cases e : dg.toList = [] <;> simp [p, p0, s3, e]
                  · by_cases s1 : st = 1 <;> simp [p, p0, s1, s2, s3]
              · have p0 : left = 0 := by omega
                by_cases s3 : st = 3
                · by_cases e : dg.toList = [] <;> simp [p0, s3, e]
                · by_cases s1 : st = 1
                  · by_cases e : dg.toList = [] <;> simp [p0, s1, e]
                  · by_cases s2 : st = 2
                    · by_cases e : dg.toList = [] <;> simp [p0, s2, e]
                    · have sb : (st == 1) = false := by simpa using s1
                      by_cases e : dg.toList = []
                      · simp [p0, s1, s2, s3, e]
                      · have eb : dg.toList.isEmpty = false := by simpa using e
                        simp [p0, s1, s2, s3, e, sb, eb]
theorem dgt_hex (c : Int) : dgt c = hexV c := by
  unfold dgt hexV digB
  by_cases h : 48 ≤ c ∧ c ≤ 57
  · rw [if_pos h, if_pos (by simp [h])]
  · have hb : (decide (48 ≤ c) && decide (c ≤ 57)) = false := by simp; omega
    rw [if_neg h, hb]
    simp
theorem hexV_lt (c : Int) : hexV c < 16 := by
  rw [← dgt_hex]
  unfold dgt
  split
  · omega
  · split
    · omega
    · split <;> omega
theorem hexB_is (c : Int) : hexB c = (decide (0 ≤ dgt c) && decide (dgt c < 16)) := by
  have h1 := hexV_neg c
  have h2 := hexV_lt c
  rw [dgt_hex, decide_eq_true h2, Bool.and_true]
  by_cases h : 0 ≤ hexV c
  · rw [decide_eq_false (by omega : ¬ hexV c < 0)] at h1
    rw [decide_eq_true h]
    cases hb : hexB c
    · rw [hb] at h1; cases h1
    · rfl
  · rw [decide_eq_true (by omega : hexV c < 0)] at h1
    rw [decide_eq_false h]
    cases hb : hexB c
    · rfl
    · rw [hb] at h1; cases h1
theorem digB_is (c : Int) : digB c = (decide (0 ≤ dgt c) && decide (dgt c < 10)) := by
  unfold digB dgt
  by_cases h : 48 ≤ c ∧ c ≤ 57
  · rw [if_pos h]
    have a : 0 ≤ c - 48 := by omega
    have b : c - 48 < 10 := by omega
    simp [h, a, b]
  · rw [if_neg h]
    have : (decide (48 ≤ c) && decide (c ≤ 57)) = false := by simp; omega
    rw [this]
    split
    · have : ¬ c - 87 < 10 := by omega
      simp [this]
    · split
      · have : ¬ c - 55 < 10 := by omega
        simp [this]
      · simp
theorem dgt_dig {c : Int} (h : digB c = true) : dgt c = c - 48 ∧ 48 ≤ c ∧ c ≤ 57 := by
  unfold digB at h
  simp at h
  unfold dgt
  rw [if_pos h]
  exact ⟨rfl, h⟩
theorem all_okB16 (l : List Int) : l.all hexB = okB 16 l := all_congr' fun c _ => hexB_is c
theorem all_okB10 (l : List Int) : l.all digB = okB 10 l := all_congr' fun c _ => digB_is c
/-- A text's number at a base, if it has one to so many digits. -/
def numOk (b : Int) (m : Nat) (p : Int → Bool) (s : ByteArray) : Int × Bool := if 1 ≤ s.size ∧ s.size ≤ m ∧ (bytesOf s).all p = true then (numB b (bytesOf s), true) else (0, false)
theorem runL_num (b : Int) (p : Int → Bool) (l : List Int) (st : Int) :
    runL (fun (st : Int) c => if p c = true then .inl (st * b + dgt c) else .inr ((0 : Int), false)) (fun st => (st, true)) l st = if l.all p = true then (l.foldl (fun n c => n * b + dgt c) st, true) else (0, false) := by
  induction l generalizing st with
  | nil => rfl
  | cons c cs ih =>
    rw [List.all_cons]
    unfold runL
    by_cases hp : p c = true
    · simp only [hp, if_true, Bool.true_and, ih, List.foldl_cons]
    · simp only [(by simpa using hp : p c = false), Bool.false_and, Bool.false_eq_true, if_false]
theorem num_next {b st d : Int} {i : Nat} (hb : 0 ≤ b) (h0 : 0 ≤ st) (h1 : st < b ^ i) (d0 : 0 ≤ d) (d1 : d < b) : 0 ≤ st * b ∧ 0 ≤ st * b + d ∧ st * b + d < b ^ (i + 1) := by
  have a := Int.mul_nonneg h0 hb
  rw [Int.pow_succ]
  have : (st + 1) * b ≤ b ^ i * b := Int.mul_le_mul_of_nonneg_right (by omega) hb
  rw [Int.add_mul, Int.one_mul] at this
  omega
theorem num_loop (b : Int) (hb : b = 10 ∨ b = 16) (m : Nat) (hm : (b = 10 ∧ m ≤ 15) ∨ (b = 16 ∧ m ≤ 13)) (p : Int → Bool) (hp : ∀ c, p c = true → 0 ≤ dgt c ∧ dgt c < b) (s : ByteArray) (hs : s.size ≤ m) (g : Nat → Int → Int → Option (Int × Bool)) (K : Nat)
    (h1 : ∀ k (st : Int) (i : Nat), K ≤ k → i < s.size → p (bt s i) = true → wrap64 (st * b) = st * b → wrap64 (st * b + dgt (bt s i)) = st * b + dgt (bt s i) → g (k + 1) st i = g k (st * b + dgt (bt s i)) ((i + 1 : Nat) : Int))
    (h0 : ∀ k (st : Int) (i : Nat), K ≤ k → i < s.size → p (bt s i) = false → g (k + 1) st i = some (0, false))
    (he : ∀ k (st : Int), K ≤ k → g (k + 1) st (s.size : Int) = some (st, true)) : Ev (fun k => g k 0 0) (if (bytesOf s).all p = true then (numB b (bytesOf s), true) else (0, false)) := by
  have hr := ev_run s (fun (st : Int) i => 0 ≤ st ∧ st < b ^ i) (fun (st : Int) c => if p c = true then .inl (st * b + dgt c) else .inr ((0 : Int), false)) (fun st => (st, true)) g K
    (fun k st i hk hi hI => ⟨fun st' e => (by
        by_cases hq : p (bt s i) = true
        · rw [if_pos hq] at e
          obtain rfl : st * b + dgt (bt s i) = st' := by injection e
          obtain ⟨d0, d1⟩ := hp _ hq
          obtain ⟨a0, a1, a2⟩ := num_next (b := b) (by omega) hI.1 hI.2 d0 d1
          have hw := pow_small hb hm (k := i + 1) (by omega)
          exact ⟨h1 k st i hk hi hq (wrap_in (by omega) (by omega)) (wrap_in (by omega) (by omega)), a1, a2⟩
        · rw [if_neg hq] at e; cases e),
      fun r e => (by
        by_cases hq : p (bt s i) = true
        · rw [if_pos hq] at e; cases e
        · rw [if_neg hq] at e
          obtain rfl : ((0 : Int), false) = r := by injection e
          exact h0 k st i hk hi (by simpa using hq))⟩)
    (fun k st hk _ => he k st hk) 0 ⟨by omega, by simp⟩
  rw [runL_num] at hr
  exact hr
theorem spec_HexDigits_ev (s : ByteArray) : Ev (fun k => spec_HexDigits.f k s) (numOk 16 13 hexB s) := by
  have no : Ev (fun k => spec_HexDigits.j0 k s true) ((0 : Int), false) := Ev.step (f := fun _ => some (0, false)) (fun k => by simp only [spec_HexDigits.j0, if_true]) (Ev.now _)
  unfold spec_HexDigits.f numOk
  by_cases h1 : (s.size : Int) < 1
  · simp only [if_pos h1]
    rw [if_neg (by omega)]
    exact no
  · simp only [if_neg h1]
    by_cases h2 : (s.size : Int) > 13
    · rw [decide_eq_true h2, if_neg (by omega)]
      exact no
    · rw [decide_eq_false h2]
      refine Ev.step (f := fun k => spec_HexDigits.l0 k s 0 0) (fun k => by simp only [spec_HexDigits.j0, Bool.false_eq_true, if_false]) ?_
      refine ev_eq (num_loop 16 (.inr rfl) 13 (.inr ⟨rfl, Nat.le_refl _⟩) hexB (fun c h => by rw [hexB_is] at h; simpa using h) s (by omega) (fun k st i => spec_HexDigits.l0 k s st i) 2 (fun k st i hk hi hq w1 w2 => ?_) (fun k st i hk hi hq => ?_) (fun k st _ => ?_)) ?_
      · have hr := bt_range s i
        have hn := hexV_neg (bt s i)
        rw [hq] at hn
        rw [dgt_hex] at w2 ⊢
        simp only [spec_HexDigits.l0]
        rw [if_pos (by omega), if_pos (by omega), spec_l1Hex_is _ hr.1 hr.2 k hk, wrap_next hi (by omega)]
        simp only [Option.bind_some]
        rw [if_neg (by simpa using hn), w1, w2]
      · have hr := bt_range s i
        have hn := hexV_neg (bt s i)
        rw [hq] at hn
        simp only [spec_HexDigits.l0]
        rw [if_pos (by omega), if_pos (by omega), spec_l1Hex_is _ hr.1 hr.2 k hk]
        simp only [Option.bind_some]
        rw [if_pos (by simpa using hn)]
      · simp only [spec_HexDigits.l0]
        rw [if_neg (by omega)]
      · have a : 1 ≤ s.size := by omega
        have b : s.size ≤ 13 := by omega
        simp only [a, b, true_and]
theorem impl_HexDigits_is (s : ByteArray) : impl_HexDigits.f s = some (numOk 16 13 hexB s) := by
  unfold impl_HexDigits.f numOk
  by_cases h1 : (s.size : Int) < 1
  · rw [if_pos h1, if_neg (by omega)]
  · rw [if_neg h1]
    by_cases h2 : (s.size : Int) > 13
    · rw [if_pos h2, if_neg (by omega)]
    · rw [if_neg h2, all_hex s (by omega)]
      simp only [Option.bind_some]
      have a : 1 ≤ s.size := by omega
      have b : s.size ≤ 13 := by omega
      by_cases h3 : (bytesOf s).all hexB = true
      · rw [if_pos h3, if_pos ⟨a, b, h3⟩]
        unfold strconv_ParseInt.f
        rw [if_pos ⟨rfl, by omega, by rw [← all_okB16]; exact h3, .inl ⟨rfl, b⟩⟩]
        rfl
      · rw [if_neg h3, if_neg (by intro h; exact h3 h.2.2)]
/-- A loop over bytes whose rounds each end, however many rounds they take. -/
theorem ev_runE {σ β : Type} (s : ByteArray) (I : σ → Nat → Prop) (f : σ → Int → σ ⊕ β) (fin : σ → β) (g : Nat → σ → Int → Option β)
    (hstep : ∀ st (i : Nat), i < s.size → I st i → (∀ st', f st (bt s i) = .inl st' → I st' (i + 1) ∧ ∀ r, Ev (fun k => g k st' ((i + 1 : Nat) : Int)) r → Ev (fun k => g k st (i : Int)) r) ∧ (∀ b, f st (bt s i) = .inr b → Ev (fun k => g k st (i : Int)) b))
    (hend : ∀ st, I st s.size → Ev (fun k => g k st (s.size : Int)) (fin st)) (st : σ) (h0 : I st 0) :
    Ev (fun k => g k st 0) (runL f fin (bytesOf s) st) := by
  have key : ∀ (d i : Nat) (st : σ), i + d = s.size → I st i → Ev (fun k => g k st (i : Int)) (runL f fin ((bytesOf s).drop i) st) := by
    intro d
    induction d with
    | zero =>
      intro i st hd hI
      have e : i = s.size := by omega
      subst e
      rw [List.drop_of_length_le (by rw [bytesOf_length]; exact Nat.le_refl _)]
      exact hend st hI
    | succ d ih =>
      intro i st hd hI
      obtain ⟨h1, h2⟩ := hstep st i (by omega) hI
      rw [drop_bt s i (by omega)]
      show Ev _ (match f st (bt s i) with | .inl st' => runL f fin ((bytesOf s).drop (i + 1)) st' | .inr b => b)
      cases hf : f st (bt s i) with
      | inl st' =>
        obtain ⟨hI', hr⟩ := h1 st' hf
        exact hr _ (ih (i + 1) st' (by omega) hI')
      | inr b => exact h2 b hf
  have := key s.size 0 st (by omega) h0
  rw [List.drop_zero] at this
  exact this

abbrev Chk := Int × Int × ByteArray × ByteArray
def badC (bd : ByteArray) : Chk := (9, 0, (⟨#[]⟩ : ByteArray), bd)
/-- A chunker that eats a byte. -/
def eatC (st left : Int) (dg bd : ByteArray) (b : Int) : Chk :=
  if st = 8 ∨ st = 9 then (st, left, dg, bd)
  else if st = 1 then
    (if hexB b = true ∧ dg.size < 13 then (1, left, dg ++ strOfNums [b], bd)
     else if b = 13 ∧ (numOk 16 13 hexB dg).2 = true ∧ ¬ (numOk 16 13 hexB dg).1 > 4000 - (bd.size : Int) then (2, (numOk 16 13 hexB dg).1, (⟨#[]⟩ : ByteArray), bd) else badC bd)
  else if st = 2 then (if b = 10 then (if left = 0 then (6, left, dg, bd) else (3, left, dg, bd)) else badC bd)
  else if st = 3 then (if left - 1 = 0 then (4, left - 1, dg, bd ++ strOfNums [b]) else (3, left - 1, dg, bd ++ strOfNums [b]))
  else if st = 4 then (if b = 13 then (5, left, dg, bd) else badC bd)
  else if st = 5 then (if b = 10 then (1, left, dg, bd) else badC bd)
  else if st = 6 then (if b = 13 then (7, left, dg, bd) else badC bd)
  else (if b = 10 then (8, left, dg, bd) else badC bd)
/-- What each chunker keeps that eats. -/
structure Vc (c : Chk) : Prop where
  s0 : 1 ≤ c.1
  s1 : c.1 ≤ 9
  l0 : 0 ≤ c.2.1
  l1 : c.2.1 + (c.2.2.2.size : Int) ≤ 4000
  d1 : c.2.2.1.size ≤ 13
  l3 : c.1 = 3 → 0 < c.2.1
theorem sizeE_one (b : Int) : (strOfNums [b]).size = 1 := rfl
theorem sizeE_app (a b : ByteArray) : (a ++ b).size = a.size + b.size := ByteArray.size_append
theorem numOk_nonneg (s : ByteArray) : 0 ≤ (numOk 16 13 hexB s).1 := by
  unfold numOk
  by_cases h : 1 ≤ s.size ∧ s.size ≤ 13 ∧ (bytesOf s).all hexB = true
  · rw [if_pos h]
    have := (numB_bound 16 (bytesOf s) (by decide) (by rw [← all_okB16]; exact h.2.2) (bytesOf s).length).1
    rw [List.take_length] at this
    exact this
  · rw [if_neg h]
    exact Int.le_refl _
theorem Vc.eat {st left : Int} {dg bd : ByteArray} (v : Vc (st, left, dg, bd)) (b : Int) : Vc (eatC st left dg bd b) := by
  have h0 : 1 ≤ st := v.s0
  have h1 : st ≤ 9 := v.s1
  have h2 : 0 ≤ left := v.l0
  have h3 : left + (bd.size : Int) ≤ 4000 := v.l1
  have h4 : dg.size ≤ 13 := v.d1
  have h5 : st = 3 → 0 < left := v.l3
  have hbad : Vc (badC bd) := ⟨by show (1 : Int) ≤ 9; decide, by show (9 : Int) ≤ 9; decide, by show (0 : Int) ≤ 0; decide, by show (0 : Int) + (bd.size : Int) ≤ 4000; omega, Nat.zero_le _, fun h => absurd h (by show ¬ (9 : Int) = 3; decide)⟩
  have mk : ∀ x : Int, 1 ≤ x → x ≤ 9 → (x = 3 → 0 < left) → Vc (x, left, dg, bd) := fun x a c e => ⟨a, c, h2, h3, h4, e⟩
  unfold eatC
  split
  · exact v
  · split
    · split
      · rename_i hx
        refine ⟨by show (1 : Int) ≤ 1; decide, by show (1 : Int) ≤ 9; decide, h2, h3, ?_, fun h => absurd h (by show ¬ (1 : Int) = 3; decide)⟩
        show (dg ++ strOfNums [b]).size ≤ 13
        rw [sizeE_app, sizeE_one]
        omega
      · split
        · rename_i hx
          have hn := numOk_nonneg dg
          refine ⟨by show (1 : Int) ≤ 2; decide, by show (2 : Int) ≤ 9; decide, hn, ?_, Nat.zero_le _, fun h => absurd h (by show ¬ (2 : Int) = 3; decide)⟩
          show (numOk 16 13 hexB dg).1 + (bd.size : Int) ≤ 4000
          omega
        · exact hbad
    · split
      · split
        · split
          · exact mk 6 (by decide) (by decide) (fun h => absurd h (by decide))
          · exact mk 3 (by decide) (by decide) (fun _ => by omega)
        · exact hbad
      · split
        · rename_i hst
          have := h5 hst
          split
          · refine ⟨by show (1 : Int) ≤ 4; decide, by show (4 : Int) ≤ 9; decide, by show 0 ≤ left - 1; omega, ?_, h4, fun h => absurd h (by show ¬ (4 : Int) = 3; decide)⟩
            show left - 1 + ((bd ++ strOfNums [b]).size : Int) ≤ 4000
            rw [sizeE_app, sizeE_one]; omega
          · refine ⟨by show (1 : Int) ≤ 3; decide, by show (3 : Int) ≤ 9; decide, by show 0 ≤ left - 1; omega, ?_, h4, fun _ => by show 0 < left - 1; omega⟩
            show left - 1 + ((bd ++ strOfNums [b]).size : Int) ≤ 4000
            rw [sizeE_app, sizeE_one]; omega
        · split
          · split
            · exact mk 5 (by decide) (by decide) (fun h => absurd h (by decide))
            · exact hbad
          · split
            · split
              · exact mk 1 (by decide) (by decide) (fun h => absurd h (by decide))
              · exact hbad
            · split
              · split
                · exact mk 7 (by decide) (by decide) (fun h => absurd h (by decide))
                · exact hbad
              · split
                · exact mk 8 (by decide) (by decide) (fun h => absurd h (by decide))
                · exact hbad
theorem spec_l5Eat_ev (st left : Int) (dg bd : ByteArray) (b : Int) (v : Vc (st, left, dg, bd)) (b0 : 0 ≤ b) (b1 : b ≤ 255) : Ev (fun k => spec_l5Eat.f k st left dg bd b) (eatC st left dg bd b) := by
  have h0 : 1 ≤ st := v.s0
  have h1 : st ≤ 9 := v.s1
  have h2 : 0 ≤ left := v.l0
  have h3 : left + (bd.size : Int) ≤ 4000 := v.l1
  have h4 : dg.size ≤ 13 := v.d1
  obtain ⟨K, hK⟩ := spec_HexDigits_ev dg
  refine ⟨K + 10, fun k hk => ?_⟩
  obtain ⟨k, rfl⟩ : ∃ m, k = m + 3 := ⟨k - 3, by omega⟩
  have hH : ∀ j, K ≤ j → spec_HexDigits.f j dg = some (numOk 16 13 hexB dg) := hK
  have hcase : st = 1 ∨ st = 2 ∨ st = 3 ∨ st = 4 ∨ st = 5 ∨ st = 6 ∨ st = 7 ∨ st = 8 ∨ st = 9 := by omega
  rcases hcase with rfl | rfl | rfl | rfl | rfl | rfl | rfl | rfl | rfl
  · simp only [spec_l5Eat.f, eatC]
    rw [if_neg (by decide), if_neg (by decide), if_pos trivial]
    simp only [spec_l5Eat.j0]
    rw [if_neg (by decide)]
    first | rw [if_pos rfl] | rw [if_pos trivial]
    rw [spec_l1Hex_is b b0 b1 _ (by omega)]
    simp only [Option.bind_some]
    have hn := hexV_neg b
    have tail : ∀ d : Bool, d = false → spec_l5Eat.j1 (k + 1 + 1) b d 1 left dg bd 9 0 (⟨#[]⟩ : ByteArray) bd = some (if b = 13 ∧ (numOk 16 13 hexB dg).2 = true ∧ ¬ (numOk 16 13 hexB dg).1 > 4000 - (bd.size : Int) then (2, (numOk 16 13 hexB dg).1, (⟨#[]⟩ : ByteArray), bd) else badC bd) := by
      intro d hd
      subst hd
      simp only [spec_l5Eat.j1]
      rw [if_neg (by decide), hH _ (by omega)]
      simp only [Option.bind_some, spec_l5Eat.j2]
      rw [wrap_in (i := 4000 - (bd.size : Int)) (by omega) (by omega)]
      by_cases e1 : b = 13
      · by_cases e2 : (numOk 16 13 hexB dg).2 = true
        · by_cases e3 : (numOk 16 13 hexB dg).1 > 4000 - (bd.size : Int)
          · rw [if_pos e1, if_pos e2, if_pos (decide_eq_true e3), if_neg (by intro h; exact h.2.2 e3)]; rfl
          · rw [if_pos e1, if_pos e2, if_neg (by simpa using e3), if_pos ⟨e1, e2, e3⟩]
        · rw [if_pos e1, if_neg e2, if_pos trivial, if_neg (by intro h; exact e2 h.2.1)]; rfl
      · rw [if_neg e1, if_pos trivial, if_neg (by intro h; exact e1 h.1)]; rfl
    by_cases hx : hexB b = true
    · rw [hx] at hn
      rw [if_pos (by have : ¬ hexV b < 0 := by simpa using hn
                     omega)]
      by_cases hd : dg.size < 13
      · rw [if_pos ⟨hx, hd⟩]
        simp only [spec_l5Eat.j1]
        rw [if_pos (decide_eq_true (by omega : (dg.size : Int) < 13))]
        simp only [Option.bind_some]
        rw [if_pos (by rw [sizeE_one]; omega)]
      · rw [if_neg (by intro h; exact hd h.2)]
        exact tail _ (decide_eq_false (by omega : ¬ (dg.size : Int) < 13))
    · rw [Bool.not_eq_true] at hx
      rw [hx] at hn
      rw [if_neg (by have : hexV b < 0 := by simpa using hn
                     omega), if_neg (by rw [hx]; simp)]
      exact tail _ rfl
  · simp only [spec_l5Eat.f, eatC, spec_l5Eat.j0, badC]
    by_cases e : b = 10 <;> by_cases e2 : left = 0 <;> simp [e, e2]
  · simp only [spec_l5Eat.f, eatC, spec_l5Eat.j0, badC, Option.bind_some]
    rw [wrap_in (i := left - 1) (by omega) (by omega), if_pos (show bd.size + (strOfNums [b]).size ≤ 9223372036854775807 by rw [sizeE_one]; omega)]
    by_cases e : left - 1 = 0 <;> simp [e]
  · simp only [spec_l5Eat.f, eatC, spec_l5Eat.j0, badC]
    by_cases e : b = 13 <;> simp [e]
  · simp only [spec_l5Eat.f, eatC, spec_l5Eat.j0, badC]
    by_cases e : b = 10 <;> simp [e]
  · simp only [spec_l5Eat.f, eatC, spec_l5Eat.j0, badC]
    by_cases e : b = 13 <;> simp [e]
  · simp only [spec_l5Eat.f, eatC, spec_l5Eat.j0, badC]
    by_cases e : b = 10 <;> simp [e]
  · simp [spec_l5Eat.f, eatC, spec_l5Eat.j0]
  · simp [spec_l5Eat.f, eatC, spec_l5Eat.j0]
theorem impl_eat_ev (st left : Int) (dg bd : ByteArray) (b : Int) (v : Vc (st, left, dg, bd)) (b0 : 0 ≤ b) (b1 : b ≤ 255) : Ev (fun k => impl_Chunker_eat.f k st left dg bd b) (eatC st left dg bd b) := by
  have h0 : 1 ≤ st := v.s0
  have h1 : st ≤ 9 := v.s1
  have h2 : 0 ≤ left := v.l0
  have h3 : left + (bd.size : Int) ≤ 4000 := v.l1
  have h4 : dg.size ≤ 13 := v.d1
  refine ⟨10, fun k hk => ?_⟩
  obtain ⟨k, rfl⟩ : ∃ m, k = m + 3 := ⟨k - 3, by omega⟩
  have hcase : st = 1 ∨ st = 2 ∨ st = 3 ∨ st = 4 ∨ st = 5 ∨ st = 6 ∨ st = 7 ∨ st = 8 ∨ st = 9 := by omega
  rcases hcase with rfl | rfl | rfl | rfl | rfl | rfl | rfl | rfl | rfl
  · simp only [impl_Chunker_eat.f, eatC]
    rw [if_neg (by decide), if_neg (by decide), if_pos trivial]
    simp only [impl_Chunker_eat.j0]
    rw [if_neg (by decide)]
    first | rw [if_pos rfl] | rw [if_pos trivial]
    have tail : ∀ d : Bool, d = false → impl_Chunker_size.j0 (k + 1 + 1) b d 1 left dg bd = some (if b = 13 ∧ (numOk 16 13 hexB dg).2 = true ∧ ¬ (numOk 16 13 hexB dg).1 > 4000 - (bd.size : Int) then (2, (numOk 16 13 hexB dg).1, (⟨#[]⟩ : ByteArray), bd) else badC bd) := by
      intro d hd
      subst hd
      simp only [impl_Chunker_size.j0]
      rw [if_neg (by decide), impl_HexDigits_is]
      simp only [Option.bind_some, impl_Chunker_bad.f]
      rw [wrap_in (i := 4000 - (bd.size : Int)) (by omega) (by omega)]
      by_cases e1 : b = 13
      · by_cases e2 : (numOk 16 13 hexB dg).2 = true
        · by_cases e3 : (numOk 16 13 hexB dg).1 > 4000 - (bd.size : Int)
          · rw [if_pos e1, if_pos e2, if_pos e3, if_neg (by intro h; exact h.2.2 e3)]; rfl
          · rw [if_pos e1, if_pos e2, if_neg e3, if_pos ⟨e1, e2, e3⟩]
        · rw [if_pos e1, if_neg e2, if_neg (by intro h; exact e2 h.2.1)]; rfl
      · rw [if_neg e1, if_neg (by intro h; exact e1 h.1)]; rfl
    unfold impl_Chunker_size.f
    rw [impl_isHex_is]
    simp only [Option.bind_some]
    by_cases hx : hexB b = true
    · rw [if_pos hx]
      by_cases hd : dg.size < 13
      · rw [if_pos ⟨hx, hd⟩]
        simp only [impl_Chunker_size.j0]
        rw [if_pos (decide_eq_true (by omega : (dg.size : Int) < 13))]
        simp only [Option.bind_some]
        rw [if_pos (by rw [sizeE_one]; omega)]
        rfl
      · rw [if_neg (show ¬ (hexB b = true ∧ dg.size < 13) by intro h; exact hd h.2), tail _ (decide_eq_false (by omega : ¬ (dg.size : Int) < 13))]
        rfl
    · rw [if_neg hx, if_neg (show ¬ (hexB b = true ∧ dg.size < 13) by intro h; exact hx h.1), tail _ rfl]
      rfl
  · simp only [impl_Chunker_eat.f, eatC, impl_Chunker_eat.j0, badC, impl_Chunker_bad.f]
    by_cases e : b = 10 <;> by_cases e2 : left = 0 <;> simp [e, e2]
  · simp only [impl_Chunker_eat.f, eatC, impl_Chunker_eat.j0, badC, impl_Chunker_bad.f, Option.bind_some]
    rw [wrap_in (i := left - 1) (by omega) (by omega), if_pos (show bd.size + (strOfNums [b]).size ≤ 9223372036854775807 by rw [sizeE_one]; omega)]
    by_cases e : left - 1 = 0 <;> simp [e]
  · simp only [impl_Chunker_eat.f, eatC, impl_Chunker_eat.j0, badC, impl_Chunker_bad.f]
    by_cases e : b = 13 <;> simp [e]
  · simp only [impl_Chunker_eat.f, eatC, impl_Chunker_eat.j0, badC, impl_Chunker_bad.f]
    by_cases e : b = 10 <;> simp [e]
  · simp only [impl_Chunker_eat.f, eatC, impl_Chunker_eat.j0, badC, impl_Chunker_bad.f]
    by_cases e : b = 13 <;> simp [e]
  · simp only [impl_Chunker_eat.f, eatC, impl_Chunker_eat.j0, badC, impl_Chunker_bad.f]
    by_cases e : b = 10 <;> simp [e]
  · simp [impl_Chunker_eat.f, eatC, impl_Chunker_eat.j0]
  · simp [impl_Chunker_eat.f, eatC, impl_Chunker_eat.j0]
theorem Vc.of_ok {st left : Int} {dg bd : ByteArray} (h : chunkerOk st left dg bd = true) : Vc (st, left, dg, bd) := by
  unfold chunkerOk at h
  simp only [Bool.and_eq_true, decide_eq_true_eq] at h
  obtain ⟨a, b, c, d, e, f⟩ := h
  obtain ⟨a0, a1⟩ := inB_true a
  obtain ⟨b0, b1⟩ := inB_true b
  refine ⟨a0, a1, b0, by show left + (bd.size : Int) ≤ 4000; omega, c, fun h3 => ?_⟩
  have h3 : st = 3 := h3
  subst h3
  show 0 < left
  unfold chunkState at f
  rw [if_neg (by decide), if_neg (by decide), if_pos rfl, Bool.and_eq_true, decide_eq_true_eq] at f
  exact f.2
/-- A chunker that eats a text: it, and how many bytes it ate. -/
def eatL (c : Chk) (s : ByteArray) : Int × Int × ByteArray × ByteArray × Int :=
  runL (fun (p : Int × Chk) b => if p.2.1 < 8 then .inl (p.1 + 1, eatC p.2.1 p.2.2.1 p.2.2.2.1 p.2.2.2.2 b) else .inr (p.2.1, p.2.2.1, p.2.2.2.1, p.2.2.2.2, p.1)) (fun p => (p.2.1, p.2.2.1, p.2.2.2.1, p.2.2.2.2, p.1)) (bytesOf s) (0, c)
theorem eat_loop (s : ByteArray) (hs : s.size ≤ 4611686018427387904) (c : Chk) (v : Vc c) (g : Nat → Int × Chk → Int → Option (Int × Int × ByteArray × ByteArray × Int))
    (h1 : ∀ (i : Nat) (c : Chk), i < s.size → c.1 < 8 → Vc c → ∀ r, Ev (fun k => g k (((i + 1 : Nat) : Int), eatC c.1 c.2.1 c.2.2.1 c.2.2.2 (bt s i)) ((i + 1 : Nat) : Int)) r → Ev (fun k => g k ((i : Int), c) (i : Int)) r)
    (h0 : ∀ (i : Nat) (c : Chk), i < s.size → ¬ c.1 < 8 → Vc c → Ev (fun k => g k ((i : Int), c) (i : Int)) (c.1, c.2.1, c.2.2.1, c.2.2.2, (i : Int)))
    (he : ∀ (c : Chk), Vc c → Ev (fun k => g k ((s.size : Int), c) (s.size : Int)) (c.1, c.2.1, c.2.2.1, c.2.2.2, (s.size : Int))) : Ev (fun k => g k (0, c) 0) (eatL c s) := by
  refine ev_runE s (fun (p : Int × Chk) i => p.1 = (i : Int) ∧ Vc p.2) _ _ g (fun p i hi hI => ⟨fun p' e => ?_, fun r e => ?_⟩) (fun p hI => ?_) (0, c) ⟨rfl, v⟩
  · obtain ⟨n, c⟩ := p
    obtain ⟨rfl, vc⟩ : n = (i : Int) ∧ Vc c := hI
    by_cases h8 : c.1 < 8
    · rw [if_pos h8] at e
      obtain rfl := Sum.inl.inj e
      refine ⟨⟨by show (i : Int) + 1 = ((i + 1 : Nat) : Int); omega, vc.eat _⟩, fun r hr => h1 i c hi h8 vc r ?_⟩
      rw [show ((i + 1 : Nat) : Int) = (i : Int) + 1 from by omega]
      rw [show ((i + 1 : Nat) : Int) = (i : Int) + 1 from by omega] at hr
      exact hr
    · rw [if_neg h8] at e; cases e
  · obtain ⟨n, c⟩ := p
    obtain ⟨rfl, vc⟩ : n = (i : Int) ∧ Vc c := hI
    by_cases h8 : c.1 < 8
    · rw [if_pos h8] at e; cases e
    · rw [if_neg h8] at e
      obtain rfl := Sum.inr.inj e
      exact h0 i c hi h8 vc
  · obtain ⟨n, c⟩ := p
    obtain ⟨rfl, vc⟩ : n = (s.size : Int) ∧ Vc c := hI
    exact he c vc
theorem spec_eatL_ev (s : ByteArray) (hs : s.size ≤ 4611686018427387904) (st left : Int) (dg bd : ByteArray) (v : Vc (st, left, dg, bd)) : Ev (fun k => spec_EatAll.l0 k s 0 st left dg bd) (eatL (st, left, dg, bd) s) := by
  refine eat_loop s hs (st, left, dg, bd) v (fun k p i => spec_EatAll.l0 k s i p.2.1 p.2.2.1 p.2.2.2.1 p.2.2.2.2) (fun i c hi h8 vc r hr => ?_) (fun i c hi h8 vc => ?_) (fun c vc => ?_)
  · have hb := bt_range s i
    have hl : (i : Int) < (s.size : Int) := by omega
    refine Ev.step (f := fun k => (spec_l5Eat.f k c.1 c.2.1 c.2.2.1 c.2.2.2 (bt s i)).bind fun bt104 => (spec_EatAll.l0 k s (((i + 1 : Nat) : Int)) bt104.1 bt104.2.1 bt104.2.2.1 bt104.2.2.2)) (fun k => ?_) (Ev.bind (f := fun k (bt104 : Chk) => spec_EatAll.l0 k s (((i + 1 : Nat) : Int)) bt104.1 bt104.2.1 bt104.2.2.1 bt104.2.2.2) (spec_l5Eat_ev c.1 c.2.1 c.2.2.1 c.2.2.2 (bt s i) vc hb.1 hb.2) hr)
    simp only [spec_EatAll.l0]
    rw [if_pos hl, if_pos h8, if_pos (by omega), wrap_next hi (by omega)]
  · have hl : (i : Int) < (s.size : Int) := by omega
    refine Ev.step (f := fun _ => some _) (fun k => ?_) (Ev.now _)
    simp only [spec_EatAll.l0]
    rw [if_pos hl, if_neg h8]
  · refine Ev.step (f := fun _ => some _) (fun k => ?_) (Ev.now _)
    simp only [spec_EatAll.l0]
    rw [if_neg (by omega)]
theorem impl_eatL_ev (s : ByteArray) (hs : s.size ≤ 4611686018427387904) (st left : Int) (dg bd : ByteArray) (v : Vc (st, left, dg, bd)) : Ev (fun k => impl_Chunker_eatAll.f k st left dg bd s) (eatL (st, left, dg, bd) s) := by
  refine eat_loop s hs (st, left, dg, bd) v (fun k p i => impl_Chunker_eatAll.l0 k s i p.2.1 p.2.2.1 p.2.2.2.1 p.2.2.2.2) (fun i c hi h8 vc r hr => ?_) (fun i c hi h8 vc => ?_) (fun c vc => ?_)
  · have hb := bt_range s i
    have hl : (i : Int) < (s.size : Int) := by omega
    refine Ev.step (f := fun k => (impl_Chunker_eat.f k c.1 c.2.1 c.2.2.1 c.2.2.2 (bt s i)).bind fun bt104 => (impl_Chunker_eatAll.l0 k s (((i + 1 : Nat) : Int)) bt104.1 bt104.2.1 bt104.2.2.1 bt104.2.2.2)) (fun k => ?_) (Ev.bind (f := fun k (bt104 : Chk) => impl_Chunker_eatAll.l0 k s (((i + 1 : Nat) : Int)) bt104.1 bt104.2.1 bt104.2.2.1 bt104.2.2.2) (impl_eat_ev c.1 c.2.1 c.2.2.1 c.2.2.2 (bt s i) vc hb.1 hb.2) hr)
    simp only [impl_Chunker_eatAll.l0]
    rw [if_pos hl, if_neg (by omega), if_neg (by omega), if_pos (by omega), wrap_next hi (by omega)]
  · have hl : (i : Int) < (s.size : Int) := by omega
    have h9 := vc.s1
    refine Ev.step (f := fun _ => some _) (fun k => ?_) (Ev.now _)
    simp only [impl_Chunker_eatAll.l0]
    rw [if_pos hl]
    by_cases e : c.1 = 8
    · rw [if_pos e]
    · rw [if_neg e, if_pos (by omega)]
  · refine Ev.step (f := fun _ => some _) (fun k => ?_) (Ev.now _)
    simp only [impl_Chunker_eatAll.l0]
    rw [if_neg (by omega)]
end Go.Proofs.YtfbgpjhnjdhpcaaDoor.Q
namespace Go.Proofs.YtfbgpjhnjdhpcaaDoor.P
set_option linter.unusedVariables false
set_option linter.unusedSimpArgs false
open Go.RowKit Go.Lib Go.Proofs.YtfbgpjhnjdhpcaaDoorW.PrintWords Go.Proofs.YtfbgpjhnjdhpcaaDoorW.PrintLast Go.Proofs.YtfbgpjhnjdhpcaaDoorW.PrintMore

set_option maxHeartbeats 2000000 in
theorem tz16 (w : World) (ht : Lib.TabIs Tryd.prog w "math/bits.deBruijn64tab" .u8 deBruijn64Tab) :
    Calls Tryd.prog 119 #[.int .u64 16] w fun e w' => e = .returned (.int .i64 4) ∧ w' = w := by
  have hc : w.cell? ⟨7, 15, none⟩ = some (.int .u8 4) := (ht.cell (g := 7) (by kernel_rfl) 15 (by decide)).trans rfl
  have h1 : IntKind.u64.wrap (-16) = 18446744073709551600 := by decide
  have h2 : Go.bits .and .u64 16 18446744073709551600 = 16 := by decide +kernel
  have h3 : IntKind.u64.wrap (16 * 285870213051353865) = 4573923408821661840 := by decide
  go_enter Tryd.func119, Tryd.ntmps119
  go_wp2
  go_ret
  exact ⟨rfl, rfl⟩
def digs36 : ByteArray := ⟨#[48, 49, 50, 51, 52, 53, 54, 55, 56, 57, 97, 98, 99, 100, 101, 102, 103, 104, 105, 106, 107, 108, 109, 110, 111, 112, 113, 114, 115, 116, 117, 118, 119, 120, 121, 122]⟩
/-- The cells of the row of digits behind k rounds. -/
def hxAt (n : Nat) (k j : Nat) : Int := if 65 - k ≤ j then bt digs36 ((n / 16 ^ (64 - j) % 16 : Nat) : Int) else 0
def HexCells (w wr : World) (n k : Nat) : Prop :=
  (∀ j, j < 65 → wr.cell? ⟨w.heap.size, j, none⟩ = some (.int .u8 (hxAt n k j))) ∧ (∀ j, j < 65 → wr.frozen? ⟨w.heap.size, j, none⟩ = false) ∧ Below w.heap.size w wr
theorem HexCells.start (w : World) (n : Nat) (t : TypeId) : HexCells w (w.alloc (.cells (Array.replicate 65 (.int .u8 0)) t)) n 0 := by
  refine ⟨fun j hj => ?_, fun j hj => ?_, below_alloc (Below.refl _ _) _⟩
  · rw [World.cell?_alloc_mark]
    unfold hxAt
    rw [if_neg (by omega)]
    simp [hj]
  · have hb : (w.alloc (.cells (Array.replicate 65 (.int .u8 0)) t)).heap[w.heap.size]? = some (.cells (Array.replicate 65 (.int .u8 0)) t (0, 0)) := blk_new w _
    exact Lib.frozen_of_heap hb j
theorem HexCells.put {w wr : World} {n k : Nat} (h : HexCells w wr n k) (hk : k < 65) (c : Int) (e : c = bt digs36 ((n / 16 ^ k % 16 : Nat) : Int)) : HexCells w (wr.setCell ⟨w.heap.size, 64 - k, none⟩ (.int .u8 c)) n (k + 1) :=
  ⟨fun j hj => by
    by_cases h1 : j = 64 - k
    · subst h1
      rw [World.cell?_setCell_same _ _ _ (h.1 _ hj)]
      unfold hxAt
      rw [if_pos (by omega), e, show 64 - (64 - k) = k by omega]
    · rw [World.cell?_setCell_other _ _ _ _ (by intro e2; injection e2 with _ e3; exact h1 e3.symm), h.1 j hj]
      unfold hxAt
      by_cases h2 : 65 - k ≤ j
      · rw [if_pos h2, if_pos (by omega)]
      · rw [if_neg h2, if_neg (by omega)],
   fun j hj => by rw [World.frozen?_setCell]; exact h.2.1 j hj, h.2.2.setCell (Nat.le_refl _) _⟩
/-- The hexadecimal digits of a number, the first ahead. -/
def hexL (n : Nat) : List Int := if h : n < 16 then [bt digs36 (n : Int)] else hexL (n / 16) ++ [bt digs36 ((n % 16 : Nat) : Int)]
termination_by n
decreasing_by omega
theorem hexL_row (n : Nat) : ∀ k, 16 ^ k ≤ n ∨ k = 0 → n < 16 ^ (k + 1) → hexL n = (List.range (k + 1)).map fun t => bt digs36 ((n / 16 ^ (k - t) % 16 : Nat) : Int) := by
  induction n using Nat.strongRecOn with
  | _ n ih =>
    intro k h1 h2
    by_cases h : n < 16
    · have hk : k = 0 := by
        rcases h1 with h1 | h1
        · rcases Nat.eq_zero_or_pos k with h0 | h0
          · exact h0
          · have : 16 ^ 1 ≤ 16 ^ k := Nat.pow_le_pow_right (by decide) h0
            omega
        · exact h1
      subst hk
      rw [hexL, dif_pos h]
      simp
      rw [show (n : Int) % 16 = (n : Int) by omega]
    · obtain ⟨m, rfl⟩ : ∃ m, k = m + 1 := ⟨k - 1, by
        rcases Nat.eq_zero_or_pos k with h0 | h0
        · subst h0; simp at h2; omega
        · omega⟩
      rw [hexL, dif_neg h, ih (n / 16) (by omega) m (by
        rcases h1 with h1 | h1
        · rw [Nat.pow_succ] at h1; exact .inl (by omega)
        · omega) (by rw [Nat.pow_succ] at h2; omega), List.range_succ (n := m + 1), List.map_append]
      congr 1
      · refine List.map_congr_left fun t ht => ?_
        have ht' : t < m + 1 := List.mem_range.1 ht
        rw [show m + 1 - t = (m - t) + 1 by omega, Nat.pow_succ, Nat.mul_comm, ← Nat.div_div_eq_div_mul]
      · simp
theorem HexCells.row {w wr : World} {n k : Nat} (h : HexCells w wr n (k + 1)) (hk : k < 65) (h1 : 16 ^ k ≤ n ∨ k = 0) (h2 : n < 16 ^ (k + 1)) (j : Nat) (hj : j < k + 1) :
    wr.cell? ⟨w.heap.size, 64 - k + j, none⟩ = some (.int .u8 ((hexL n).getD j 0)) := by
  rw [h.1 _ (by omega), hexL_row n k h1 h2]
  unfold hxAt
  rw [if_pos (by omega), List.getD_eq_getElem?_getD, List.getElem?_map, List.getElem?_range (by omega)]
  simp
  rw [show 64 - (64 - k + j) = k - j by omega]
theorem bt_elem (s : ByteArray) (m : Nat) (h : m < s.size) : ((s[m]'h).toNat : Int) = bt s (m : Int) := by
  unfold bt
  have h1 : m < s.data.toList.length := by rw [Array.length_toList]; exact h
  simp [List.getD_eq_getElem?_getD, h]
  first | rfl | (rw [Array.getElem?_eq_getElem h]; rfl) | skip
theorem u64_and15 (x : Int) (h0 : 0 ≤ x) (h1 : x < 18446744073709551616) : Go.bits .and .u64 x 15 = x % 16 :=
  bits_mask .u64 64 (by decide) (fun n a b => by rw [IntKind.wrap_u64]; omega) 4 (by decide) x h0 (by omega)
theorem i64_and : Go.bits .and .i64 16 15 = 0 := by decide +kernel

theorem slice65 (W : World) (B i : Nat) (h : i ≤ 64) : (Instr.sliceAt 121 (.pointer (some ⟨B, 0, none⟩)) (some (.int .i64 (i : Int))) none none).run Tryd.prog W = .ok (.slice (some ⟨B, i, none⟩) (65 - i) (65 - i)) W := by
  have hal : Tryd.prog.arrayLen 121 = 65 := by kernel_rfl
  have hel : Tryd.prog.elem 121 = 5 := by kernel_rfl
  rw [run_sliceAt_array_l (P := Tryd.prog) W 121 ⟨B, 0, none⟩ (by kernel_rfl) .i64 (i : Int) (by omega) (by rw [hal]; omega), hal, hel]
  have hs : (sizeOf 5).run Tryd.prog W = .ok 1 W := by kernel_rfl
  rw [hs]
  simp only [Result.andThen, Int.toNat_natCast, slicedAt, Nat.mul_one]
  rw [if_neg (by omega)]
  simp [Addr.add]
  exact fun e => e.symm
set_option maxHeartbeats 8000000 in
set_option maxRecDepth 100000 in
theorem formatBits16 (n : Nat) (hn : n < 1152921504606846976) (w : World) (ht : Lib.TabIs Tryd.prog w "math/bits.deBruijn64tab" .u8 deBruijn64Tab) :
    Calls Tryd.prog 105 #[.slice none 0 0, .int .u64 n, .int .i64 16, .bool false, .bool false] w fun e w' => e = .returned (.tuple #[.slice none 0 0, .string (strOfNums (hexL n))]) ∧ Below w.heap.size w w' := by
  have htz : ∀ W, Below w.heap.size w W → Calls Tryd.prog 119 #[.int .u64 16] W fun e w' => e = .returned (.int .i64 4) ∧ w' = W := fun W hW => tz16 W (Go.Joins.tab_stays (g := 7) (by kernel_rfl) ht hW (Nat.le_refl _))
  have hand := i64_and
  have HT := Lib.hid htz
  clear htz ht
  have S0 := Lib.hid (HexCells.start w n 121)
  go_enter Tryd.func105, Tryd.ntmps105
  go_wp2_with (first | (go_at_call 119; refine (HT.out _ (below_alloc (Below.refl _ _) _)).mono ?_; rintro e w1 ⟨rfl, rfl⟩) | go_in)
  go_loopw [1, 13] (fun vu vi wr => ∃ (i k u : Nat), k ≤ 15 ∧ i + k = 64 ∧ vu = .int .u64 u ∧ vi = .int .i64 ((i : Int) + 1) ∧ Hid (u = n / 16 ^ k) ∧ Hid (16 ^ k ≤ n ∨ k = 0) ∧ Aside (HexCells w wr n k)) (fun vu _ _ => (intOf vu).toNat)
  case atStart => exact ⟨64, 0, n, by omega, by omega, rfl, rfl, Lib.hid (by simp), Lib.hid (.inr rfl), S0.out⟩
  case round =>
    obtain ⟨i, k, u, hk, hik, rfl, rfl, HU, HK, A⟩ := hrel
    have hu0 : (0 : Int) ≤ (u : Int) := by omega
    have hub : u < 1152921504606846976 := by rw [HU.out]; exact Nat.lt_of_le_of_lt (Nat.div_le_self _ _) hn
    have hi65 : (i : Int) < 65 := by omega
    have hcell := A.out.1 i (by omega)
    have hfro := A.out.2.1 i (by omega)
    by_cases hlt : 16 ≤ u
    · have hltz : (u : Int) ≥ 16 := by omega
      have hand2 := u64_and15 (u : Int) hu0 (by omega)
      have hr0 : 0 ≤ (u : Int) % 16 := by omega
      have hr1 : (u : Int) % 16 < 36 := by omega
      have hk14 : k < 15 := by
        rcases Nat.lt_or_ge k 15 with h | h
        · exact h
        · exfalso
          have e := HU.out
          have h1 : 16 ^ 15 ≤ 16 ^ k := Nat.pow_le_pow_right (by decide) h
          have h2 : n / 16 ^ k ≤ n / 16 ^ 15 := Nat.div_le_div_left h1 (by decide)
          have h3 : n / 16 ^ 15 < 16 := by omega
          omega
      have hput := A.out.put (k := k) (by omega) (((digs36[u % 16]'(Nat.lt_of_lt_of_le (Nat.mod_lt u (by decide)) (by decide : 16 ≤ digs36.size))).toNat : Nat) : Int) (by rw [bt_elem, ← HU.out])
      rw [show 64 - k = i by omega] at hput
      have HP := Lib.hid hput
      clear hput
      go_wp2
      go_roundw
      case rel => exact ⟨i - 1, k + 1, u / 16, by omega, by omega, by go_num, by go_num, Lib.hid (by rw [HU.out, Nat.pow_succ, Nat.div_div_eq_div_mul]), Lib.hid (.inl (by
        have e := HU.out
        rw [Nat.pow_succ]
        have h1 : 16 ≤ n / 16 ^ k := by rw [← e]; exact hlt
        have h2 := (Nat.le_div_iff_mul_le (Nat.pow_pos (by decide))).1 h1
        rw [Nat.mul_comm]
        exact h2)), HP.out⟩
      case measure => simp [intOf]; omega
    · have hltz : ¬ (u : Int) ≥ 16 := by omega
      have hu36 : (u : Int) < 36 := by omega
      have hk2 : n < 16 ^ (k + 1) := by
        have e := HU.out
        rw [Nat.pow_succ]
        have h1 : n / 16 ^ k < 16 := by rw [← e]; omega
        have h2 := (Nat.div_lt_iff_lt_mul (Nat.pow_pos (by decide))).1 h1
        rw [Nat.mul_comm]
        exact h2
      have hput := A.out.put (k := k) (by omega) (((digs36[u]'(Nat.lt_of_lt_of_le (by omega : u < 16) (by decide : 16 ≤ digs36.size))).toNat : Nat) : Int) (by rw [bt_elem, ← HU.out, show u % 16 = u by omega])
      rw [show 64 - k = i by omega] at hput
      have hrow := fun j hj => hput.row (by omega) HK.out hk2 j hj
      rw [show 64 - k = i by omega] at hrow
      have hlen : (hexL n).length = 65 - i := by rw [hexL_row n k HK.out hk2, List.length_map, List.length_range]; omega
      have kb := fun cap => run_convert_bytes_arg (P := Tryd.prog) _ 22 5 Tryd.underlying22 Tryd.underlying5 w.heap.size i (65 - i) cap (hexL n) hlen (fun j hj => hrow j (by omega)) 9 Tryd.underlying9
      have HB := Lib.hid hput.2.2
      unfold digs36 at kb
      have hsl := fun W => slice65 W w.heap.size i (by omega)
      clear hrow hput hlen hk2 HT S0
      go_wp2
      go_ret2
      exact ⟨rfl, HB.out⟩
/-- A builder that the call has made, holding bytes. -/
abbrev Bld (B b : Nat) (l : List UInt8) (w : World) : Prop := Lib.IsBuilder 62 5 B b (Lib.byteCells l) w
theorem bld_size : (Tryd.prog.info? 62).map (·.size) = some 2 := by kernel_rfl
theorem bld_lies : liesAt Tryd.prog Tryd.prog.depth 62 (2 / Tryd.prog.cellsOf 62) 0 62 1 = true := by kernel_rfl
theorem byte_info : (Tryd.prog.info? 5).map (fun i => (i.zero, i.size, i.bytes)) = some (some (.int .u8 0), 1, 1) := by kernel_rfl

set_option maxHeartbeats 1000000 in
set_option maxRecDepth 100000 in
theorem builder_check_used (b : Nat) (w : World) (h0 : w.cell? ⟨b, 0, none⟩ = some (.pointer (some ⟨b, 0, none⟩))) :
    Calls Tryd.prog 72 #[.pointer (some ⟨b, 0, none⟩)] w fun e w' => e = .returned (.tuple #[]) ∧ w' = w := by
  obtain ⟨j, hj, _⟩ := Option.map_eq_some_iff.1 bld_size
  go_enter Tryd.func72, Tryd.ntmps72
  go_wp2
  rw [Lib.run_neq_ptr_same w _ Tryd.underlying60 hj]
  go_wp2
  go_end0
  exact ⟨rfl, rfl⟩
set_option maxHeartbeats 1000000 in
set_option maxRecDepth 100000 in
theorem builder_check_fresh (b : Nat) (w : World) (h0 : w.cell? ⟨b, 0, none⟩ = some (.pointer none)) (hsh : w.shape? b = some (62, 2)) (hfz : w.frozen? ⟨b, 0, none⟩ = false) :
    Calls Tryd.prog 72 #[.pointer (some ⟨b, 0, none⟩)] w fun e w' => e = .returned (.tuple #[]) ∧ w' = w.setCell ⟨b, 0, none⟩ (.pointer (some ⟨b, 0, none⟩)) := by
  obtain ⟨j, hj, hjs⟩ := Option.map_eq_some_iff.1 bld_size
  go_enter Tryd.func72, Tryd.ntmps72
  go_wp2
  rw [Lib.run_to_unsafe w ⟨b, 0, none⟩ Tryd.underlying60 Tryd.underlying93 hj (by rw [hjs]; decide) hsh (Nat.zero_lt_succ 1)]
  simp only [Result.andThen]
  rw [Oper.upon_value]
  go_wp2
  rw [run_callFunc_extern Tryd.func88 (by kernel_rfl) (by kernel_rfl) (by kernel_rfl) (e := Extern.AbiNoEscape.same) (by kernel_rfl)]
  rw [Lib.run_noEscape]
  simp only [Result.andThen]
  rw [Oper.upon_value]
  go_wp2
  rw [Lib.run_from_unsafe w ⟨b, 0, none⟩ Tryd.underlying93 Tryd.underlying60 hj hsh bld_lies]
  simp only [Result.andThen]
  rw [Oper.upon_value]
  go_wp2
  go_end0
  exact ⟨rfl, rfl⟩
theorem builder_check (B b : Nat) (bs : List Value) (w : World) (h : Lib.IsBuilder 62 5 B b bs w) :
    Calls Tryd.prog 72 #[.pointer (some ⟨b, 0, none⟩)] w fun e w' => e = .returned (.tuple #[]) ∧ (Lib.BuilderAt 62 5 B b (.pointer (some ⟨b, 0, none⟩)) bs w' ∧ Below B w w') := by
  rcases h with h | h
  · refine (builder_check_fresh b w h.cell0 h.shape h.frozen0).mono ?_
    rintro e w' ⟨rfl, rfl⟩
    exact ⟨rfl, h.used _, (Below.refl B w).setCell (p := ⟨b, 0, none⟩) h.1 _⟩
  · refine (builder_check_used b w h.cell0).mono ?_
    rintro e w' ⟨rfl, rfl⟩
    exact ⟨rfl, h, Below.refl B _⟩
set_option maxHeartbeats 2000000 in
set_option maxRecDepth 100000 in
theorem builder_write (B b : Nat) (l : List UInt8) (s : ByteArray) (w : World) (h : Bld B b l w) (hlen : l.length + s.size ≤ 140737488355328) (hBw : B ≤ w.heap.size) :
    Calls Tryd.prog 50 #[.pointer (some ⟨b, 0, none⟩), .string s] w fun e w' => e = .returned (.tuple #[.int .i64 s.size, .nilIface]) ∧ (Bld B b (l ++ s.data.toList) w' ∧ Below B w w') := by
  obtain ⟨i0, hi, hzz⟩ := Option.map_eq_some_iff.1 byte_info
  simp only [Prod.mk.injEq] at hzz
  obtain ⟨hz0, hz1, hz2⟩ := hzz
  have hbl : (Lib.byteCells l).length = l.length := Lib.byteCells_length l
  have hc := builder_check B b (Lib.byteCells l) w h
  clear h
  go_enter Tryd.func50, Tryd.ntmps50
  go_wp2_with (go_at_call 72; refine hc.mono ?_)
  rintro e w1 ⟨rfl, h1, hb1⟩
  obtain ⟨hB, v, hbk, hown, hne⟩ := h1
  have c0 : w1.cell? ⟨b, 0, none⟩ = some (.pointer (some ⟨b, 0, none⟩)) := by rw [Lib.cell_of_heap hbk]; rfl
  have c1 : w1.cell? ⟨b, 1, none⟩ = some v := by rw [Lib.cell_of_heap hbk]; rfl
  go_wp2_with (at_builtin; refine Lib.wpList_append_own_string _ rfl _ _ 22 9 rfl B 5 i0 Tryd.underlying22 Tryd.underlying9 hi hz0 hz1 hz2 _ _ _ rfl hown s rfl ?c3 ?c4 ?c5 ?_)
  case c3 => unfold maxLen; omega
  case c4 => omega
  case c5 => have := hb1.size; omega
  intro v' w2 hown' hgrow _
  have hlt : b < w1.heap.size := by
    rcases Nat.lt_or_ge b w1.heap.size with h' | h'
    · exact h'
    · simp [Array.getElem?_eq_none h'] at hbk
  have hb2 : w2.heap[b]? = some (.cells #[.pointer (some ⟨b, 0, none⟩), v] 62 (0, 0)) := by
    rw [hgrow.block b hlt (fun e => hne e.symm)]
    exact hbk
  have d0 : w2.cell? ⟨b, 0, none⟩ = some (.pointer (some ⟨b, 0, none⟩)) := by rw [Lib.cell_of_heap hb2]; rfl
  have d1 : w2.cell? ⟨b, 1, none⟩ = some v := by rw [Lib.cell_of_heap hb2]; rfl
  have f1 : w2.frozen? ⟨b, 1, none⟩ = false := Lib.frozen_of_heap hb2 1
  obtain ⟨ao, n', cap, rfl⟩ : ∃ ao n' cap, v' = .slice ao n' cap := by
    rcases hown'.2 with ⟨hv, _⟩ | ⟨g, cap, cur, hv, _⟩
    · exact ⟨_, _, _, hv⟩
    · exact ⟨_, _, _, hv⟩
  go_wp2
  go_ret2
  refine ⟨rfl, .inr ?_, ?_⟩
  · rw [Lib.byteCells_append, ← Lib.strCells_eq]
    exact Lib.BuilderAt.put (T := 62) (e := 5) hB hb2 (bs' := Lib.byteCells l ++ Lib.strCells s) (by simpa [Lib.strCells_length, Lib.byteCells_length] using hown') (by decide)
  · exact (hb1.grown hgrow (by have := hb1.size; omega) (fun k hk => (hown.lt k hk).1)).setCell (p := ⟨b, 1, none⟩) hB _
theorem bld_alloc {B b : Nat} {l : List UInt8} {w : World} (h : Bld B b l w) (o : Obj) : Bld B b l (w.alloc o) := by
  have hk : ∀ p, Lib.BuilderAt 62 5 B b p (Lib.byteCells l) w → Lib.BuilderAt 62 5 B b p (Lib.byteCells l) (w.alloc o) := by
    rintro p ⟨hB, v, hb, hown, hne⟩
    refine ⟨hB, v, ?_, hown.alloc o, hne⟩
    rw [Lib.alloc_old w o b (Lib.BuilderAt.lt ⟨hB, v, hb, hown, hne⟩)]
    exact hb
  exact h.imp (hk _) (hk _)
theorem bld_drew {B b : Nat} {l : List UInt8} {w : World} (h : Bld B b l w) : Bld B b l w.drew := h
theorem bld_below {B b : Nat} {l : List UInt8} {w w' : World} (h : Bld B b l w) (hb : Below w.heap.size w w') : Bld B b l w' := by
  have hk : ∀ p, Lib.BuilderAt 62 5 B b p (Lib.byteCells l) w → Lib.BuilderAt 62 5 B b p (Lib.byteCells l) w' := by
    rintro p ⟨hB, v, hbk, hown, hne⟩
    refine ⟨hB, v, ?_, own_move hown (fun k hk => hb.block k (hown.lt k hk).2), hne⟩
    rw [hb.block b (Lib.BuilderAt.lt ⟨hB, v, hbk, hown, hne⟩)]
    exact hbk
  exact h.imp (hk _) (hk _)
end Go.Proofs.YtfbgpjhnjdhpcaaDoor.P
namespace Go.Proofs.YtfbgpjhnjdhpcaaDoor.P
set_option linter.unusedVariables false
set_option linter.unusedSimpArgs false
open Go.RowKit Go.Proofs.YtfbgpjhnjdhpcaaDoorW.PrintWords Go.Proofs.YtfbgpjhnjdhpcaaDoorW.PrintLast Go.Proofs.YtfbgpjhnjdhpcaaDoorW.PrintMore

set_option maxHeartbeats 2000000 in
theorem internal_FormatInt16 (n : Nat) (hn : n < 1152921504606846976) (w : World) (ht : Lib.TabIs Tryd.prog w "math/bits.deBruijn64tab" .u8 deBruijn64Tab) :
    Calls Tryd.prog 89 #[.int .i64 n, .int .i64 16] w fun e w' => e = .returned (.string (strOfNums (hexL n))) ∧ Below w.heap.size w w' := by
  have hc := formatBits16 n hn w ht
  have hw : IntKind.u64.wrap (n : Int) = (n : Int) := by rw [IntKind.wrap_u64]; omega
  have h0 : ¬ (n : Int) < 0 := by omega
  generalize strOfNums (hexL n) = s at hc ⊢
  go_enter Tryd.func89, Tryd.ntmps89
  go_wp2_with (go_at_call 105; refine hc.mono ?_; rintro e w1 ⟨rfl, hb⟩)
  go_ret
  exact ⟨rfl, hb⟩
theorem FormatInt16 (n : Nat) (hn : n < 1152921504606846976) (w : World) (ht : Lib.TabIs Tryd.prog w "math/bits.deBruijn64tab" .u8 deBruijn64Tab) :
    Calls Tryd.prog 73 #[.int .i64 n, .int .i64 16] w fun e w' => e = .returned (.string (strOfNums (hexL n))) ∧ Below w.heap.size w w' := by
  have hc := internal_FormatInt16 n hn w ht
  generalize strOfNums (hexL n) = s at hc ⊢
  go_enter Tryd.func73, Tryd.ntmps73
  go_wp2_with (go_at_call 89; refine hc.mono ?_; rintro e w1 ⟨rfl, hb⟩)
  go_ret
  exact ⟨rfl, hb⟩
def strconv_FormatInt.f (a0 a1 : Int) : Option ByteArray :=
  if a1 = 16 ∧ 0 ≤ a0 ∧ a0 < 1152921504606846976 then some (strOfNums (hexL a0.toNat)) else
  if a1 = 10 ∧ -9223372036854775808 ≤ a0 ∧ a0 ≤ 9223372036854775807 then some ⟨(Lib.itoa a0).toArray⟩ else none
theorem strconv_FormatInt.calls (a0 a1 : Int) (r : ByteArray) (w : World) (hX : XW 6 w) (h : strconv_FormatInt.f a0 a1 = some r) :
    Calls Tryd.prog 73 #[.int .i64 a0, .int .i64 a1] w fun e w' => e = .returned (.string r) ∧ Below w.heap.size w w' := by
  unfold strconv_FormatInt.f at h
  split at h
  · rename_i hc
    obtain ⟨rfl, h0, h1⟩ := hc
    obtain rfl := Option.some.inj h
    have := FormatInt16 a0.toNat (by omega) w (hX.tz rfl)
    rw [show ((a0.toNat : Nat) : Int) = a0 by omega] at this
    exact this
  split at h
  · rename_i hc
    obtain ⟨rfl, h0, h1⟩ := hc
    obtain rfl := Option.some.inj h
    refine (Tryd.strconv_FormatInt_10 a0 h0 h1 w (hX.pow10 rfl)).mono ?_
    rintro e w' ⟨rfl, k, os, rfl⟩
    exact ⟨rfl, below_grow k os⟩
  · cases h
end Go.Proofs.YtfbgpjhnjdhpcaaDoor.P
namespace Go.Proofs.YtfbgpjhnjdhpcaaDoor.P
open Go.RowKit Go.Proofs.YtfbgpjhnjdhpcaaDoorW.PrintWords Go.Proofs.YtfbgpjhnjdhpcaaDoorW.PrintLast Go.Proofs.YtfbgpjhnjdhpcaaDoorW.PrintMore
attribute [local go_sem] max2_int min2_int max_two min_two max_three min_three max_four min_four   -- for this text's walks alone
set_option linter.unusedVariables false
set_option linter.unusedSimpArgs false

/-! ### impl_Hex: function 51 -/
def impl_Hex.f (a0 : Int) : Option (ByteArray) := (impl_within.f a0 0 4503599627370496).bind fun t101 => (if t101 = true then ((strconv_FormatInt.f a0 16).bind fun t102 => (some t102)) else (some (⟨#[]⟩ : ByteArray)))
set_option maxHeartbeats 8000000 in
set_option maxRecDepth 100000 in
theorem impl_Hex.calls (a0 : Int) (r : ByteArray) (w : World) (hX : XW 6 w) (h : impl_Hex.f a0 = some r) :
  Calls Tryd.prog 51 #[.int .i64 a0] w fun e w' => e = .returned (.string r) ∧ Below w.heap.size w w' := by
 have HB := Aside0.mk (Below.refl w.heap.size w)
 have H : ((impl_within.f a0 0 4503599627370496).bind fun t101 => (if t101 = true then ((strconv_FormatInt.f a0 16).bind fun t102 => (some t102)) else (some (⟨#[]⟩ : ByteArray)))) = some r := h
 clear h
 obtain ⟨t101, A20, H⟩ := Option.bind_eq_some_iff.mp H
 try dsimp only at H
 have A2 := Aside0.mk A20
 clear A20
 by_cases c3 : t101 = true
 ·
  subst c3
  rw [if_pos rfl] at H
  replace H := Option.bind_eq_some_iff.mp H
  obtain ⟨t102, A40, H⟩ := H
  replace H : (some t102) = some r := H
  have A4 := Aside0.mk A40
  clear A40
  obtain rfl := Option.some.inj H
  go_enter Tryd.func51, Tryd.ntmps51
  go_wp2_with (first | ((with_reducible refine gate_callee (f := 60) rfl ?_); refine goesL_ (some 4) rfl rfl Tryd.func60 (by kernel_rfl) rfl #[.int .i64 a0, .int .i64 0, .int .i64 4503599627370496] rfl mc ?_; (with_reducible refine (impl_within.calls a0 0 4503599627370496 true _ A2.out).mono ?_); rintro e w' ⟨rfl, ⟨nd, rfl⟩⟩; refine ⟨_, rfl, ?_⟩) | ((with_reducible refine gate_callee (f := 73) rfl ?_); refine goesL_ (some 7) rfl rfl Tryd.func73 (by kernel_rfl) rfl #[.int .i64 a0, .int .i64 16] rfl mc ?_; (with_reducible refine (strconv_FormatInt.calls a0 16 t102 _ ?side1 A4.out).mono ?_); (case side1 => exact XW.to (XW.stays hX bh) (by decide)); rintro e w5 ⟨rfl, hb⟩; refine ⟨_, rfl, ?_⟩; replace HB := Aside0.mk (below_step bh hb); (try clear hb); (try clear hb2); (try clear hk); (try clear hi)))
  go_ret
  exact ⟨er, bh⟩
 ·
  replace c3 := Bool.eq_false_iff.mpr c3
  subst c3
  have H1 : (some (⟨#[]⟩ : ByteArray)) = some r := by rw [if_neg (show ¬ (false = true) by decide)] at H; exact H
  clear H
  have H := H1
  clear H1
  obtain rfl := Option.some.inj H
  go_enter Tryd.func51, Tryd.ntmps51
  go_wp2_with (first | ((with_reducible refine gate_callee (f := 60) rfl ?_); refine goesL_ (some 4) rfl rfl Tryd.func60 (by kernel_rfl) rfl #[.int .i64 a0, .int .i64 0, .int .i64 4503599627370496] rfl mc ?_; (with_reducible refine (impl_within.calls a0 0 4503599627370496 false _ A2.out).mono ?_); rintro e w' ⟨rfl, ⟨nd, rfl⟩⟩; refine ⟨_, rfl, ?_⟩))
  go_ret
  exact ⟨er, bh⟩
end Go.Proofs.YtfbgpjhnjdhpcaaDoor.P
namespace Go.Proofs.YtfbgpjhnjdhpcaaDoor.P
set_option linter.unusedVariables false
set_option linter.unusedSimpArgs false
open Go.RowKit Go.Lib Go.Proofs.YtfbgpjhnjdhpcaaDoorW.PrintWords Go.Proofs.YtfbgpjhnjdhpcaaDoorW.PrintLast Go.Proofs.YtfbgpjhnjdhpcaaDoorW.PrintMore
attribute [local go_sem] max2_int min2_int max_two min_two max_three min_three max_four min_four

def chunkL (p : ByteArray) : List UInt8 := if p.size = 0 then [] else (strOfNums (hexL p.size)).data.toList ++ [13, 10] ++ p.data.toList ++ [13, 10]
def chunksL (l : List ByteArray) : List UInt8 := l.flatMap chunkL
def sizes (l : List ByteArray) : Nat := (l.map ByteArray.size).sum
def impl_Chunked.f (l0 : List ByteArray) : Option ByteArray :=
  if sizes l0 > 4611686018427387904 then none else if l0.length > 100 then some ⟨#[]⟩ else if sizes l0 > 4000 then some ⟨#[]⟩ else some ⟨(chunksL l0 ++ [48, 13, 10, 13, 10]).toArray⟩
theorem hexL_le (d : Nat) : ∀ n : Nat, n < 16 ^ (d + 1) → (hexL n).length ≤ d + 1 := by
  induction d with
  | zero => intro n h; rw [hexL, dif_pos (by simpa using h)]; simp
  | succ d ih =>
    intro n h
    rw [hexL]
    by_cases h2 : n < 16
    · rw [dif_pos h2]; simp
    · rw [dif_neg h2, List.length_append, List.length_singleton]
      have := ih (n / 16) (by rw [Nat.pow_succ] at h; omega)
      omega
theorem nums_size (l : List Int) : (strOfNums l).size = l.length := by
  show (strOfNums l).data.size = _
  rw [← Array.length_toList, strOfNums_data, List.length_map]
theorem chunkL_le (p : ByteArray) (h : p.size ≤ 4000) : (chunkL p).length ≤ p.size + 8 := by
  unfold chunkL
  split
  · exact Nat.zero_le _
  · have h1 := hexL_le 3 p.size (by omega)
    have h2 := nums_size (hexL p.size)
    simp only [List.length_append, List.length_cons, List.length_nil, Array.length_toList]
    show (strOfNums (hexL p.size)).size + 2 + p.size + 2 ≤ _
    omega
theorem sizes_take (l : List ByteArray) (k : Nat) (h : k < l.length) : sizes (l.take (k + 1)) = sizes (l.take k) + (l[k]'h).size := by
  unfold sizes
  rw [List.take_add_one, List.getElem?_eq_getElem h, List.map_append, List.sum_append]
  simp
theorem sizes_le (l : List ByteArray) (k : Nat) : sizes (l.take k) ≤ sizes l := by
  have : sizes l = sizes (l.take k) + sizes (l.drop k) := by
    unfold sizes
    rw [← List.sum_append, ← List.map_append, List.take_append_drop]
  omega
theorem chunksL_take (l : List ByteArray) (k : Nat) (h : k < l.length) : chunksL (l.take (k + 1)) = chunksL (l.take k) ++ chunkL (l[k]'h) := by
  unfold chunksL
  rw [List.take_add_one, List.getElem?_eq_getElem h, List.flatMap_append]
  simp
theorem chunksL_le (l : List ByteArray) (h : sizes l ≤ 4000) : (chunksL l).length ≤ sizes l + 8 * l.length := by
  induction l with
  | nil => exact Nat.zero_le _
  | cons a l ih =>
    have h1 : sizes (a :: l) = a.size + sizes l := by simp [sizes]
    have h2 : chunksL (a :: l) = chunkL a ++ chunksL l := by simp [chunksL]
    have h3 := chunkL_le a (by omega)
    have h4 := ih (by omega)
    rw [h2, List.length_append, List.length_cons]
    omega
theorem hex_of_size (n : Nat) (h : n ≤ 4000) : impl_Hex.f (n : Int) = some (strOfNums (hexL n)) := by
  unfold impl_Hex.f impl_within.f
  rw [if_pos (by omega)]
  simp only [Option.bind_some]
  rw [if_pos (decide_eq_true (by omega))]
  unfold strconv_FormatInt.f
  rw [if_pos ⟨rfl, by omega, by omega⟩, Int.toNat_natCast]
  rfl
theorem chunk_data (p : ByteArray) (h : p.size ≠ 0) : (strOfNums (hexL p.size) ++ (⟨#[13, 10]⟩ : ByteArray) ++ p ++ (⟨#[13, 10]⟩ : ByteArray)).data.toList = chunkL p := by
  unfold chunkL
  rw [if_neg h]
  simp [ByteArray.data_append]
theorem rd_text (l : List ByteArray) (k : Nat) (h : k < l.length) : rdOf ByteArray.empty l (k : Int) = l[k]'h := by
  simp [rdOf, List.getD_eq_getElem?_getD, h]

set_option maxHeartbeats 8000000 in
set_option maxRecDepth 100000 in
theorem impl_Chunked.calls (A0 : Option Addr) (c0 : Nat) (l0 : List ByteArray) (r : ByteArray) (w : World) (hX : XW 6 w) (hr0 : Kd.C Kd.string w A0 l0.length l0) (hc0 : l0.length ≤ c0) (h : impl_Chunked.f l0 = some r) :
    Calls Tryd.prog 20 #[.slice A0 l0.length c0] w fun e w' => e = .returned (.string r) ∧ Below w.heap.size w w' := by
  have HB := Aside0.mk (Below.refl w.heap.size w)
  have BN := Aside0.mk (Lib.fresh_isBuilder 62 5 w)
  have hbound : ¬ sizes l0 > 4611686018427387904 := fun c => by unfold impl_Chunked.f at h; rw [if_pos c] at h; cases h
  have HH := Aside0.mk h
  clear h
  by_cases hlen : l0.length > 100
  · have h := HH.out
    unfold impl_Chunked.f at h
    rw [if_neg hbound, if_pos hlen] at h
    obtain rfl := Option.some.inj h
    clear h HH
    have h1 : decide ((100 : Int) < (l0.length : Int)) = true := decide_eq_true (by omega)
    have h2 : decide (100 < l0.length) = true := decide_eq_true hlen
    have HR0 := Aside0.mk hr0
    clear hr0
    go_enter Tryd.func20, Tryd.ntmps20
    go_wp2
    go_ret
    exact ⟨rfl, by repeat (first | exact HB.out | apply below_alloc | refine below_set ?_ (Nat.le_refl _))⟩
  have h1 : decide ((100 : Int) < (l0.length : Int)) = false := decide_eq_false (by omega)
  have h2 : decide (100 < l0.length) = false := decide_eq_false hlen
  have HR0 := Aside0.mk hr0
  have HX := Aside0.mk hX
  clear hr0 hX
  go_enter Tryd.func20, Tryd.ntmps20
  go_wp2
  go_loopg [4, 13] l0.length (fun gg v4 v13 wr => ∃ kk : Nat, kk ≤ l0.length ∧ l0.length - kk ≤ gg ∧ v13 = .int .i64 kk ∧ v4 = .int .i64 (sizes (l0.take kk)) ∧ sizes (l0.take kk) ≤ 4000 ∧ Aside0 (Bld w.heap.size w.heap.size (chunksL (l0.take kk)) wr) ∧ Aside0 (Below w.heap.size w wr))
  case atStart => exact ⟨0, Nat.zero_le _, by omega, rfl, rfl, Nat.zero_le _, ⟨BN.out⟩, ⟨below_alloc HB.out _⟩⟩
  case round =>
    clear HB BN
    obtain ⟨kk, hkk, hg, rfl, rfl, hs4, BL, HB⟩ := hrel
    by_cases hlt : kk < l0.length
    · have hltz : (kk : Int) < (l0.length : Int) := by omega
      have h0z : (0 : Int) ≤ (kk : Int) := by omega
      obtain ⟨ad, e, hx0⟩ := Kd.at_string HR0.out (kk : Int) h0z hltz
      subst e
      rw [rd_text l0 kk hlt] at hx0
      simp only [Int.toNat_natCast] at hx0
      have TF := Aside0.mk (chunksL_take l0 kk hlt)
      have TS := Aside0.mk (sizes_take l0 kk hlt)
      have SL := Aside0.mk (sizes_le l0 (kk + 1))
      have CL := Aside0.mk (chunksL_le (l0.take kk) hs4)
      have LT := Aside0.mk (List.length_take_le kk l0)
      generalize l0[kk]'hlt = x0 at hx0 TF TS
      replace hx0 := (HB.out.cell (World.block_lt_of_cell? w _ hx0)).trans hx0
      generalize sizes (l0.take kk) = sk at hs4 TS CL ⊢
      have hxs : sk + x0.size ≤ 4611686018427387904 := by
        have := SL.out
        rw [TS.out] at this
        omega
      have hsum : wrap64 ((sk : Int) + (x0.size : Int)) = ((sk + x0.size : Nat) : Int) := by unfold wrap64; omega
      by_cases hbig : sk + x0.size > 4000
      · have hb1 : decide ((4000 : Int) < ((sk + x0.size : Nat) : Int)) = true := decide_eq_true (by omega)
        have hb2 : decide (4000 < sk + x0.size) = true := decide_eq_true hbig
        have hb3 : decide ((4000 : Int) < (sk : Int) + (x0.size : Int)) = true := decide_eq_true (by omega)
        have hbz := SL.out
        rw [TS.out] at hbz
        have h := HH.out
        unfold impl_Chunked.f at h
        rw [if_neg hbound, if_neg hlen, if_pos (by omega)] at h
        obtain rfl := Option.some.inj h
        clear h HH
        go_wp2
        go_ret
        exact ⟨rfl, HB.out⟩
      · have hb1 : decide ((4000 : Int) < ((sk + x0.size : Nat) : Int)) = false := decide_eq_false (by omega)
        have hb2 : decide (4000 < sk + x0.size) = false := decide_eq_false hbig
        have hb3 : decide ((4000 : Int) < (sk : Int) + (x0.size : Int)) = false := decide_eq_false (by omega)
        generalize chunksL (l0.take kk) = xs at BL TF CL
        by_cases hz : x0.size = 0
        · have e0 : x0 = (⟨#[]⟩ : ByteArray) := by
            obtain ⟨⟨l⟩⟩ := x0
            cases l with
            | nil => rfl
            | cons a l => exact absurd hz (by simp [ByteArray.size])
          have hc0 : chunkL x0 = [] := by unfold chunkL; rw [if_pos hz]
          have hi : x0.toList.isEmpty = true := by rw [e0, ByteArray.toList_eq]; rfl
          have TF2 := TF.out
          rw [hc0, List.append_nil] at TF2
          have BL2 := BL
          rw [← TF2] at BL2
          have TS2 := Aside0.mk TS.out
          clear TF TF2 BL
          go_wp2
          go_roundg (l0.length - (kk + 1))
          case measure => omega
          case rel => exact ⟨kk + 1, by omega, by omega, by go_num, by rw [TS2.out, hz]; rfl, by rw [TS2.out]; omega, BL2, HB⟩
        · have hi : x0.toList.isEmpty = false := by
            rw [ByteArray.toList_eq]
            cases hl : x0.data.toList with
            | nil => exact absurd (show x0.size = 0 by show x0.data.size = 0; rw [← Array.length_toList, hl]; rfl) hz
            | cons a l => rfl
          have HX1 := Aside0.mk (XW.stays HX.out HB.out)
          have CX := Aside0.mk (impl_Hex.calls (x0.size : Int) (strOfNums (hexL x0.size)) wr HX1.out (hex_of_size x0.size (by omega)))
          have LD := Aside0.mk (chunk_data x0 hz)
          have hhl := hexL_le 3 x0.size (by omega)
          have hhs := nums_size (hexL x0.size)
          generalize strOfNums (hexL x0.size) = hs at CX LD hhs
          have s1 : ¬ 9223372036854775807 < hs.size + 2 := by omega
          have s2 : ¬ 9223372036854775807 < (hs ++ (⟨#[13, 10]⟩ : ByteArray)).size + x0.size := by
            rw [ByteArray.size_append, show (⟨#[13, 10]⟩ : ByteArray).size = 2 from rfl]; omega
          have s3 : ¬ 9223372036854775807 < (hs ++ (⟨#[13, 10]⟩ : ByteArray) ++ x0).size + 2 := by
            rw [ByteArray.size_append, ByteArray.size_append, show (⟨#[13, 10]⟩ : ByteArray).size = 2 from rfl]; omega
          have s1n : (9223372036854775807 < hs.size + 2) = False := eq_false s1
          have s2n : (9223372036854775807 < hs.size + 2 + x0.size) = False := eq_false (by omega)
          have s3n : (9223372036854775807 < hs.size + 2 + x0.size + 2) = False := eq_false (by omega)
          have hlb := LT.out
          have hcc := CL.out
          have hwsz : (hs ++ (⟨#[13, 10]⟩ : ByteArray) ++ x0 ++ (⟨#[13, 10]⟩ : ByteArray)).size = hs.size + 2 + x0.size + 2 := by
            rw [ByteArray.size_append, ByteArray.size_append, ByteArray.size_append, show (⟨#[13, 10]⟩ : ByteArray).size = 2 from rfl]
          have hcf := fun W (hb : Below wr.heap.size wr W) => builder_write w.heap.size w.heap.size xs (hs ++ (⟨#[13, 10]⟩ : ByteArray) ++ x0 ++ (⟨#[13, 10]⟩ : ByteArray)) W (bld_below BL.out hb) (by rw [hwsz]; omega) (Nat.le_trans HB.out.size hb.size)
          rw [LD.out, ← TF.out] at hcf
          have CF := Aside0.mk hcf
          clear hcf hhl hhs hwsz hlb hcc
          go_wp2_with (first
            | (go_at_call 51; refine CX.out.mono ?_; rintro e w4 ⟨rfl, hb4⟩; have HB4 := Aside0.mk hb4; clear hb4)
            | (go_at_call 50; refine (CF.out _ HB4.out).mono ?_; rintro e w5 ⟨rfl, hbl5, hb5⟩; have BL5 := Aside0.mk hbl5; have HB5 := Aside0.mk ((below_then HB.out HB.out.size HB4.out).trans hb5); clear hbl5 hb5))
          go_roundg (l0.length - (kk + 1))
          case measure => omega
          case rel => exact ⟨kk + 1, by omega, by omega, by go_num, by rw [TS.out, Int.natCast_add], by rw [TS.out]; omega, BL5, HB5⟩
    · have hltz : ¬ (kk : Int) < (l0.length : Int) := by omega
      have : kk = l0.length := by omega
      subst this
      have hO := BL.out
      rw [List.take_length] at hO hs4
      have h := HH.out
      unfold impl_Chunked.f at h
      rw [if_neg hbound, if_neg hlen, if_neg (by omega)] at h
      obtain rfl := Option.some.inj h
      clear h HH
      have hcl := chunksL_le l0 hs4
      have hcs := Tryd.Builder_String_any w.heap.size w.heap.size (chunksL l0) _ hO HB.out.size
      have hsz : (⟨(chunksL l0).toArray⟩ : ByteArray).size = (chunksL l0).length := by show (chunksL l0).toArray.size = _; simp
      have s0 : ¬ 9223372036854775807 < (⟨(chunksL l0).toArray⟩ : ByteArray).size + 1 := by omega
      have s0n : (9223372036854775807 < (⟨(chunksL l0).toArray⟩ : ByteArray).size + 1) = False := eq_false s0
      have s1 : ¬ 9223372036854775807 < ((⟨(chunksL l0).toArray⟩ : ByteArray) ++ (⟨#[48]⟩ : ByteArray)).size + 2 := by
        rw [ByteArray.size_append, show (⟨#[48]⟩ : ByteArray).size = 1 from rfl]; omega
      have s1n : (9223372036854775807 < (⟨(chunksL l0).toArray⟩ : ByteArray).size + 1 + 2) = False := eq_false (by omega)
      have s2 : ¬ 9223372036854775807 < ((⟨(chunksL l0).toArray⟩ : ByteArray) ++ (⟨#[48]⟩ : ByteArray) ++ (⟨#[13, 10]⟩ : ByteArray)).size + 2 := by
        rw [ByteArray.size_append, ByteArray.size_append, show (⟨#[48]⟩ : ByteArray).size = 1 from rfl, show (⟨#[13, 10]⟩ : ByteArray).size = 2 from rfl]; omega
      have s2n : (9223372036854775807 < (⟨(chunksL l0).toArray⟩ : ByteArray).size + 1 + 2 + 2) = False := eq_false (by omega)
      go_wp2_with (go_at_call 52; refine hcs.mono ?_; rintro e w5 ⟨rfl, hb5⟩)
      go_ret
      have hfin : ((⟨(chunksL l0).toArray⟩ : ByteArray) ++ (⟨#[48]⟩ : ByteArray) ++ (⟨#[13, 10]⟩ : ByteArray) ++ (⟨#[13, 10]⟩ : ByteArray)) = ⟨(chunksL l0 ++ [48, 13, 10, 13, 10]).toArray⟩ := by
        apply ByteArray.ext
        simp [ByteArray.data_append]
      exact ⟨by rw [← hfin]; rfl, HB.out.trans hb5⟩
end Go.Proofs.YtfbgpjhnjdhpcaaDoor.P
namespace Go.Proofs.YtfbgpjhnjdhpcaaDoor.Q
set_option linter.unusedVariables false
set_option linter.unusedSimpArgs false
open Go.RowKit Go.Proofs.YtfbgpjhnjdhpcaaDoor.P Go.Proofs.YtfbgpjhnjdhpcaaDoorW.PrintWords Go.Proofs.YtfbgpjhnjdhpcaaDoorW.PrintLast Go.Proofs.YtfbgpjhnjdhpcaaDoorW.PrintMore

theorem bytes_extract (s : ByteArray) (a b : Nat) : bytesOf (s.extract a b) = ((bytesOf s).drop a).take (b - a) := by
  unfold bytesOf
  rw [Lib.extract_data, List.map_take, List.map_drop]
theorem bytes_last (s : ByteArray) (h : 0 < s.size) : bytesOf s = bytesOf (s.extract 0 (s.size - 1)) ++ [bt s ((s.size - 1 : Nat) : Int)] := by
  rw [bytes_extract, List.drop_zero, Nat.sub_zero]
  have h1 := drop_bt s (s.size - 1) (by omega)
  have h2 : (bytesOf s).drop (s.size - 1 + 1) = [] := List.drop_of_length_le (by rw [bytesOf_length]; omega)
  rw [h2] at h1
  rw [← h1, List.take_append_drop]
theorem bytes_first (s : ByteArray) (h : 0 < s.size) : bytesOf s = bt s 0 :: bytesOf (s.extract 1 s.size) := by
  rw [bytes_extract]
  have h1 := drop_bt s 0 h
  rw [List.drop_zero] at h1
  rw [List.take_of_length_le (by rw [List.length_drop, bytesOf_length]; exact Nat.le_refl _)]
  exact h1
theorem size_extract (s : ByteArray) (a b : Nat) (hb : b ≤ s.size) : (s.extract a b).size = b - a := by
  rw [← bytesOf_length, bytes_extract, List.length_take, List.length_drop, bytesOf_length]
  omega
theorem toList_nil (s : ByteArray) : s.toList = [] ↔ s.size = 0 := by
  rw [toList_data, ← data_length]
  exact List.length_eq_zero_iff.symm
theorem bytes_nil (s : ByteArray) (h : s.size = 0) : bytesOf s = [] := List.eq_nil_of_length_eq_zero (by rw [bytesOf_length]; exact h)
theorem bytes_ofList (l : List UInt8) : bytesOf ⟨l.toArray⟩ = l.map fun b => (b.toNat : Int) := by
  unfold bytesOf
  rfl
theorem bytes_two (s : ByteArray) (i : Nat) (h : i + 2 ≤ s.size) : bytesOf (s.extract i (i + 2)) = [bt s (i : Int), bt s ((i + 1 : Nat) : Int)] := by
  rw [bytes_extract, drop_bt s i (by omega), drop_bt s (i + 1) (by omega), show i + 2 - i = 2 from by omega]
  rfl
def hexD (n : Nat) : ByteArray := strOfNums [bt digs36 (n : Int)]
/-- A number's hexadecimal numeral. -/
def hexT (n : Nat) : ByteArray := strOfNums (hexL n)
theorem hex_digit (m : Nat) (h : m < 16) : (⟨#[48, 49, 50, 51, 52, 53, 54, 55, 56, 57, 97, 98, 99, 100, 101, 102]⟩ : ByteArray).extract m (m + 1) = hexD m := by
  have key : ∀ i : Fin 16, ((⟨#[48, 49, 50, 51, 52, 53, 54, 55, 56, 57, 97, 98, 99, 100, 101, 102]⟩ : ByteArray).extract i.1 (i.1 + 1)).data.toList = (hexD i.1).data.toList := by decide
  have := key ⟨m, h⟩
  exact ByteArray.ext (Array.toList_inj.1 this)
theorem hexD_size (n : Nat) : (hexD n).size = 1 := by
  unfold hexD strOfNums
  rfl
theorem hex_app (l : List Int) (d : Nat) (s : ByteArray) : strOfNums l ++ (hexD d ++ s) = strOfNums (l ++ [bt digs36 (d : Int)]) ++ s := by
  apply ByteArray.ext
  apply Array.toList_inj.1
  unfold hexD
  simp only [ByteArray.data_append, Array.toList_append, strOfNums_data, List.map_append, List.append_assoc]
theorem hex_step (k n : Nat) (s : ByteArray) (h : s.toList = [] ∨ 0 < n) (hn : n ≤ 9000000000000000000) (hs : s.size ≤ 1000) :
    spec_Hex.l0 (k + 1) (n : Int) s = spec_Hex.l0 k ((n / 16 : Nat) : Int) (hexD (n % 16) ++ s) := by
  have e1 : Int.tmod (n : Int) 16 = ((n % 16 : Nat) : Int) := by rw [Int.tmod_eq_emod_of_nonneg (by omega)]; omega
  have e2 : wrap64 (((n % 16 : Nat) : Int) + 1) = ((n % 16 + 1 : Nat) : Int) := by rw [wrap_in (by omega) (by omega)]; omega
  have e3 : wrap64 (Int.tdiv (n : Int) 16) = ((n / 16 : Nat) : Int) := by rw [Int.tdiv_eq_ediv_of_nonneg (by omega), wrap_in (by omega) (by omega)]; omega
  have e4 := hex_digit (n % 16) (Nat.mod_lt _ (by decide))
  simp only [spec_Hex.l0]
  by_cases h1 : s.toList = []
  · rw [if_pos h1, e1, e2, e3, if_pos (by omega), if_pos (by omega), if_pos (by omega), Int.toNat_natCast, Int.toNat_natCast, e4, if_pos (by rw [hexD_size]; omega)]
  · have h0 := h.resolve_left h1
    rw [if_neg h1, if_pos (by omega), e1, e2, e3, if_pos (by omega), if_pos (by omega), if_pos (by omega), Int.toNat_natCast, Int.toNat_natCast, e4, if_pos (by rw [hexD_size]; omega)]
theorem hex_stop (k : Nat) (s : ByteArray) (h : s.toList ≠ []) : spec_Hex.l0 (k + 1) 0 s = some s := by
  simp only [spec_Hex.l0]
  rw [if_neg h, if_neg (by omega)]
theorem hex_ne (d : Nat) (s : ByteArray) : (hexD d ++ s).toList ≠ [] := by
  rw [toList_data]
  simp [hexD, ByteArray.data_append, strOfNums_data]
theorem hex_loop (d : Nat) : ∀ (n : Nat) (s : ByteArray), n < 16 ^ (d + 1) → (s.toList = [] ∨ 0 < n) → n ≤ 9000000000000000000 → s.size + d ≤ 1000 → Ev (fun k => spec_Hex.l0 k (n : Int) s) (strOfNums (hexL n) ++ s) := by
  induction d with
  | zero =>
    intro n s hn h hb hs
    have h16 : n < 16 := by simpa using hn
    refine Ev.step (fun k => hex_step k n s h hb (by omega)) ?_
    rw [show n / 16 = 0 by omega, show n % 16 = n by omega, hexL, dif_pos h16]
    exact Ev.step (f := fun _ => some (hexD n ++ s)) (fun k => hex_stop k _ (hex_ne n s)) (Ev.now _)
  | succ d ih =>
    intro n s hn h hb hs
    refine Ev.step (fun k => hex_step k n s h hb (by omega)) ?_
    by_cases h16 : n < 16
    · rw [show n / 16 = 0 by omega, show n % 16 = n by omega, hexL, dif_pos h16]
      exact Ev.step (f := fun _ => some (hexD n ++ s)) (fun k => hex_stop k _ (hex_ne n s)) (Ev.now _)
    · rw [hexL, dif_neg h16, ← hex_app]
      exact ih (n / 16) (hexD (n % 16) ++ s) (by rw [Nat.pow_succ] at hn; omega) (.inr (by omega)) (by omega) (by rw [ByteArray.size_append, hexD_size]; omega)
def hexR (n : Int) : ByteArray := if inB n 0 4503599627370496 = true then hexT n.toNat else ⟨#[]⟩
theorem spec_Hex_ev (n : Int) : Ev (fun k => spec_Hex.f k n) (hexR n) := by
  unfold spec_Hex.f hexR
  rw [spec_l1In_is]
  simp only [Option.bind_some]
  by_cases h : inB n 0 4503599627370496 = true
  · simp only [if_pos h]
    have hr := inB_true h
    have := hex_loop 15 n.toNat ⟨#[]⟩ (by omega) (.inl ((toList_nil _).2 rfl)) (by omega) (by decide)
    rw [show ((n.toNat : Nat) : Int) = n by omega] at this
    refine ev_eq this ?_
    apply ByteArray.ext
    apply Array.toList_inj.1
    simp [ByteArray.data_append, hexT]
  · simp only [if_neg h]
    exact Ev.now _
theorem impl_Hex_is (n : Int) : impl_Hex.f n = some (hexR n) := by
  unfold impl_Hex.f hexR
  rw [impl_within_is]
  simp only [Option.bind_some]
  by_cases h : inB n 0 4503599627370496 = true
  · have hr := inB_true h
    rw [if_pos h, if_pos h]
    unfold strconv_FormatInt.f
    rw [if_pos ⟨rfl, hr.1, by omega⟩]
    rfl
  · rw [if_neg h, if_neg h]
theorem rd_tx (l : List ByteArray) (i : Nat) (h : i < l.length) : rdOf ByteArray.empty l (i : Int) = l[i] := by
  simp [rdOf, List.getD_eq_getElem?_getD, h]
theorem sizes_cons (a : ByteArray) (l : List ByteArray) : sizes (a :: l) = a.size + sizes l := by simp [sizes]
def chunkedR (l : List ByteArray) : ByteArray := if l.length > 100 then ⟨#[]⟩ else if sizes l > 4000 then ⟨#[]⟩ else ⟨(chunksL l ++ [48, 13, 10, 13, 10]).toArray⟩
theorem impl_Chunked_is (l : List ByteArray) (h : sizes l ≤ 4611686018427387904) : impl_Chunked.f l = some (chunkedR l) := by
  unfold impl_Chunked.f chunkedR
  rw [if_neg (by omega)]
  split
  · rfl
  · split <;> rfl
theorem sizes_drop (l : List ByteArray) (i : Nat) (h : i < l.length) : sizes (l.drop i) = l[i].size + sizes (l.drop (i + 1)) := by rw [List.drop_eq_getElem_cons h, sizes_cons]
theorem sizes_split (l : List ByteArray) (i : Nat) : sizes l = sizes (l.take i) + sizes (l.drop i) := by
  unfold sizes
  rw [← List.sum_append, ← List.map_append, List.take_append_drop]
theorem hexT_is (n : Nat) : hexT n = strOfNums (hexL n) := rfl
theorem spec_Chunked_loop (l : List ByteArray) (hl : l.length ≤ 1048576) (hs : sizes l ≤ 1048576) (d : Nat) : ∀ (i : Nat) (out : List Int), i + d = l.length → sizes (l.take i) ≤ 4000 → (0 < i → l.length ≤ 100) → out = (chunksL (l.take i)).map (fun b => ((b.toNat : Nat) : Int)) →
    Ev (fun k => spec_Chunked.l0 k l (sizes (l.take i) : Int) out (i : Int)) (chunkedR l) := by
  induction d with
  | zero =>
    intro i out hd hz hb ho
    rw [List.take_of_length_le (show l.length ≤ i by omega)] at hz ho ⊢
    have hlen : out.length = (chunksL l).length := by rw [ho, List.length_map]
    have hc := chunksL_le l hz
    refine Ev.step (f := fun _ => some (chunkedR l)) (fun k => ?_) (Ev.now _)
    simp only [spec_Chunked.l0]
    unfold chunkedR
    rw [if_neg (by omega)]
    by_cases h100 : l.length > 100
    · rw [if_pos (by omega), if_pos h100]
    · rw [if_neg (show ¬ (l.length : Int) > 100 by omega), if_pos (show (strOfNums out).size + 5 ≤ 9223372036854775807 by rw [nums_size]; omega), if_neg h100, if_neg (show ¬ sizes l > 4000 by omega)]
      congr 1
      apply ByteArray.ext
      apply Array.toList_inj.1
      rw [ByteArray.data_append, Array.toList_append, strOfNums_data, ho, List.map_map]
      have e : List.map ((fun n : Int => UInt8.ofNat n.toNat) ∘ fun b : UInt8 => ((b.toNat : Nat) : Int)) (chunksL l) = chunksL l := (List.map_congr_left fun b _ => by simp).trans (List.map_id _)
      rw [e]
  | succ d ih =>
    intro i out hd hz hb ho
    have hi : i < l.length := by omega
    have ht := sizes_take l i hi
    have hsp := sizes_split l (i + 1)
    have hw1 : wrap64 ((sizes (l.take i) : Int) + (l[i].size : Int)) = (sizes (l.take (i + 1)) : Int) := by rw [wrap_in (by omega) (by omega)]; omega
    have hw2 : wrap64 ((i : Int) + 1) = ((i + 1 : Nat) : Int) := by rw [wrap_in (by omega) (by omega)]; omega
    have stop : (sizes (l.take (i + 1)) > 4000 ∨ l.length > 100) → chunkedR l = ⟨#[]⟩ := by
      intro h
      unfold chunkedR
      by_cases h100 : l.length > 100
      · rw [if_pos h100]
      · rw [if_neg h100, if_pos (by rcases h with h | h; omega; exact absurd h h100)]
    by_cases hbig : sizes (l.take (i + 1)) > 4000 ∨ l.length > 100
    · rw [stop hbig]
      refine Ev.step (f := fun k => spec_Chunked.j1 k l (sizes (l.take (i + 1)) : Int) out (i : Int) true) (fun k => ?_) ?_
      · simp only [spec_Chunked.l0]
        rw [if_pos (by omega), if_pos (by omega), rd_tx l i hi, hw1]
        by_cases h4 : (sizes (l.take (i + 1)) : Int) > 4000
        · rw [if_pos h4]
        · rw [if_neg h4, decide_eq_true (by rcases hbig with h | h; omega; omega)]
      · refine Ev.step (f := fun _ => some ⟨#[]⟩) (fun k => ?_) (Ev.now _)
        simp only [spec_Chunked.j1]
        rw [if_pos trivial]
    · have n4 : ¬ sizes (l.take (i + 1)) > 4000 := fun h => hbig (.inl h)
      have n100 : ¬ l.length > 100 := fun h => hbig (.inr h)
      have hct := chunksL_take l i hi
      have hcl := chunksL_le (l.take i) hz
      have hlt := List.length_take_le i l
      have hlen : out.length = (chunksL (l.take i)).length := by rw [ho, List.length_map]
      refine Ev.step (f := fun k => spec_Chunked.j1 k l (sizes (l.take (i + 1)) : Int) out (i : Int) false) (fun k => ?_) ?_
      · simp only [spec_Chunked.l0]
        rw [if_pos (by omega), if_pos (by omega), rd_tx l i hi, hw1, if_neg (by omega), decide_eq_false (by omega)]
      · by_cases he : l[i].toList = ([] : List UInt8)
        · have hzero : l[i].size = 0 := (toList_nil _).1 he
          have hc0 : chunkL l[i] = [] := by unfold chunkL; rw [if_pos hzero]
          rw [hc0, List.append_nil] at hct
          refine Ev.step (fun k => ?_) (ih (i + 1) out (by omega) (by omega) (fun _ => by omega) (by rw [hct]; exact ho))
          simp only [spec_Chunked.j1]
          rw [if_neg (by simp), if_pos (by omega), if_pos (by omega), rd_tx l i hi, if_pos he, hw2]
        · have hne : l[i].size ≠ 0 := fun h => he ((toList_nil _).2 h)
          have hhl := hexL_le 3 l[i].size (by omega)
          have hhs := nums_size (hexL l[i].size)
          have h2 : (⟨#[13, 10]⟩ : ByteArray).size = 2 := rfl
          have hdat := chunk_data l[i] hne
          have hhex : Ev (fun k => spec_Hex.f k (l[i].size : Int)) (strOfNums (hexL l[i].size)) := by
            have := spec_Hex_ev (l[i].size : Int)
            have e : hexR (l[i].size : Int) = strOfNums (hexL l[i].size) := by
              unfold hexR inB
              rw [if_pos (by simp; omega), Int.toNat_natCast]
              rfl
            rw [e] at this
            exact this
          have next := ih (i + 1) (out ++ bytesOf (strOfNums (hexL l[i].size) ++ (⟨#[13, 10]⟩ : ByteArray) ++ l[i] ++ (⟨#[13, 10]⟩ : ByteArray))) (by omega) (by omega) (fun _ => by omega) (by
            rw [hct, List.map_append, ho]
            congr 1
            rw [← hdat]
            rfl)
          refine Ev.step (f := fun k => (spec_Hex.f k (l[i].size : Int)).bind fun t107 => (if t107.size + 2 ≤ 9223372036854775807 then (if (t107 ++ (⟨#[13, 10]⟩ : ByteArray)).size + l[i].size ≤ 9223372036854775807 then (if ((t107 ++ (⟨#[13, 10]⟩ : ByteArray)) ++ l[i]).size + 2 ≤ 9223372036854775807 then (if out.length + (((t107 ++ (⟨#[13, 10]⟩ : ByteArray)) ++ l[i]) ++ (⟨#[13, 10]⟩ : ByteArray)).size < 140737488355328 then (spec_Chunked.l0 k l (sizes (l.take (i + 1)) : Int) (out ++ bytesOf (((t107 ++ (⟨#[13, 10]⟩ : ByteArray)) ++ l[i]) ++ (⟨#[13, 10]⟩ : ByteArray))) ((i + 1 : Nat) : Int)) else (none)) else (none)) else (none)) else (none))) (fun k => ?_) (Ev.bind hhex ?_)
          · simp only [spec_Chunked.j1]
            rw [if_neg (by simp), if_pos (by omega), if_pos (by omega), rd_tx l i hi, if_neg he, hw2]
          · have z1 : (strOfNums (hexL l[i].size)).size + 2 ≤ 9223372036854775807 := by omega
            have z2 : (strOfNums (hexL l[i].size) ++ (⟨#[13, 10]⟩ : ByteArray)).size + l[i].size ≤ 9223372036854775807 := by rw [ByteArray.size_append, h2]; omega
            have z3 : (strOfNums (hexL l[i].size) ++ (⟨#[13, 10]⟩ : ByteArray) ++ l[i]).size + 2 ≤ 9223372036854775807 := by rw [ByteArray.size_append, ByteArray.size_append, h2]; omega
            have z4 : out.length + (strOfNums (hexL l[i].size) ++ (⟨#[13, 10]⟩ : ByteArray) ++ l[i] ++ (⟨#[13, 10]⟩ : ByteArray)).size < 140737488355328 := by rw [ByteArray.size_append, ByteArray.size_append, ByteArray.size_append, h2]; omega
            simp only [if_pos z1, if_pos z2, if_pos z3, if_pos z4]
            exact next
theorem spec_Chunked_ev (l : List ByteArray) (hl : l.length ≤ 1048576) (hs : sizes l ≤ 1048576) : Ev (fun k => spec_Chunked.f k l) (chunkedR l) := by
  unfold spec_Chunked.f
  exact spec_Chunked_loop l hl hs l.length 0 [] (by omega) (Nat.zero_le _) (fun h => by omega) rfl
theorem hex_sign (m : Nat) (h : m < 16) : (0 ≤ bt digs36 (m : Int) ∧ bt digs36 (m : Int) ≤ 255) ∧ hexB (bt digs36 (m : Int)) = true ∧ dgt (bt digs36 (m : Int)) = (m : Int) := by
  have key : ∀ i : Fin 16, (0 ≤ bt digs36 ((i.1 : Nat) : Int) ∧ bt digs36 ((i.1 : Nat) : Int) ≤ 255) ∧ hexB (bt digs36 ((i.1 : Nat) : Int)) = true ∧ dgt (bt digs36 ((i.1 : Nat) : Int)) = ((i.1 : Nat) : Int) := by decide
  exact key ⟨m, h⟩
theorem hexL_bytes (n : Nat) : (∀ c ∈ hexL n, 0 ≤ c ∧ c ≤ 255) ∧ (hexL n).all hexB = true ∧ numB 16 (hexL n) = (n : Int) ∧ 1 ≤ (hexL n).length := by
  induction n using Nat.strongRecOn with
  | _ n ih =>
    rw [hexL]
    by_cases h : n < 16
    · rw [dif_pos h]
      obtain ⟨a, b, c⟩ := hex_sign n h
      exact ⟨fun x hx => by rw [List.mem_singleton.1 hx]; exact a, by simp [b], by unfold numB; simp [c], by simp⟩
    · rw [dif_neg h]
      obtain ⟨a, b, c⟩ := hex_sign (n % 16) (Nat.mod_lt _ (by decide))
      obtain ⟨i1, i2, i3, i4⟩ := ih (n / 16) (by omega)
      refine ⟨fun x hx => ?_, by rw [List.all_append, i2, List.all_cons, List.all_nil, b]; rfl, ?_, by simp⟩
      · rcases List.mem_append.1 hx with hx | hx
        · exact i1 x hx
        · rw [List.mem_singleton.1 hx]; exact a
      · rw [numB_snoc, i3, c]
        omega
theorem hex_back (n : Nat) (hs : (hexT n).size ≤ 13) : numOk 16 13 hexB (hexT n) = ((n : Int), true) := by
  obtain ⟨a, b, c, d⟩ := hexL_bytes n
  have e : bytesOf (hexT n) = hexL n := bytes_nums _ a
  have e2 : (hexT n).size = (hexL n).length := by rw [← e, bytesOf_length]
  unfold numOk
  rw [if_pos ⟨by omega, hs, by rw [e]; exact b⟩, e, c]
/-- The decimal digits of a number. -/
def decN (n : Nat) : List Int := if h : n < 10 then [48 + (n : Int)] else decN (n / 10) ++ [48 + ((n % 10 : Nat) : Int)]
termination_by n
decreasing_by omega
theorem dec_sign (m : Nat) (h : m < 10) : (0 ≤ (48 + (m : Int)) ∧ 48 + (m : Int) ≤ 255) ∧ digB (48 + (m : Int)) = true ∧ dgt (48 + (m : Int)) = (m : Int) := by
  have e : digB (48 + (m : Int)) = true := by unfold digB; simp; omega
  exact ⟨by omega, e, by rw [(dgt_dig e).1]; omega⟩
theorem decN_bytes (n : Nat) : (∀ c ∈ decN n, 0 ≤ c ∧ c ≤ 255) ∧ (decN n).all digB = true ∧ numB 10 (decN n) = (n : Int) ∧ 1 ≤ (decN n).length := by
  induction n using Nat.strongRecOn with
  | _ n ih =>
    rw [decN]
    by_cases h : n < 10
    · rw [dif_pos h]
      obtain ⟨a, b, c⟩ := dec_sign n h
      exact ⟨fun x hx => by rw [List.mem_singleton.1 hx]; exact a, by simp [b], by unfold numB; simp [c], by simp⟩
    · rw [dif_neg h]
      obtain ⟨a, b, c⟩ := dec_sign (n % 10) (Nat.mod_lt _ (by decide))
      obtain ⟨i1, i2, i3, i4⟩ := ih (n / 10) (by omega)
      refine ⟨fun x hx => ?_, by rw [List.all_append, i2, List.all_cons, List.all_nil, b]; rfl, ?_, by simp⟩
      · rcases List.mem_append.1 hx with hx | hx
        · exact i1 x hx
        · rw [List.mem_singleton.1 hx]; exact a
      · rw [numB_snoc, i3, c]
        omega
theorem decN_len (d : Nat) : ∀ n : Nat, n < 10 ^ (d + 1) → (decN n).length ≤ d + 1 := by
  induction d with
  | zero => intro n h; rw [decN, dif_pos (by simpa using h)]; simp
  | succ d ih =>
    intro n h
    rw [decN]
    by_cases h2 : n < 10
    · rw [dif_pos h2]; simp
    · rw [dif_neg h2, List.length_append, List.length_singleton]
      have := ih (n / 10) (by rw [Nat.pow_succ] at h; omega)
      omega
theorem numB_noughts (l : List Int) : numB 10 (48 :: 48 :: l) = numB 10 l := by
  unfold numB
  simp only [List.foldl_cons]
  rfl
theorem noughts_back (s : ByteArray) (n : Nat) (hs : s = strOfNums (decN n)) (hn : n < 100000) : numOk 10 15 digB ((⟨#[48, 48]⟩ : ByteArray) ++ s) = ((n : Int), true) := by
  obtain ⟨a, b, c, d⟩ := decN_bytes n
  have hl := decN_len 4 n (by simpa using hn)
  have e : bytesOf ((⟨#[48, 48]⟩ : ByteArray) ++ s) = 48 :: 48 :: decN n := by
    rw [bytes_append, hs, bytes_nums _ a]
    rfl
  have e2 : ((⟨#[48, 48]⟩ : ByteArray) ++ s).size = (decN n).length + 2 := by rw [← bytesOf_length, e]; rfl
  unfold numOk
  rw [if_pos ⟨by omega, by omega, by rw [e]; simp only [List.all_cons, b]; rfl⟩, e, numB_noughts, c]
theorem dec_app (l : List Int) (c : Int) (s : ByteArray) : strOfNums l ++ (strOfNums [c] ++ s) = strOfNums (l ++ [c]) ++ s := by
  apply ByteArray.ext
  apply Array.toList_inj.1
  simp only [ByteArray.data_append, Array.toList_append, strOfNums_data, List.map_append, List.append_assoc]
/-- The chunker behind bytes that it eats one by one, if it eats them all. -/
def goes : List Int → Chk → Option Chk
  | [], c => some c
  | b :: l, c => if c.1 < 8 then goes l (eatC c.1 c.2.1 c.2.2.1 c.2.2.2 b) else none
theorem goes_app (l r : List Int) (c : Chk) : goes (l ++ r) c = (goes l c).bind (goes r) := by
  induction l generalizing c with
  | nil => rfl
  | cons b l ih =>
    rw [List.cons_append]
    unfold goes
    split
    · exact ih _
    · rfl
abbrev eatF : Int × Chk → Int → (Int × Chk) ⊕ (Int × Int × ByteArray × ByteArray × Int) := fun (p : Int × Chk) b => if p.2.1 < 8 then .inl (p.1 + 1, eatC p.2.1 p.2.2.1 p.2.2.2.1 p.2.2.2.2 b) else .inr (p.2.1, p.2.2.1, p.2.2.2.1, p.2.2.2.2, p.1)
abbrev eatE : Int × Chk → Int × Int × ByteArray × ByteArray × Int := fun p => (p.2.1, p.2.2.1, p.2.2.2.1, p.2.2.2.2, p.1)
theorem runL_goes (l r : List Int) (n : Int) (c d : Chk) (h : goes l c = some d) : runL eatF eatE (l ++ r) (n, c) = runL eatF eatE r (n + (l.length : Int), d) := by
  induction l generalizing n c with
  | nil =>
    obtain rfl := Option.some.inj h
    rw [List.nil_append, List.length_nil]
    congr 2
    simp
  | cons b l ih =>
    unfold goes at h
    by_cases h8 : c.1 < 8
    · rw [if_pos h8] at h
      rw [List.cons_append]
      have e : eatF (n, c) b = .inl (n + 1, eatC c.1 c.2.1 c.2.2.1 c.2.2.2 b) := if_pos h8
      rw [runL, e]
      refine (ih (n + 1) _ h).trans ?_
      congr 2
      rw [List.length_cons]
      omega
    · rw [if_neg h8] at h
      cases h
theorem runL_done (r : List Int) (n : Int) (c : Chk) (h : ¬ c.1 < 8) : runL eatF eatE r (n, c) = (c.1, c.2.1, c.2.2.1, c.2.2.2, n) := by
  cases r with
  | nil => rfl
  | cons b r =>
    have e : eatF (n, c) b = .inr (c.1, c.2.1, c.2.2.1, c.2.2.2, n) := if_neg h
    rw [runL, e]
/-- A chunker that eats bytes and comes to its end: what stands behind is not eaten. -/
theorem eatL_goes (s : ByteArray) (l r : List Int) (c d : Chk) (hs : bytesOf s = l ++ r) (h : goes l c = some d) (hd : r = [] ∨ ¬ d.1 < 8) : eatL c s = (d.1, d.2.1, d.2.2.1, d.2.2.2, (l.length : Int)) := by
  have e := runL_goes l r 0 c d h
  unfold eatL
  rw [hs]
  refine e.trans ?_
  rw [Int.zero_add]
  rcases hd with rfl | h8
  · rfl
  · exact runL_done r _ d h8
theorem numsApp (a b : List Int) : strOfNums a ++ strOfNums b = strOfNums (a ++ b) := by
  apply ByteArray.ext
  apply Array.toList_inj.1
  rw [ByteArray.data_append, Array.toList_append, strOfNums_data, strOfNums_data, strOfNums_data, List.map_append]
theorem goes_hex (l : List Int) : ∀ (dg bd : ByteArray) (left : Int), (∀ b ∈ l, hexB b = true) → dg.size + l.length ≤ 13 → goes l (1, left, dg, bd) = some (1, left, dg ++ strOfNums l, bd) := by
  induction l with
  | nil =>
    intro dg bd left _ _
    have e : dg ++ strOfNums [] = dg := by
      apply ByteArray.ext
      rw [ByteArray.data_append]
      exact Array.append_empty
    rw [e]
    rfl
  | cons b l ih =>
    intro dg bd left hb hl
    rw [List.length_cons] at hl
    unfold goes
    rw [if_pos (show (1 : Int) < 8 by decide)]
    have e : eatC 1 left dg bd b = (1, left, dg ++ strOfNums [b], bd) := by
      unfold eatC
      rw [if_neg (by decide), if_pos rfl, if_pos ⟨hb b List.mem_cons_self, by omega⟩]
    show goes l (eatC 1 left dg bd b) = _
    rw [e, ih _ _ _ (fun x hx => hb x (List.mem_cons_of_mem _ hx)) (by rw [ByteArray.size_append, sizeE_one]; omega), ByteArray.append_assoc, numsApp]
    rfl
theorem goes_data (l : List Int) : ∀ (dg bd : ByteArray), l ≠ [] → goes l (3, (l.length : Int), dg, bd) = some (4, 0, dg, bd ++ strOfNums l) := by
  induction l with
  | nil => intro _ _ h; exact absurd rfl h
  | cons b l ih =>
    intro dg bd _
    unfold goes
    rw [if_pos (show (3 : Int) < 8 by decide)]
    show goes l (eatC 3 (((b :: l).length : Nat) : Int) dg bd b) = _
    have hl : (((b :: l).length : Nat) : Int) - 1 = (l.length : Int) := by rw [List.length_cons]; omega
    by_cases h : l = []
    · subst h
      have e : eatC 3 ((([b] : List Int).length : Nat) : Int) dg bd b = (4, 0, dg, bd ++ strOfNums [b]) := by
        unfold eatC
        rw [if_neg (by decide), if_neg (by decide), if_neg (by decide), if_pos rfl, if_pos (by simp)]
        rfl
      rw [e]
      rfl
    · have hpos : 0 < l.length := List.length_pos_iff.2 h
      have e : eatC 3 (((b :: l).length : Nat) : Int) dg bd b = (3, (l.length : Int), dg, bd ++ strOfNums [b]) := by
        unfold eatC
        rw [if_neg (by decide), if_neg (by decide), if_neg (by decide), if_pos rfl, hl, if_neg (by omega)]
      rw [e, ih _ _ h, ByteArray.append_assoc, numsApp]
      rfl
/-- A part's chunk, in numbers. -/
def chunkI (p : ByteArray) : List Int := if p.size = 0 then [] else hexL p.size ++ ([13, 10] ++ (bytesOf p ++ [13, 10]))
theorem chunkI_is (p : ByteArray) : (chunkL p).map (fun b => ((b.toNat : Nat) : Int)) = chunkI p := by
  unfold chunkL chunkI
  split
  · rfl
  · have e : (strOfNums (hexL p.size)).data.toList.map (fun b => ((b.toNat : Nat) : Int)) = hexL p.size := bytes_nums (hexL p.size) (hexL_bytes p.size).1
    rw [List.map_append, List.map_append, List.map_append, e, List.append_assoc, List.append_assoc]
    rfl
theorem chunksI_is (l : List ByteArray) : (chunksL l).map (fun b => ((b.toNat : Nat) : Int)) = l.flatMap chunkI := by
  unfold chunksL
  induction l with
  | nil => rfl
  | cons p l ih => rw [List.flatMap_cons, List.map_append, chunkI_is, ih, List.flatMap_cons]
theorem chunked_bytes (l : List ByteArray) (h1 : l.length ≤ 100) (h2 : sizes l ≤ 4000) : bytesOf (chunkedR l) = l.flatMap chunkI ++ [48, 13, 10, 13, 10] := by
  unfold chunkedR
  rw [if_neg (by omega), if_neg (by omega)]
  unfold bytesOf
  show ((chunksL l ++ [48, 13, 10, 13, 10]).map fun b : UInt8 => ((b.toNat : Nat) : Int)) = _
  rw [List.map_append, chunksI_is]
  rfl
/-- The parts behind a text. -/
def catB (bd : ByteArray) : List ByteArray → ByteArray
  | [] => bd
  | p :: l => catB (bd ++ p) l
theorem catB_size (l : List ByteArray) : ∀ bd, (catB bd l).size = bd.size + sizes l := by
  induction l with
  | nil => intro bd; rfl
  | cons p l ih => intro bd; unfold catB; rw [ih, ByteArray.size_append, sizes_cons]; omega
theorem append_none (a p : ByteArray) (h : p.size = 0) : a ++ p = a := by
  apply ByteArray.ext
  rw [ByteArray.data_append]
  have e : p.data = #[] := Array.eq_empty_of_size_eq_zero h
  rw [e]
  exact Array.append_empty
theorem none_append (p : ByteArray) : (⟨#[]⟩ : ByteArray) ++ p = p := by
  apply ByteArray.ext
  rw [ByteArray.data_append]
  exact Array.empty_append
theorem goes_chunk (p bd : ByteArray) (h : bd.size + p.size ≤ 4000) : goes (chunkI p) (1, 0, (⟨#[]⟩ : ByteArray), bd) = some (1, 0, (⟨#[]⟩ : ByteArray), bd ++ p) := by
  unfold chunkI
  by_cases h0 : p.size = 0
  · rw [if_pos h0, append_none bd p h0]
    rfl
  · rw [if_neg h0]
    obtain ⟨_, hx, _, _⟩ := hexL_bytes p.size
    have hlen := hexL_le 3 p.size (by omega)
    have hz : (⟨#[]⟩ : ByteArray).size = 0 := rfl
    rw [goes_app, goes_hex _ _ _ _ (fun b hb => List.all_eq_true.1 hx b hb) (by omega)]
    simp only [Option.bind_some]
    have hnum := hex_back p.size (by rw [hexT_is, nums_size]; omega)
    rw [hexT_is] at hnum
    rw [none_append]
    have e1 : eatC 1 0 (strOfNums (hexL p.size)) bd 13 = (2, (p.size : Int), (⟨#[]⟩ : ByteArray), bd) := by
      unfold eatC
      rw [if_neg (by decide), if_pos rfl, if_neg (by rintro ⟨h, _⟩; revert h; decide), if_pos ⟨rfl, by rw [hnum], by rw [hnum]; show ¬ (p.size : Int) > 4000 - (bd.size : Int); omega⟩, hnum]
    have e2 : eatC 2 (p.size : Int) (⟨#[]⟩ : ByteArray) bd 10 = (3, (p.size : Int), (⟨#[]⟩ : ByteArray), bd) := by
      unfold eatC
      rw [if_neg (by decide), if_neg (by decide), if_pos rfl, if_pos rfl, if_neg (by omega)]
    have g1 : goes [13, 10] (1, 0, strOfNums (hexL p.size), bd) = some (3, (p.size : Int), (⟨#[]⟩ : ByteArray), bd) := by
      unfold goes
      rw [if_pos (show (1 : Int) < 8 by decide)]
      show goes [10] (eatC 1 0 (strOfNums (hexL p.size)) bd 13) = _
      rw [e1]
      unfold goes
      rw [if_pos (show (2 : Int) < 8 by decide)]
      show goes [] (eatC 2 (p.size : Int) (⟨#[]⟩ : ByteArray) bd 10) = _
      rw [e2]
      rfl
    rw [goes_app, g1]
    simp only [Option.bind_some]
    have hbl : bytesOf p ≠ [] := fun e => h0 (by rw [← bytesOf_length, e]; rfl)
    have hdat := goes_data (bytesOf p) ⟨#[]⟩ bd hbl
    rw [bytesOf_length, nums_bytes] at hdat
    rw [goes_app, hdat]
    rfl
theorem goes_chunks (l : List ByteArray) : ∀ bd : ByteArray, bd.size + sizes l ≤ 4000 → goes (l.flatMap chunkI) (1, 0, (⟨#[]⟩ : ByteArray), bd) = some (1, 0, (⟨#[]⟩ : ByteArray), catB bd l) := by
  induction l with
  | nil => intro bd _; rfl
  | cons p l ih =>
    intro bd h
    rw [sizes_cons] at h
    rw [List.flatMap_cons, goes_app, goes_chunk p bd (by omega)]
    simp only [Option.bind_some]
    exact ih (bd ++ p) (by rw [ByteArray.size_append]; omega)
theorem goes_last (bd : ByteArray) (h : bd.size ≤ 4000) : goes [48, 13, 10, 13, 10] (1, 0, (⟨#[]⟩ : ByteArray), bd) = some (8, 0, (⟨#[]⟩ : ByteArray), bd) := by
  have hnum : numOk 16 13 hexB (strOfNums [48]) = (0, true) := by kernel_rfl
  have e0 : eatC 1 0 (⟨#[]⟩ : ByteArray) bd 48 = (1, 0, strOfNums [48], bd) := by
    unfold eatC
    rw [if_neg (by decide), if_pos rfl, if_pos ⟨by decide, by decide⟩, none_append]
  have e1 : eatC 1 0 (strOfNums [48]) bd 13 = (2, 0, (⟨#[]⟩ : ByteArray), bd) := by
    unfold eatC
    rw [if_neg (by decide), if_pos rfl, if_neg (by rintro ⟨h, _⟩; revert h; decide), if_pos ⟨rfl, by rw [hnum], by rw [hnum]; show ¬ (0 : Int) > 4000 - (bd.size : Int); omega⟩, hnum]
  have e2 : eatC 2 0 (⟨#[]⟩ : ByteArray) bd 10 = (6, 0, (⟨#[]⟩ : ByteArray), bd) := rfl
  have e3 : eatC 6 0 (⟨#[]⟩ : ByteArray) bd 13 = (7, 0, (⟨#[]⟩ : ByteArray), bd) := rfl
  have e4 : eatC 7 0 (⟨#[]⟩ : ByteArray) bd 10 = (8, 0, (⟨#[]⟩ : ByteArray), bd) := rfl
  have st : ∀ (b : Int) (l : List Int) (c : Chk), c.1 < 8 → goes (b :: l) c = goes l (eatC c.1 c.2.1 c.2.2.1 c.2.2.2 b) := fun b l c h => by rw [goes, if_pos h]
  rw [st _ _ _ (by show (1 : Int) < 8; decide)]
  show goes _ (eatC 1 0 (⟨#[]⟩ : ByteArray) bd 48) = _
  rw [e0, st _ _ _ (by show (1 : Int) < 8; decide)]
  show goes _ (eatC 1 0 (strOfNums [48]) bd 13) = _
  rw [e1, st _ _ _ (by show (2 : Int) < 8; decide)]
  show goes _ (eatC 2 0 (⟨#[]⟩ : ByteArray) bd 10) = _
  rw [e2, st _ _ _ (by show (6 : Int) < 8; decide)]
  show goes _ (eatC 6 0 (⟨#[]⟩ : ByteArray) bd 13) = _
  rw [e3, st _ _ _ (by show (7 : Int) < 8; decide)]
  show goes _ (eatC 7 0 (⟨#[]⟩ : ByteArray) bd 10) = _
  rw [e4]
  rfl
/-- What chunks are eaten to. -/
theorem goes_all (l : List ByteArray) (h1 : l.length ≤ 100) (h2 : sizes l ≤ 4000) : goes (bytesOf (chunkedR l)) (1, 0, (⟨#[]⟩ : ByteArray), (⟨#[]⟩ : ByteArray)) = some (8, 0, (⟨#[]⟩ : ByteArray), catB ⟨#[]⟩ l) := by
  have hz : (⟨#[]⟩ : ByteArray).size = 0 := rfl
  rw [chunked_bytes l h1 h2, goes_app, goes_chunks l ⟨#[]⟩ (by omega)]
  simp only [Option.bind_some]
  exact goes_last _ (by rw [catB_size]; omega)
abbrev chk0 : Chk := (1, 0, (⟨#[]⟩ : ByteArray), (⟨#[]⟩ : ByteArray))
theorem eat_behind (l : List ByteArray) (h1 : l.length ≤ 100) (h2 : sizes l ≤ 4000) (t : ByteArray) : eatL chk0 (chunkedR l ++ t) = (8, 0, (⟨#[]⟩ : ByteArray), catB ⟨#[]⟩ l, ((chunkedR l).size : Int)) := by
  have := eatL_goes (chunkedR l ++ t) (bytesOf (chunkedR l)) (bytesOf t) chk0 _ (bytes_append _ _) (goes_all l h1 h2) (.inr (by show ¬ (8 : Int) < 8; decide))
  rw [bytesOf_length] at this
  exact this
theorem eat_whole (l : List ByteArray) (h1 : l.length ≤ 100) (h2 : sizes l ≤ 4000) : eatL chk0 (chunkedR l) = (8, 0, (⟨#[]⟩ : ByteArray), catB ⟨#[]⟩ l, ((chunkedR l).size : Int)) := by
  have := eatL_goes (chunkedR l) (bytesOf (chunkedR l)) [] chk0 _ (List.append_nil _).symm (goes_all l h1 h2) (.inl rfl)
  rw [bytesOf_length] at this
  exact this
theorem eat_part (l : List ByteArray) (h1 : l.length ≤ 100) (h2 : sizes l ≤ 4000) (m : Nat) (hm : m < (chunkedR l).size) : (eatL chk0 ((chunkedR l).extract 0 m)).1 ≠ 8 := by
  have hb : bytesOf ((chunkedR l).extract 0 m) = (bytesOf (chunkedR l)).take m := by rw [bytes_extract, List.drop_zero, Nat.sub_zero]
  have hg := goes_all l h1 h2
  rw [← List.take_append_drop m (bytesOf (chunkedR l)), goes_app] at hg
  obtain ⟨d, hd, hr⟩ := Option.bind_eq_some_iff.1 hg
  have hne : (bytesOf (chunkedR l)).drop m ≠ [] := fun e => by
    have := congrArg List.length e
    rw [List.length_drop, bytesOf_length, List.length_nil] at this
    omega
  have h8 : d.1 < 8 := by
    cases hx : (bytesOf (chunkedR l)).drop m with
    | nil => exact absurd hx hne
    | cons b r =>
      rw [hx] at hr
      unfold goes at hr
      by_cases h : d.1 < 8
      · exact h
      · rw [if_neg h] at hr; cases hr
  have := eatL_goes ((chunkedR l).extract 0 m) _ [] chk0 d (by rw [hb, List.append_nil]) hd (.inl rfl)
  rw [this]
  show d.1 ≠ 8
  omega
end Go.Proofs.YtfbgpjhnjdhpcaaDoor.Q
namespace Go.Proofs.YtfbgpjhnjdhpcaaDoor.P
open Go.RowKit Go.Proofs.YtfbgpjhnjdhpcaaDoorW.PrintWords Go.Proofs.YtfbgpjhnjdhpcaaDoorW.PrintLast Go.Proofs.YtfbgpjhnjdhpcaaDoorW.PrintMore
attribute [local go_sem] max2_int min2_int max_two min_two max_three min_three max_four min_four   -- for this text's walks alone
set_option linter.unusedVariables false
set_option linter.unusedSimpArgs false

/-! ### spec_DrawChunked: function 19 -/
def spec_DrawChunked.f (k : Nat) (l0 : List Int) : Option (List ByteArray) := (spec_l1New.f k l0).bind fun bt101 => ((spec_l5DrawParts.f k bt101.1 bt101.2.1 bt101.2.2).bind fun bt105 => (some bt105.1))
theorem spec_DrawChunked.mono : ∀ a0 k, LeO (spec_DrawChunked.f k a0) (spec_DrawChunked.f (k + 1) a0) := by
 intro a0 k
 unfold spec_DrawChunked.f
 repeat' first
   | (with_reducible exact spec_l1New.mono _ _)
   | (with_reducible exact spec_l5DrawParts.mono _ _ _ _)
   | (with_reducible exact LeO.refl _)
   | (with_reducible exact LeO.none _)
   | (with_reducible refine LeO.ite ?_ ?_)
   | (with_reducible refine LeO.bind ?_ (fun _ => ?_))
   | exact spec_l1New.mono _ _
   | exact spec_l5DrawParts.mono _ _ _ _
   | exact LeO.none _
   | refine LeO.ite ?_ ?_
   | refine LeO.bind ?_ (fun _ => ?_)
set_option maxHeartbeats 8000000 in
set_option maxRecDepth 100000 in
theorem spec_DrawChunked.calls (k : Nat) (A0 : Option Addr) (c0 : Nat) (l0 : List Int) (r : List ByteArray) (w : World) (hr0 : Kd.C (Kd.int .u8) w A0 l0.length l0) (hc0 : l0.length ≤ c0) (h : spec_DrawChunked.f k l0 = some r) :
  Calls Tryd.prog 19 #[.slice A0 l0.length c0] w fun e w' => ∃ v0_ : Value, e = .returned (v0_) ∧ Kd.R Kd.string 9 w' w.heap.size (fun _ => True) v0_ r ∧ Below w.heap.size w w' := by
 have HR0 := Aside0.mk hr0
 have HC0 := Aside0.mk hc0
 clear hr0 hc0
 have HB := Aside0.mk (Below.refl w.heap.size w)
 have H : ((spec_l1New.f k l0).bind fun bt101 => ((spec_l5DrawParts.f k bt101.1 bt101.2.1 bt101.2.2).bind fun bt105 => (some bt105.1))) = some r := h
 clear h
 obtain ⟨⟨t101, t102, t103⟩, A20, H⟩ := Option.bind_eq_some_iff.mp H
 try dsimp only at H
 have A2 := Aside0.mk A20
 clear A20
 replace H := Option.bind_eq_some_iff.mp H
 obtain ⟨⟨t105, t108, t109⟩, A30, H⟩ := H
 replace H : (some t105) = some r := H
 have A3 := Aside0.mk A30
 clear A30
 obtain rfl := Option.some.inj H
 go_enter Tryd.func19, Tryd.ntmps19
 go_wp2_with (first | ((with_reducible refine gate_callee (f := 34) rfl ?_); refine goesL_ (some 5) rfl rfl Tryd.func34 (by kernel_rfl) rfl #[.slice A0 l0.length c0] rfl mc ?_; (with_reducible refine (spec_l1New.calls k _ _ l0 t101 t102 t103 w _ ?side1 ?side2 ?side3 A2.out).mono ?_); (case side1 => exact zbh); (case side2 => exact HR0.out); (case side3 => exact HC0.out); rintro e w4 ⟨g104, rfl, hi, hb, hb2⟩; refine ⟨_, rfl, ?_⟩; have HI104 := Aside0.mk (hi); replace HB := Aside0.mk (hb); (try clear hb); (try clear hb2); (try clear hk); (try clear hi)) | ((with_reducible refine gate_callee (f := 49) rfl ?_); refine goesL_ (some 7) rfl rfl Tryd.func49 (by kernel_rfl) rfl #[.pointer (some ⟨g104, 0, none⟩)] rfl mc ?_; (with_reducible refine (spec_l5DrawParts.calls k g104 t101 t102 t103 t105 t108 t109 w _ ?side1 ?side2 A3.out).mono ?_); (case side1 => repeat (first | (with_reducible first | exact HI104.out | apply IsS76.alloc | apply IsS76.drewN | apply IsS76.drew | apply IsS76.set_1 | apply IsS76.set_2) | exact HI104.out)); (case side2 => repeat (first | (with_reducible first | exact HB.out | apply below_alloc | apply pw_below_drewN | apply below_drew1 | refine below_set ?_ (IsS76.ge HI104.out)) | exact HB.out)); rintro e w5 ⟨v106, rfl, ho0, hi, hb, hk⟩; refine ⟨_, rfl, ?_⟩; have HO107 := Aside0.mk (Kd.R_lower ho0 (below_size (by repeat (first | (with_reducible first | exact HB.out | apply below_alloc | apply pw_below_drewN | apply below_drew1 | refine below_set ?_ (IsS76.ge HI104.out)) | exact HB.out)))); replace HI104 := Aside0.mk (hi); replace HB := Aside0.mk (hb); (try clear hb); (try clear hb2); (try clear hk); (try clear hi); (try clear ho0)))
 go_ret
 exact ⟨_, er, by (with_reducible repeat (first | apply Kd.R_alloc | apply Kd.R_drewN | apply Kd.R_drew)); exact HO107.out, by repeat (first | (with_reducible first | exact HB.out | apply below_alloc | apply pw_below_drewN | apply below_drew1 | refine below_set ?_ (IsS76.ge HI104.out)) | exact HB.out)⟩
/-! ### spec_DrawUnchunked: function 21 -/
def spec_DrawUnchunked.f (k : Nat) (l0 : List Int) : Option (ByteArray) := (spec_l1New.f k l0).bind fun bt101 => ((spec_l5DrawText.f k bt101.1 bt101.2.1 bt101.2.2).bind fun bt105 => ((spec_l1DrawText.f k bt101.1 bt105.2.1 bt105.2.2 (⟨#[97, 98]⟩ : ByteArray) 2).bind fun bt108 => (if bt105.1.size + bt108.1.size ≤ 9223372036854775807 then (some (bt105.1 ++ bt108.1)) else (none))))
theorem spec_DrawUnchunked.mono : ∀ a0 k, LeO (spec_DrawUnchunked.f k a0) (spec_DrawUnchunked.f (k + 1) a0) := by
 intro a0 k
 unfold spec_DrawUnchunked.f
 repeat' first
   | (with_reducible exact spec_l1DrawText.mono _ _ _ _ _ _)
   | (with_reducible exact spec_l1New.mono _ _)
   | (with_reducible exact spec_l5DrawText.mono _ _ _ _)
   | (with_reducible exact LeO.refl _)
   | (with_reducible exact LeO.none _)
   | (with_reducible refine LeO.ite ?_ ?_)
   | (with_reducible refine LeO.bind ?_ (fun _ => ?_))
   | exact spec_l1DrawText.mono _ _ _ _ _ _
   | exact spec_l1New.mono _ _
   | exact spec_l5DrawText.mono _ _ _ _
   | exact LeO.none _
   | refine LeO.ite ?_ ?_
   | refine LeO.bind ?_ (fun _ => ?_)
set_option maxHeartbeats 8000000 in
set_option maxRecDepth 100000 in
theorem spec_DrawUnchunked.calls (k : Nat) (A0 : Option Addr) (c0 : Nat) (l0 : List Int) (r : ByteArray) (w : World) (hr0 : Kd.C (Kd.int .u8) w A0 l0.length l0) (hc0 : l0.length ≤ c0) (h : spec_DrawUnchunked.f k l0 = some r) :
  Calls Tryd.prog 21 #[.slice A0 l0.length c0] w fun e w' => e = .returned (.string r) ∧ Below w.heap.size w w' := by
 have HR0 := Aside0.mk hr0
 have HC0 := Aside0.mk hc0
 clear hr0 hc0
 have HB := Aside0.mk (Below.refl w.heap.size w)
 have H : ((spec_l1New.f k l0).bind fun bt101 => ((spec_l5DrawText.f k bt101.1 bt101.2.1 bt101.2.2).bind fun bt105 => ((spec_l1DrawText.f k bt101.1 bt105.2.1 bt105.2.2 (⟨#[97, 98]⟩ : ByteArray) 2).bind fun bt108 => (if bt105.1.size + bt108.1.size ≤ 9223372036854775807 then (some (bt105.1 ++ bt108.1)) else (none))))) = some r := h
 clear h
 obtain ⟨⟨t101, t102, t103⟩, A20, H⟩ := Option.bind_eq_some_iff.mp H
 try dsimp only at H
 have A2 := Aside0.mk A20
 clear A20
 obtain ⟨⟨t105, t106, t107⟩, A30, H⟩ := Option.bind_eq_some_iff.mp H
 try dsimp only at H
 have A3 := Aside0.mk A30
 clear A30
 obtain ⟨⟨t108, t109, t110⟩, A40, H⟩ := Option.bind_eq_some_iff.mp H
 try dsimp only at H
 have A4 := Aside0.mk A40
 clear A40
 by_cases c5 : t105.size + t108.size ≤ 9223372036854775807
 ·
  rw [if_pos c5] at H
  have c5b0 := eq_true c5
  have c5b1 : decide (t105.size + t108.size ≤ 9223372036854775807) = true := decide_eq_true c5
  try have c5b2 : (9223372036854775807 < t105.size + t108.size) = False := eq_false (Nat.not_lt.2 c5)
  obtain rfl := Option.some.inj H
  go_enter Tryd.func21, Tryd.ntmps21
  go_wp2_with (first | ((with_reducible refine gate_callee (f := 34) rfl ?_); refine goesL_ (some 5) rfl rfl Tryd.func34 (by kernel_rfl) rfl #[.slice A0 l0.length c0] rfl mc ?_; (with_reducible refine (spec_l1New.calls k _ _ l0 t101 t102 t103 w _ ?side1 ?side2 ?side3 A2.out).mono ?_); (case side1 => exact zbh); (case side2 => exact HR0.out); (case side3 => exact HC0.out); rintro e w6 ⟨g104, rfl, hi, hb, hb2⟩; refine ⟨_, rfl, ?_⟩; have HI104 := Aside0.mk (hi); replace HB := Aside0.mk (hb); (try clear hb); (try clear hb2); (try clear hk); (try clear hi)) | ((with_reducible refine gate_callee (f := 53) rfl ?_); refine goesL_ (some 7) rfl rfl Tryd.func53 (by kernel_rfl) rfl #[.pointer (some ⟨g104, 0, none⟩)] rfl mc ?_; (with_reducible refine (spec_l5DrawText.calls k g104 t101 t102 t103 t105 t106 t107 w _ ?side1 ?side2 A3.out).mono ?_); (case side1 => repeat (first | (with_reducible first | exact HI104.out | apply IsS76.alloc | apply IsS76.drewN | apply IsS76.drew | apply IsS76.set_1 | apply IsS76.set_2) | exact HI104.out)); (case side2 => repeat (first | (with_reducible first | exact HB.out | apply below_alloc | apply pw_below_drewN | apply below_drew1 | refine below_set ?_ (IsS76.ge HI104.out)) | exact HB.out)); rintro e w7 ⟨rfl, hi, hb, hk⟩; refine ⟨_, rfl, ?_⟩; replace HI104 := Aside0.mk (hi); replace HB := Aside0.mk (hb); (try clear hb); (try clear hb2); (try clear hk); (try clear hi)) | ((with_reducible refine gate_callee (f := 37) rfl ?_); refine goesL_ (some 9) rfl rfl Tryd.func37 (by kernel_rfl) rfl #[.pointer (some ⟨g104, 0, none⟩), .string (⟨#[97, 98]⟩ : ByteArray), .int .i64 2] rfl mc ?_; (with_reducible refine (spec_l1DrawText.calls k g104 t101 t106 t107 (⟨#[97, 98]⟩ : ByteArray) 2 t108 t109 t110 w _ ?side1 ?side2 A4.out).mono ?_); (case side1 => repeat (first | (with_reducible first | exact HI104.out | apply IsS76.alloc | apply IsS76.drewN | apply IsS76.drew | apply IsS76.set_1 | apply IsS76.set_2) | exact HI104.out)); (case side2 => repeat (first | (with_reducible first | exact HB.out | apply below_alloc | apply pw_below_drewN | apply below_drew1 | refine below_set ?_ (IsS76.ge HI104.out)) | exact HB.out)); rintro e w8 ⟨rfl, hi, hb, hk⟩; refine ⟨_, rfl, ?_⟩; replace HI104 := Aside0.mk (hi); replace HB := Aside0.mk (hb); (try clear hb); (try clear hb2); (try clear hk); (try clear hi)))
  go_ret
  exact ⟨er, by repeat (first | (with_reducible first | exact HB.out | apply below_alloc | apply pw_below_drewN | apply below_drew1 | refine below_set ?_ (IsS76.ge HI104.out)) | exact HB.out)⟩
 ·
  rw [if_neg c5] at H
  exact absurd H (by simp)
end Go.Proofs.YtfbgpjhnjdhpcaaDoor.P
namespace Go.Proofs.YtfbgpjhnjdhpcaaDoor.Q
set_option linter.unusedVariables false
set_option linter.unusedSimpArgs false
open Go.RowKit Go.Proofs.YtfbgpjhnjdhpcaaDoor.P Go.Proofs.YtfbgpjhnjdhpcaaDoorW.PrintWords Go.Proofs.YtfbgpjhnjdhpcaaDoorW.PrintLast Go.Proofs.YtfbgpjhnjdhpcaaDoorW.PrintMore

/-- From some number of rounds on it answers, and the answer is as told. -/
def TotP {α : Type} (g : Nat → Option α) (P : α → Prop) : Prop := ∃ r, Ev g r ∧ P r
theorem TotP.bind {α β : Type} {g : Nat → Option α} {f : Nat → α → Option β} {P : α → Prop} {Q : β → Prop} (h : TotP g P) (k : ∀ a, P a → TotP (fun n => f n a) Q) : TotP (fun n => (g n).bind (f n)) Q := by
  obtain ⟨a, ha, pa⟩ := h
  obtain ⟨b, hb, qb⟩ := k a pa
  exact ⟨b, Ev.bind ha hb, qb⟩
theorem TotP.of {α : Type} {x : Option α} {P : α → Prop} (h : ∃ r, x = some r ∧ P r) : TotP (fun _ => x) P := by
  obtain ⟨r, e, p⟩ := h
  exact ⟨r, ev_const e, p⟩
theorem TotP.now {α : Type} {r : α} {P : α → Prop} (p : P r) : TotP (fun _ => some r) P := ⟨r, Ev.now r, p⟩
theorem TotP.imp {α : Type} {g : Nat → Option α} {P Q : α → Prop} (h : TotP g P) (pq : ∀ r, P r → Q r) : TotP g Q := by
  obtain ⟨r, e, p⟩ := h
  exact ⟨r, e, pq r p⟩
theorem TotP.step {α : Type} {g f : Nat → Option α} {P : α → Prop} (h : ∀ k, g (k + 1) = f k) (t : TotP f P) : TotP g P := by
  obtain ⟨r, e, p⟩ := t
  exact ⟨r, Ev.step h e, p⟩
theorem TotP.ite {α : Type} {c : Prop} [Decidable c] {f g : Nat → Option α} {P : α → Prop} (hf : c → TotP f P) (hg : ¬ c → TotP g P) : TotP (fun k => if c then f k else g k) P := by
  by_cases h : c
  · simp only [if_pos h]; exact hf h
  · simp only [if_neg h]; exact hg h
theorem bindOf {α β : Type} {x : Option α} {f : α → Option β} {P : α → Prop} {Q : β → Prop} (h : ∃ r, x = some r ∧ P r) (k : ∀ a, P a → ∃ r, f a = some r ∧ Q r) : ∃ r, x.bind f = some r ∧ Q r := by
  obtain ⟨a, rfl, p⟩ := h
  exact k a p

theorem and255 (a : Int) : 0 ≤ Go.bits .and .i64 a 255 ∧ Go.bits .and .i64 a 255 ≤ 255 := by
  unfold Go.bits
  have h : ((BitVec.ofInt IntKind.i64.bits a) &&& (BitVec.ofInt IntKind.i64.bits 255)).toNat ≤ 255 := by
    rw [BitVec.toNat_and]
    exact Nat.le_trans Nat.and_le_right (by decide)
  show 0 ≤ IntKind.i64.wrap ((((BitVec.ofInt IntKind.i64.bits a) &&& (BitVec.ofInt IntKind.i64.bits 255)).toNat : Nat) : Int) ∧ IntKind.i64.wrap ((((BitVec.ofInt IntKind.i64.bits a) &&& (BitVec.ofInt IntKind.i64.bits 255)).toNat : Nat) : Int) ≤ 255
  generalize ((BitVec.ofInt IntKind.i64.bits a) &&& (BitVec.ofInt IntKind.i64.bits 255)).toNat = n at h ⊢
  rw [IntKind.wrap_i64]
  omega
/-- The cursor's place is no negative number. -/
theorem byte_ok (b : List Int) (i h : Int) (h0 : 0 ≤ i) (hb : b.length ≤ 140737488351232) : ∃ r : Int × Int × Int, spec_l1Byte.f b i h = some r ∧ (0 ≤ r.1 ∧ r.1 ≤ 255 ∧ 0 ≤ r.2.1) := by
  unfold spec_l1Byte.f
  by_cases hi : i < (b.length : Int)
  · rw [if_pos hi, if_pos h0]
    exact ⟨_, rfl, (and255 _).1, (and255 _).2, by show 0 ≤ wrap64 (i + 1); rw [wrap_in (by omega) (by omega)]; omega⟩
  · rw [if_neg hi]
    exact ⟨_, rfl, (and255 _).1, (and255 _).2, h0⟩
theorem below_ok (b : List Int) (i h n : Int) (h0 : 0 ≤ i) (hb : b.length ≤ 140737488351232) :
    ∃ r : Int × Int × Int, spec_l1Below.f b i h n = some r ∧ (0 ≤ r.1 ∧ (0 < n → r.1 < n) ∧ (n ≤ 0 → r.1 = 0) ∧ 0 ≤ r.2.1) := by
  unfold spec_l1Below.f
  by_cases hn : n ≤ 0
  · rw [if_pos hn]
    exact ⟨_, rfl, by show (0 : Int) ≤ 0; omega, fun h => by omega, fun _ => rfl, h0⟩
  · rw [if_neg hn]
    by_cases h2 : n ≤ 256
    · rw [if_pos h2]
      refine bindOf (byte_ok b i h h0 hb) fun r ⟨r0, r1, r2⟩ => ?_
      rw [if_neg (by omega)]
      refine ⟨_, rfl, ?_, fun _ => ?_, fun h => by omega, r2⟩
      · show 0 ≤ Int.tmod r.1 n
        rw [Int.tmod_eq_emod_of_nonneg r0]; exact Int.emod_nonneg _ (by omega)
      · show Int.tmod r.1 n < n
        rw [Int.tmod_eq_emod_of_nonneg r0]; exact Int.emod_lt_of_pos _ (by omega)
    · rw [if_neg h2]
      refine bindOf (byte_ok b i h h0 hb) fun r ⟨r0, r1, r2⟩ => ?_
      refine bindOf (byte_ok b _ _ r2 hb) fun s ⟨s0, s1, s2⟩ => ?_
      refine bindOf (byte_ok b _ _ s2 hb) fun t ⟨t0, t1, t2⟩ => ?_
      refine bindOf (byte_ok b _ _ t2 hb) fun u ⟨u0, u1, u2⟩ => ?_
      rw [if_neg (by omega)]
      rw [wrap_in (i := r.1 * 16777216) (by omega) (by omega), wrap_in (i := s.1 * 65536) (by omega) (by omega), wrap_in (i := r.1 * 16777216 + s.1 * 65536) (by omega) (by omega), wrap_in (i := t.1 * 256) (by omega) (by omega), wrap_in (i := r.1 * 16777216 + s.1 * 65536 + t.1 * 256) (by omega) (by omega), wrap_in (i := r.1 * 16777216 + s.1 * 65536 + t.1 * 256 + u.1) (by omega) (by omega)]
      refine ⟨_, rfl, ?_, fun _ => ?_, fun h => by omega, u2⟩
      · show 0 ≤ Int.tmod _ n
        rw [Int.tmod_eq_emod_of_nonneg (by omega)]; exact Int.emod_nonneg _ (by omega)
      · show Int.tmod _ n < n
        rw [Int.tmod_eq_emod_of_nonneg (by omega)]; exact Int.emod_lt_of_pos _ (by omega)
theorem once_ok (b : List Int) (i h n : Int) (h0 : 0 ≤ i) (hb : b.length ≤ 140737488351232) :
    ∃ r : Bool × Int × Int, spec_l1Once.f b i h n = some r ∧ 0 ≤ r.2.1 := by
  unfold spec_l1Once.f
  exact bindOf (below_ok b i h n h0 hb) fun r ⟨_, _, _, r3⟩ => ⟨_, rfl, r3⟩
theorem new_loop (b : List Int) (hb : b.length ≤ 140737488351232) (d : Nat) : ∀ (i : Nat) (x : Int), i + d = b.length → ∃ h, ∀ k, d < k → spec_l1New.l0 k b x (i : Int) = some (b, 0, h) := by
  induction d with
  | zero =>
    intro i x hd
    refine ⟨x, fun k hk => ?_⟩
    obtain ⟨k, rfl⟩ : ∃ z, k = z + 1 := ⟨k - 1, by omega⟩
    simp only [spec_l1New.l0]
    rw [if_neg (by omega)]
  | succ d ih =>
    intro i x hd
    obtain ⟨h, hh⟩ := ih (i + 1) (Go.bits .and .i64 (wrap64 ((wrap64 ((wrap64 (x * 137)) + (wrap64 (rd b (i : Int))))) + 11)) 1073741823) (by omega)
    refine ⟨h, fun k hk => ?_⟩
    obtain ⟨k, rfl⟩ : ∃ z, k = z + 1 := ⟨k - 1, by omega⟩
    simp only [spec_l1New.l0]
    rw [if_pos (by omega), if_pos (by omega), wrap_in (i := (i : Int) + 1) (by omega) (by omega)]
    exact hh k (by omega)
theorem new_ok (b : List Int) (hb : b.length ≤ 140737488351232) : TotP (fun k => spec_l1New.f k b) (fun r => r.1 = b ∧ 0 ≤ r.2.1) := by
  obtain ⟨h, hh⟩ := new_loop b hb b.length 0 (wrap64 (109013 + (b.length : Int))) (by omega)
  refine ⟨(b, 0, h), ⟨b.length + 1, fun k hk => ?_⟩, rfl, by show (0 : Int) ≤ 0; omega⟩
  unfold spec_l1New.f
  exact hh k (by omega)
end Go.Proofs.YtfbgpjhnjdhpcaaDoor.Q
namespace Go.Proofs.YtfbgpjhnjdhpcaaDoor.P
open Go.RowKit Go.Proofs.YtfbgpjhnjdhpcaaDoorW.PrintWords Go.Proofs.YtfbgpjhnjdhpcaaDoorW.PrintLast Go.Proofs.YtfbgpjhnjdhpcaaDoorW.PrintMore
attribute [local go_sem] max2_int min2_int max_two min_two max_three min_three max_four min_four   -- for this text's walks alone
set_option linter.unusedVariables false
set_option linter.unusedSimpArgs false

/-! ### laws_pick: function 25 -/
def laws_pick.l0 : Nat → List Int → Int → Int → Int → Int → Option (Int)
 | 0, _, _, _, _, _ => none
 | k + 1, x0, x1, x2, x7, x8 => if x8 < (x0.length : Int) then (if 0 ≤ x8 then (laws_pick.l0 k x0 x1 x2 (Int.tmod (wrap64 ((wrap64 ((wrap64 (x7 * 113)) + (wrap64 (rd x0 x8)))) + x1)) 1000003) (wrap64 (x8 + 1))) else (none)) else (if x2 = 0 then (none) else (some (Int.tmod x7 x2)))
def laws_pick.f (k : Nat) (l0 : List Int) (a1 : Int) (a2 : Int) : Option (Int) := laws_pick.l0 k l0 a1 a2 (wrap64 ((l0.length : Int) + (wrap64 (7919 * a1)))) 0
theorem laws_pick.mono_l : ∀ k, (∀ y0 y1 y2 y3 y4, LeO (laws_pick.l0 k y0 y1 y2 y3 y4) (laws_pick.l0 (k + 1) y0 y1 y2 y3 y4))
 | 0 => fun _ _ _ _ _ r h => by simp [laws_pick.l0] at h
 | k + 1 => by
  have ih0 := laws_pick.mono_l k
  ·
   intro y0 y1 y2 y3 y4
   unfold laws_pick.l0
   repeat' first
   | (with_reducible exact ih0 _ _ _ _ _)
   | (with_reducible exact LeO.refl _)
   | (with_reducible exact LeO.none _)
   | (with_reducible refine LeO.ite ?_ ?_)
   | (with_reducible refine LeO.bind ?_ (fun _ => ?_))
   | exact ih0 _ _ _ _ _
   | exact LeO.none _
   | refine LeO.ite ?_ ?_
   | refine LeO.bind ?_ (fun _ => ?_)
theorem laws_pick.mono : ∀ a0 a1 a2 k, LeO (laws_pick.f k a0 a1 a2) (laws_pick.f (k + 1) a0 a1 a2) := by
 intro a0 a1 a2 k
 have ih0 := laws_pick.mono_l k
 unfold laws_pick.f
 repeat' first
   | (with_reducible exact ih0 _ _ _ _ _)
   | (with_reducible exact LeO.refl _)
   | (with_reducible exact LeO.none _)
   | (with_reducible refine LeO.ite ?_ ?_)
   | (with_reducible refine LeO.bind ?_ (fun _ => ?_))
   | exact ih0 _ _ _ _ _
   | exact LeO.none _
   | refine LeO.ite ?_ ?_
   | refine LeO.bind ?_ (fun _ => ?_)
set_option maxHeartbeats 8000000 in
set_option maxRecDepth 100000 in
theorem laws_pick.calls (k : Nat) (A0 : Option Addr) (c0 : Nat) (l0 : List Int) (a1 : Int) (a2 : Int) (r : Int) (w : World) (hr0 : Kd.C (Kd.int .u8) w A0 l0.length l0) (hc0 : l0.length ≤ c0) (h : laws_pick.f k l0 a1 a2 = some r) :
  Calls Tryd.prog 25 #[.slice A0 l0.length c0, .int .i64 a1, .int .i64 a2] w fun e w' => e = .returned (.int .i64 r) ∧ Drawn0 w w' := by
 have HR0 := Aside0.mk hr0
 have HC0 := Aside0.mk hc0
 clear hr0 hc0
 have H : (laws_pick.l0 k l0 a1 a2 (wrap64 ((l0.length : Int) + (wrap64 (7919 * a1)))) 0) = some r := h
 clear h
 have H' := Aside0.mk H
 clear H
 go_enter Tryd.func25, Tryd.ntmps25
 go_wp2
 go_loopg [7, 8] k (fun kq v7 v8 w' => ∃ (x7_1 : Int) (x8_1 : Int), v7 = .int .i64 x7_1 ∧ v8 = .int .i64 x8_1 ∧ Aside0 (laws_pick.l0 kq l0 a1 a2 x7_1 x8_1 = some r) ∧ Aside0 (kq ≤ k) ∧ Drawn0 w w')
 case atStart => exact ⟨(wrap64 ((l0.length : Int) + (wrap64 (7919 * a1)))), (0), (by first | rfl | (simp; done) | (simp [*]; done)), (by first | rfl | (simp; done) | (simp [*]; done)), H', ⟨Nat.le_refl _⟩, by repeat (first | exact Drawn0.refl _ | apply Drawn0.step)⟩
 case round =>
  clear H'
  try clear c2
  try clear p2
  obtain ⟨x7_1, x8_1, rfl, rfl, HA, HK1, ⟨m1, rfl⟩⟩ := hrel
  cases gk with
  | zero => exact absurd HA.out (by simp [laws_pick.l0])
  | succ k1 =>
   have H := HA.out
   clear HA
   simp only [laws_pick.l0] at H
   by_cases c4 : x8_1 < (l0.length : Int)
   ·
    rw [if_pos c4] at H
    have c4b0 : decide (x8_1 < (l0.length : Int)) = true := decide_eq_true c4
    clear c4
    by_cases c5 : 0 ≤ x8_1
    ·
     rw [if_pos c5] at H
     have c5b0 : decide (0 ≤ x8_1) = true := decide_eq_true c5
     clear c5
     have H' := Aside0.mk H
     clear H
     have p101 : 0 ≤ (x8_1 : Int) := of_decide_eq_true (by first | (with_reducible assumption) | assumption)
     have q101 : x8_1 < (l0.length : Int) := of_decide_eq_true (by first | (with_reducible assumption) | assumption)
     obtain ⟨ad101, e101, hx101_0⟩ := Kd.at_int HR0.out x8_1 p101 q101
     cases e101
     replace p101 := eq_true p101
     replace q101 := eq_true q101
     go_wp2
     go_roundg k1
     case measure => have := HK1.out; omega
     case rel => exact ⟨(Int.tmod (wrap64 ((wrap64 ((wrap64 (x7_1 * 113)) + (wrap64 (rd l0 x8_1)))) + a1)) 1000003), (wrap64 (x8_1 + 1)), (by first | rfl | (simp; done) | (simp [*]; done)), (by first | rfl | (simp; done) | (simp [*]; done)), H', ⟨by have := HK1.out; omega⟩, by repeat (first | exact Drawn0.refl _ | apply Drawn0.step)⟩
    ·
     rw [if_neg c5] at H
     exact absurd H (by simp)
   ·
    rw [if_neg c4] at H
    have c4b0 : decide (x8_1 < (l0.length : Int)) = false := decide_eq_false c4
    clear c4
    by_cases c6 : a2 = 0
    ·
     rw [if_pos c6] at H
     exact absurd H (by simp)
    ·
     rw [if_neg c6] at H
     have c6b0 : (a2 == 0) = false := beq_eq_false_iff_ne.mpr c6
     have c6b1 : (a2 != 0) = true := bne_iff_ne.mpr c6
     obtain rfl := Option.some.inj H
     go_wp2
     go_ret
     exact ⟨by first | rfl | (simp; done) | (simp [*]; done), by repeat (first | exact Drawn0.refl _ | apply Drawn0.step)⟩
end Go.Proofs.YtfbgpjhnjdhpcaaDoor.P
namespace Go.Proofs.YtfbgpjhnjdhpcaaDoor.Q
set_option linter.unusedVariables false
set_option linter.unusedSimpArgs false
open Go.RowKit Go.Proofs.YtfbgpjhnjdhpcaaDoor.P Go.Proofs.YtfbgpjhnjdhpcaaDoorW.PrintWords Go.Proofs.YtfbgpjhnjdhpcaaDoorW.PrintLast Go.Proofs.YtfbgpjhnjdhpcaaDoorW.PrintMore

theorem strOfNums_size (l : List Int) : (strOfNums l).size = l.length := by
  show (strOfNums l).data.size = _
  rw [← Array.length_toList, strOfNums_data, List.length_map]
theorem drawText_end (b : List Int) (hb : b.length ≤ 140737488351232) (x : List Int) (i h : Int) (h0 : 0 ≤ i) (k : Nat) : ∃ r, spec_l1DrawText.j1 (k + 1) x (decide ((x.length : Int) > 0)) b i h = some r ∧ (0 ≤ r.2.1 ∧ r.1.size = x.length) := by
  simp only [spec_l1DrawText.j1]
  by_cases hx : (x.length : Int) > 0
  · rw [decide_eq_true hx, if_pos rfl]
    refine bindOf (below_ok b i h _ h0 hb) fun r0 p0 => ?_
    refine bindOf (byte_ok b _ _ p0.2.2.2 hb) fun r1 p1 => ?_
    rw [if_pos p0.1, if_pos (p0.2.1 (by omega))]
    exact ⟨_, rfl, p1.2.2, by show (strOfNums _).size = _; rw [strOfNums_size, List.length_set]⟩
  · rw [decide_eq_false hx, if_neg (by simp)]
    exact ⟨_, rfl, h0, by show (strOfNums _).size = _; rw [strOfNums_size]⟩
theorem drawText_stop (b : List Int) (hb : b.length ≤ 140737488351232) (x : List Int) (i h : Int) (h0 : 0 ≤ i) (k : Nat) : ∃ r, spec_l1DrawText.j1 (k + 1) x false b i h = some r ∧ (0 ≤ r.2.1 ∧ r.1.size = x.length) := by
  simp only [spec_l1DrawText.j1]
  rw [if_neg (by simp)]
  exact ⟨_, rfl, h0, by show (strOfNums _).size = _; rw [strOfNums_size]⟩
theorem drawText_loop (b : List Int) (hb : b.length ≤ 140737488351232) (signs : ByteArray) (hs : 0 < signs.size) (d : Nat) : ∀ (x : List Int) (i h : Int), 0 ≤ i → x.length + d ≤ 1000000 →
    ∃ r, (0 ≤ r.2.1 ∧ r.1.size = x.length + d) ∧ ∀ k, d + 1 < k → spec_l1DrawText.l0 k signs x (d : Int) b i h = some r := by
  induction d with
  | zero =>
    intro x i h h0 hd
    obtain ⟨r0, e0, p0⟩ := once_ok b i h 14 h0 hb
    by_cases hc : r0.1 = true
    · obtain ⟨r1, _, p1⟩ := drawText_end b hb x r0.2.1 r0.2.2 p0 0
      refine ⟨r1, p1, fun k hk => ?_⟩
      obtain ⟨k, rfl⟩ : ∃ z, k = z + 2 := ⟨k - 2, by omega⟩
      simp only [spec_l1DrawText.l0]
      rw [if_neg (by omega), e0]
      simp only [Option.bind_some]
      rw [if_pos hc]
      obtain ⟨r2, e2, _⟩ := drawText_end b hb x r0.2.1 r0.2.2 p0 k
      have e3 : spec_l1DrawText.j1 (k + 1) x (decide ((x.length : Int) > 0)) b r0.2.1 r0.2.2 = spec_l1DrawText.j1 (0 + 1) x (decide ((x.length : Int) > 0)) b r0.2.1 r0.2.2 := by simp only [spec_l1DrawText.j1]
      rw [e3]
      assumption
    · refine ⟨(strOfNums x, r0.2.1, r0.2.2), ⟨p0, by show (strOfNums x).size = _; rw [strOfNums_size]; rfl⟩, fun k hk => ?_⟩
      obtain ⟨k, rfl⟩ : ∃ z, k = z + 2 := ⟨k - 2, by omega⟩
      simp only [spec_l1DrawText.l0]
      rw [if_neg (by omega), e0]
      simp only [Option.bind_some]
      rw [if_neg hc]
      simp only [spec_l1DrawText.j1]
      rw [if_neg (by simp)]
  | succ d ih =>
    intro x i h h0 hd
    obtain ⟨r0, e0, p0⟩ := below_ok b i h (signs.size : Int) h0 hb
    obtain ⟨r, p, hr⟩ := ih (x ++ [bt signs r0.1]) r0.2.1 r0.2.2 p0.2.2.2 (by rw [List.length_append, List.length_singleton]; omega)
    refine ⟨r, ⟨p.1, by rw [p.2, List.length_append, List.length_singleton]; omega⟩, fun k hk => ?_⟩
    obtain ⟨k, rfl⟩ : ∃ z, k = z + 1 := ⟨k - 1, by omega⟩
    simp only [spec_l1DrawText.l0]
    rw [if_pos (by omega), e0]
    simp only [Option.bind_some]
    rw [if_pos p0.1, if_pos (p0.2.1 (by omega)), if_pos (by omega), wrap_in (i := ((d + 1 : Nat) : Int) - 1) (by omega) (by omega), show ((d + 1 : Nat) : Int) - 1 = (d : Int) by omega]
    exact hr k (by omega)
theorem drawText_ok (b : List Int) (hb : b.length ≤ 140737488351232) (i h : Int) (h0 : 0 ≤ i) (signs : ByteArray) (hs : 0 < signs.size) (m : Int) (m0 : 0 ≤ m) (m1 : m ≤ 1000) :
    TotP (fun k => spec_l1DrawText.f k b i h signs m) (fun r => 0 ≤ r.2.1 ∧ r.1.size ≤ m.toNat) := by
  unfold spec_l1DrawText.f
  rw [wrap_in (i := m + 1) (by omega) (by omega)]
  refine TotP.bind (TotP.of (below_ok b i h _ h0 hb)) fun r0 p0 => ?_
  obtain ⟨r, p, hr⟩ := drawText_loop b hb signs hs r0.1.toNat [] r0.2.1 r0.2.2 p0.2.2.2 (by have := p0.2.1 (by omega); simp only [List.length_nil]; omega)
  refine ⟨r, ⟨r0.1.toNat + 2, fun k hk => ?_⟩, p.1, by rw [p.2]; have := p0.2.1 (by omega); simp only [List.length_nil]; omega⟩
  have := hr k (by omega)
  rw [Int.toNat_of_nonneg p0.1] at this
  exact this
theorem rd_byte (b : List Int) (hx : ∀ x ∈ b, 0 ≤ x ∧ x ≤ 255) (i : Int) : 0 ≤ rd b i ∧ rd b i ≤ 255 := by
  unfold rd
  rw [List.getD_eq_getElem?_getD]
  cases h : b[i.toNat]? with
  | none => exact ⟨by decide, by decide⟩
  | some v => exact hx v (List.mem_of_getElem? h)
theorem pick_loop (b : List Int) (hb : b.length ≤ 140737488351232) (hx : ∀ x ∈ b, 0 ≤ x ∧ x ≤ 255) (s n : Int) (hs : 0 ≤ s ∧ s ≤ 1000) (hn : 0 < n) (d : Nat) : ∀ (i : Nat) (x : Int), i + d = b.length → 0 ≤ x → x ≤ 9000000000000000 → (∃ r, (0 ≤ r ∧ r < n) ∧ ∀ k, d < k → laws_pick.l0 k b s n x (i : Int) = some r) := by
  induction d with
  | zero =>
    intro i x hd x0 x1
    refine ⟨Int.tmod x n, ?_, fun k hk => ?_⟩
    · rw [Int.tmod_eq_emod_of_nonneg x0]; exact ⟨Int.emod_nonneg _ (by omega), Int.emod_lt_of_pos _ hn⟩
    obtain ⟨k, rfl⟩ : ∃ z, k = z + 1 := ⟨k - 1, by omega⟩
    simp only [laws_pick.l0]
    rw [if_neg (by omega), if_neg (by omega)]
  | succ d ih =>
    intro i x hd x0 x1
    have hr := rd_byte b hx (i : Int)
    have e : wrap64 ((wrap64 ((wrap64 (x * 113)) + (wrap64 (rd b (i : Int))))) + s) = x * 113 + rd b (i : Int) + s := by
      rw [wrap_in (i := x * 113) (by omega) (by omega), wrap_in (i := rd b (i : Int)) (by omega) (by omega), wrap_in (i := x * 113 + rd b (i : Int)) (by omega) (by omega), wrap_in (by omega) (by omega)]
    have e1 : 0 ≤ Int.tmod (x * 113 + rd b (i : Int) + s) 1000003 ∧ Int.tmod (x * 113 + rd b (i : Int) + s) 1000003 ≤ 9000000000000000 := by
      rw [Int.tmod_eq_emod_of_nonneg (by omega)]
      omega
    obtain ⟨r, p, hr⟩ := ih (i + 1) (Int.tmod (x * 113 + rd b (i : Int) + s) 1000003) (by omega) e1.1 e1.2
    refine ⟨r, p, fun k hk => ?_⟩
    obtain ⟨k, rfl⟩ : ∃ z, k = z + 1 := ⟨k - 1, by omega⟩
    simp only [laws_pick.l0]
    rw [if_pos (by omega), if_pos (by omega), wrap_in (i := (i : Int) + 1) (by omega) (by omega), e]
    exact hr k (by omega)
theorem pick_ok (b : List Int) (hb : b.length ≤ 140737488351232) (hx : ∀ x ∈ b, 0 ≤ x ∧ x ≤ 255) (s n : Int) (hs : 0 ≤ s ∧ s ≤ 1000) (hn : 0 < n) : TotP (fun k => laws_pick.f k b s n) (fun r => 0 ≤ r ∧ r < n) := by
  have e : wrap64 ((b.length : Int) + (wrap64 (7919 * s))) = b.length + 7919 * s := by rw [wrap_in (i := 7919 * s) (by omega) (by omega), wrap_in (by omega) (by omega)]
  obtain ⟨r, p, hr⟩ := pick_loop b hb hx s n hs hn b.length 0 ((b.length : Int) + 7919 * s) (by omega) (by omega) (by omega)
  refine ⟨r, ⟨b.length + 1, fun k hk => ?_⟩, p⟩
  unfold laws_pick.f
  rw [e]
  exact hr k (by omega)
end Go.Proofs.YtfbgpjhnjdhpcaaDoor.Q
namespace Go.Proofs.YtfbgpjhnjdhpcaaDoor.Q
set_option linter.unusedVariables false
set_option linter.unusedSimpArgs false
open Go.RowKit Go.Proofs.YtfbgpjhnjdhpcaaDoor.P Go.Proofs.YtfbgpjhnjdhpcaaDoorW.PrintWords
theorem bendL_ok (b : List Int) (hb : b.length ≤ 140737488351232) (s : ByteArray) (hs : 0 < s.size) (d : Nat) : ∀ (x : List Int) (i h : Int), 0 ≤ i → x.length + d < 1000000000 → TotP (fun k => bendL s b k x (d : Int) i h) (fun r => r.1.size ≤ x.length + d ∧ 0 ≤ r.2.1) := by
  induction d with
  | zero =>
    intro x i h h0 hx
    refine TotP.step (f := fun _ => some (strOfNums x, i, h)) (fun k => ?_) (TotP.now ⟨by show (strOfNums x).size ≤ _; rw [strOfNums_size]; omega, h0⟩)
    rw [bendL, if_neg (fun q => absurd q.1 (by omega))]
  | succ d ih =>
    intro x i h h0 hx
    by_cases hn : 0 < x.length
    · have hw : wrap64 (((d + 1 : Nat) : Int) - 1) = (d : Int) := by rw [wrap_in (by omega) (by omega)]; omega
      refine TotP.step (f := fun k => (spec_l1Below.f b i h (x.length : Int)).bind fun r1 => (spec_l1Below.f b r1.2.1 r1.2.2 4).bind fun r2 =>
        if 0 ≤ r1.1 ∧ r1.1 < (x.length : Int) ∧ x.length < 1000000000 then
          if r2.1 = 0 then (spec_l1Below.f b r2.2.1 r2.2.2 (s.size : Int)).bind fun r3 => if 0 ≤ r3.1 ∧ r3.1 < (s.size : Int) then bendL s b k (x.set r1.1.toNat (bt s r3.1)) (d : Int) r3.2.1 r3.2.2 else none
          else if r2.1 = 1 then bendL s b k (x.take r1.1.toNat) (d : Int) r2.2.1 r2.2.2
          else if r2.1 = 2 then bendL s b k (x.take r1.1.toNat ++ x.drop (r1.1 + 1).toNat) (d : Int) r2.2.1 r2.2.2
          else if r2.1 = 3 then (spec_l1Below.f b r2.2.1 r2.2.2 (s.size : Int)).bind fun r3 => if 0 ≤ r3.1 ∧ r3.1 < (s.size : Int) then bendL s b k (x.take r1.1.toNat ++ [bt s r3.1] ++ x.drop r1.1.toNat) (d : Int) r3.2.1 r3.2.2 else none
          else bendL s b k x (d : Int) r2.2.1 r2.2.2
        else none) (fun k => ?_) ?_
      · rw [bendL, if_pos ⟨by omega, hn⟩, hw]
      · refine TotP.bind (TotP.of (below_ok b i h (x.length : Int) h0 hb)) fun r1 p1 => TotP.bind (TotP.of (below_ok b _ _ 4 p1.2.2.2 hb)) fun r2 p2 => ?_
        have hr1 := p1.2.1 (by omega)
        have hr0 := p1.1
        refine TotP.ite (fun _ => ?_) (fun c => absurd ⟨hr0, hr1, by omega⟩ c)
        refine TotP.ite (fun _ => ?_) fun _ => TotP.ite (fun _ => ?_) fun _ => TotP.ite (fun _ => ?_) fun _ => TotP.ite (fun _ => ?_) fun _ => ?_
        · refine TotP.bind (TotP.of (below_ok b _ _ (s.size : Int) p2.2.2.2 hb)) fun r3 p3 => TotP.ite (fun _ => ?_) (fun c => absurd ⟨p3.1, p3.2.1 (by omega)⟩ c)
          have hl : (x.set r1.1.toNat (bt s r3.1)).length = x.length := List.length_set
          exact (ih _ _ _ p3.2.2.2 (by omega)).imp fun r hr => ⟨by omega, hr.2⟩
        · have hl : (x.take r1.1.toNat).length ≤ x.length := by rw [List.length_take]; omega
          exact (ih _ _ _ p2.2.2.2 (by omega)).imp fun r hr => ⟨by omega, hr.2⟩
        · have hl : (x.take r1.1.toNat ++ x.drop (r1.1 + 1).toNat).length ≤ x.length := by rw [List.length_append, List.length_take, List.length_drop]; omega
          exact (ih _ _ _ p2.2.2.2 (by omega)).imp fun r hr => ⟨by omega, hr.2⟩
        · refine TotP.bind (TotP.of (below_ok b _ _ (s.size : Int) p2.2.2.2 hb)) fun r3 p3 => TotP.ite (fun _ => ?_) (fun c => absurd ⟨p3.1, p3.2.1 (by omega)⟩ c)
          have hl : (x.take r1.1.toNat ++ [bt s r3.1] ++ x.drop r1.1.toNat).length ≤ x.length + 1 := by rw [List.length_append, List.length_append, List.length_take, List.length_drop, List.length_singleton]; omega
          exact (ih _ _ _ p3.2.2.2 (by omega)).imp fun r hr => ⟨by omega, hr.2⟩
        · exact (ih _ _ _ p2.2.2.2 (by omega)).imp fun r hr => ⟨by omega, hr.2⟩
    · refine TotP.step (f := fun _ => some (strOfNums x, i, h)) (fun k => ?_) (TotP.now ⟨by show (strOfNums x).size ≤ _; rw [strOfNums_size]; omega, h0⟩)
      rw [bendL, if_neg (fun q => hn q.2)]
theorem bend_ok (b : List Int) (hb : b.length ≤ 140737488351232) (t s : ByteArray) (ht : t.size ≤ 100000000) (hs : 0 < s.size) (i h : Int) (h0 : 0 ≤ i) : TotP (fun k => spec_l1Bend.f k b i h t s) (fun r => r.1.size ≤ t.size + 2 ∧ 0 ≤ r.2.1) := by
  unfold spec_l1Bend.f
  refine TotP.ite (fun _ => ?_) (fun c => absurd (by omega) c)
  refine TotP.bind (TotP.of (below_ok b i h 3 h0 hb)) fun r p => ?_
  have h3 := p.2.1 (by decide)
  have h2 := p.1
  have hl := bytesOf_length t
  have := bendL_ok b hb s hs r.1.toNat (bytesOf t) r.2.1 r.2.2 p.2.2.2 (by omega)
  rw [Int.toNat_of_nonneg h2] at this
  exact this.imp fun q hq => ⟨by omega, hq.2⟩
end Go.Proofs.YtfbgpjhnjdhpcaaDoor.Q
namespace Go.Proofs.YtfbgpjhnjdhpcaaDoor.Q
set_option linter.unusedVariables false
set_option linter.unusedSimpArgs false
open Go.RowKit Go.Proofs.YtfbgpjhnjdhpcaaDoor.P Go.Proofs.YtfbgpjhnjdhpcaaDoorW.PrintWords Go.Proofs.YtfbgpjhnjdhpcaaDoorW.PrintLast Go.Proofs.YtfbgpjhnjdhpcaaDoorW.PrintMore
theorem sizes_app (a b : List ByteArray) : sizes (a ++ b) = sizes a + sizes b := by simp [sizes]
theorem sizes_rep (n : Nat) : sizes (List.replicate n (⟨#[]⟩ : ByteArray)) = 0 := by
  induction n with
  | zero => rfl
  | succ n ih => rw [List.replicate_succ, sizes_cons, ih]; rfl
theorem drawParts_loop (b : List Int) (hb : b.length ≤ 140737488351232) (d : Nat) : ∀ (out : List ByteArray) (i h : Int), 0 ≤ i → out.length + d ≤ 10 → sizes out + 20 * d ≤ 200 →
    TotP (fun k => spec_l5DrawParts.l0 k out (d : Int) b i h) (fun r => r.1.length ≤ 101 ∧ sizes r.1 ≤ 4200 ∧ 0 ≤ r.2.1) := by
  induction d with
  | zero =>
    intro out i h h0 hl hs
    refine TotP.step (fun k => by simp only [spec_l5DrawParts.l0]; rw [if_neg (by omega)]) (TotP.bind (TotP.of (once_ok b i h 30 h0 hb)) fun r1 p1 => TotP.ite (fun _ => ?_) (fun _ => TotP.now ⟨by show out.length ≤ 101; omega, by show sizes out ≤ 4200; omega, p1⟩))
    refine TotP.bind (TotP.of (below_ok b _ _ 2 p1 hb)) fun r2 p2 => TotP.ite (fun _ => ?_) (fun _ => TotP.ite (fun _ => ?_) (fun _ => TotP.now ⟨by show out.length ≤ 101; omega, by show sizes out ≤ 4200; omega, p2.2.2.2⟩))
    · refine TotP.bind (TotP.of (below_ok b _ _ 2 p2.2.2.2 hb)) fun r3 p3 => ?_
      have h2 := p3.2.1 (by decide)
      have h3 := p3.1
      have hw : wrap64 (100 + r3.1) = 100 + r3.1 := wrap_in (by omega) (by omega)
      rw [hw]
      refine TotP.ite (fun _ => TotP.ite (fun _ => TotP.now ⟨?_, ?_, p3.2.2.2⟩) (fun c => absurd (by omega) c)) (fun c => absurd (by omega) c)
      · rw [List.length_replicate]; omega
      · rw [sizes_rep]; omega
    · refine TotP.bind (TotP.of (below_ok b _ _ 60 p2.2.2.2 hb)) fun r3 p3 => ?_
      have h2 := p3.2.1 (by decide)
      have h3 := p3.1
      have hw : wrap64 (4000 - r3.1) = 4000 - r3.1 := wrap_in (by omega) (by omega)
      rw [hw]
      refine TotP.ite (fun _ => TotP.ite (fun _ => TotP.ite (fun _ => TotP.now ⟨?_, ?_, p3.2.2.2⟩) (fun c => absurd (by omega) c)) (fun c => absurd (by omega) c)) (fun c => absurd (by omega) c)
      · rw [List.length_append, List.length_singleton]; omega
      · rw [sizes_app, sizes_cons, strOfNums_size, List.length_replicate]
        show sizes out + ((4000 - r3.1).toNat + 0) ≤ 4200
        omega
  | succ d ih =>
    intro out i h h0 hl hs
    have hw : wrap64 (((d + 1 : Nat) : Int) - 1) = (d : Int) := by rw [wrap_in (by omega) (by omega)]; omega
    refine TotP.step (fun k => by simp only [spec_l5DrawParts.l0]; rw [if_pos (by omega), hw]) (TotP.bind (drawText_ok b hb _ _ h0 _ (by decide) 20 (by decide) (by decide)) fun r1 p1 => TotP.ite (fun _ => ?_) (fun c => absurd (by omega) c))
    have h20 : r1.1.size ≤ 20 := p1.2
    refine ih (out ++ [r1.1]) _ _ p1.1 (by rw [List.length_append, List.length_singleton]; omega) ?_
    rw [sizes_app, sizes_cons]
    show sizes out + (r1.1.size + 0) + 20 * d ≤ 200
    omega
theorem drawParts_ok (b : List Int) (hb : b.length ≤ 140737488351232) (i h : Int) (h0 : 0 ≤ i) : TotP (fun k => spec_l5DrawParts.f k b i h) (fun r => r.1.length ≤ 101 ∧ sizes r.1 ≤ 4200 ∧ 0 ≤ r.2.1) := by
  unfold spec_l5DrawParts.f
  refine TotP.bind (TotP.of (below_ok b i h 5 h0 hb)) fun r1 p1 => ?_
  have h5 := p1.2.1 (by decide)
  have h1 := p1.1
  have := drawParts_loop b hb r1.1.toNat [] r1.2.1 r1.2.2 p1.2.2.2 (by simp only [List.length_nil]; omega) (by show 0 + 20 * r1.1.toNat ≤ 200; omega)
  rw [Int.toNat_of_nonneg h1] at this
  exact this
theorem chunkedR_size (l : List ByteArray) : (chunkedR l).size ≤ 5000 := by
  unfold chunkedR
  split
  · exact Nat.zero_le _
  · split
    · exact Nat.zero_le _
    · have h := chunksL_le l (by omega)
      show (chunksL l ++ [48, 13, 10, 13, 10]).toArray.size ≤ 5000
      rw [List.size_toArray, List.length_append]
      simp only [List.length_cons, List.length_nil]
      omega
theorem drawChunkText_ok (b : List Int) (hb : b.length ≤ 140737488351232) (i h : Int) (h0 : 0 ≤ i) : TotP (fun k => spec_l5DrawText.f k b i h) (fun r => r.1.size ≤ 5002 ∧ 0 ≤ r.2.1) := by
  unfold spec_l5DrawText.f
  refine TotP.bind (drawParts_ok b hb i h h0) fun r1 p1 => TotP.bind (P := fun r => r = chunkedR r1.1) ⟨_, spec_Chunked_ev r1.1 (by have := p1.1; omega) (by have := p1.2.1; omega), rfl⟩ fun u pu => ?_
  subst pu
  have hz := chunkedR_size r1.1
  refine TotP.bind (TotP.of (once_ok b _ _ 2 p1.2.2 hb)) fun r2 p2 => TotP.ite (fun _ => ?_) (fun _ => TotP.now ⟨by show (chunkedR r1.1).size ≤ 5002; omega, p2⟩)
  refine TotP.bind (bend_ok b hb _ _ (by omega) (by decide) _ _ p2) fun r3 p3 => TotP.now ⟨?_, p3.2⟩
  have := p3.1
  show r3.1.size ≤ 5002
  omega
theorem drawChunked_ok (b : List Int) (hb : b.length ≤ 140737488351232) : TotP (fun k => spec_DrawChunked.f k b) (fun r => r.length ≤ 101 ∧ sizes r ≤ 4200) := by
  unfold spec_DrawChunked.f
  refine TotP.bind (new_ok b hb) fun c pc => ?_
  obtain ⟨c0, c1, c2⟩ := c
  obtain ⟨e, p⟩ := pc
  simp only at e p
  subst e
  exact TotP.bind (drawParts_ok _ hb _ _ p) fun r1 p1 => TotP.now ⟨p1.1, p1.2.1⟩
theorem drawUnchunked_ok (b : List Int) (hb : b.length ≤ 140737488351232) : TotP (fun k => spec_DrawUnchunked.f k b) (fun r => r.size ≤ 5004) := by
  unfold spec_DrawUnchunked.f
  refine TotP.bind (new_ok b hb) fun c pc => ?_
  obtain ⟨c0, c1, c2⟩ := c
  obtain ⟨e, p⟩ := pc
  simp only at e p
  subst e
  refine TotP.bind (drawChunkText_ok _ hb _ _ p) fun r1 p1 => TotP.bind (drawText_ok _ hb _ _ p1.2 _ (by decide) 2 (by decide) (by decide)) fun r2 p2 => ?_
  have h2 : r2.1.size ≤ 2 := p2.2
  have h1 := p1.1
  refine TotP.ite (fun _ => TotP.now ?_) (fun c => absurd (by omega) c)
  rw [ByteArray.size_append]
  omega
def okC (c : Chk) : Bool := chunkerOk c.1 c.2.1 c.2.2.1 c.2.2.2
theorem inB_is (x a b : Int) (h0 : a ≤ x) (h1 : x ≤ b) : inB x a b = true := by unfold inB; simp [h0, h1]
theorem okC_of {st left : Int} {dg bd : ByteArray} (v : Vc (st, left, dg, bd)) (hx : (bytesOf dg).all hexB = true) (hs : chunkState st left dg = true) : okC (st, left, dg, bd) = true := by
  have h0 : 1 ≤ st := v.s0
  have h1 : st ≤ 9 := v.s1
  have h2 : 0 ≤ left := v.l0
  have h3 : left + (bd.size : Int) ≤ 4000 := v.l1
  have h4 : dg.size ≤ 13 := v.d1
  unfold okC chunkerOk
  rw [inB_is st 1 9 h0 h1, inB_is left 0 4000 h2 (by omega), decide_eq_true h4, decide_eq_true (by omega : (bd.size : Int) + left ≤ 4000), hx, hs]
  rfl
theorem okC_parts {st left : Int} {dg bd : ByteArray} (h : okC (st, left, dg, bd) = true) : Vc (st, left, dg, bd) ∧ (bytesOf dg).all hexB = true ∧ chunkState st left dg = true := by
  refine ⟨Vc.of_ok h, ?_⟩
  unfold okC chunkerOk at h
  simp only [Bool.and_eq_true] at h
  exact ⟨h.2.2.2.2.1, h.2.2.2.2.2⟩
theorem e_nil : ((⟨#[]⟩ : ByteArray).toList == ([] : List UInt8)) = true := by
  rw [(toList_nil _).2 rfl]
  rfl
theorem e_hex : (bytesOf (⟨#[]⟩ : ByteArray)).all hexB = true := rfl
theorem okC_eat (c : Chk) (b : Int) (b0 : 0 ≤ b) (b1 : b ≤ 255) (h : okC c = true) : okC (eatC c.1 c.2.1 c.2.2.1 c.2.2.2 b) = true := by
  obtain ⟨st, left, dg, bd⟩ := c
  obtain ⟨v, hx, hs⟩ := okC_parts h
  have ve := v.eat b
  have h0 : 1 ≤ st := v.s0
  have h1 : st ≤ 9 := v.s1
  have h2 : 0 ≤ left := v.l0
  have h3 : left + (bd.size : Int) ≤ 4000 := v.l1
  have h5 : st = 3 → 0 < left := v.l3
  have bad : okC (badC bd) = true := by
    refine okC_of (st := 9) (left := 0) (dg := ⟨#[]⟩) (bd := bd) ⟨by show (1 : Int) ≤ 9; decide, by show (9 : Int) ≤ 9; decide, by show (0 : Int) ≤ 0; decide, by show (0 : Int) + (bd.size : Int) ≤ 4000; omega, Nat.zero_le _, fun h => absurd h (by show ¬ (9 : Int) = 3; decide)⟩ e_hex ?_
    unfold chunkState
    rw [if_neg (by decide), if_neg (by decide), if_neg (by decide), e_nil]
    rfl
  show okC (eatC st left dg bd b) = true
  unfold eatC at ve ⊢
  by_cases c89 : st = 8 ∨ st = 9
  · rw [if_pos c89]; exact h
  rw [if_neg c89] at ve ⊢
  by_cases c1 : st = 1
  · rw [if_pos c1] at ve ⊢
    subst c1
    have hl : left = 0 := by
      unfold chunkState at hs
      rw [if_pos rfl] at hs
      simpa using hs
    by_cases ch : hexB b = true ∧ dg.size < 13
    · rw [if_pos ch] at ve ⊢
      refine okC_of ve ?_ ?_
      · rw [bytes_append, List.all_append, hx, bytes_nums [b] (by simp; omega)]
        simp [ch.1]
      · unfold chunkState
        rw [if_pos rfl, hl]
        rfl
    · rw [if_neg ch] at ve ⊢
      by_cases c13 : b = 13 ∧ (numOk 16 13 hexB dg).2 = true ∧ ¬ (numOk 16 13 hexB dg).1 > 4000 - (bd.size : Int)
      · rw [if_pos c13] at ve ⊢
        refine okC_of ve e_hex ?_
        unfold chunkState
        rw [if_neg (by decide), if_pos rfl, e_nil]
      · rw [if_neg c13]; exact bad
  rw [if_neg c1] at ve ⊢
  by_cases c2 : st = 2
  · rw [if_pos c2] at ve ⊢
    subst c2
    unfold chunkState at hs
    rw [if_neg (by decide), if_pos rfl] at hs
    by_cases c10 : b = 10
    · rw [if_pos c10] at ve ⊢
      by_cases cl : left = 0
      · rw [if_pos cl] at ve ⊢
        refine okC_of ve hx ?_
        unfold chunkState
        rw [if_neg (by decide), if_neg (by decide), if_neg (by decide), hs, decide_eq_true cl]
        rfl
      · rw [if_neg cl] at ve ⊢
        refine okC_of ve hx ?_
        unfold chunkState
        rw [if_neg (by decide), if_neg (by decide), if_pos rfl, hs, decide_eq_true (by omega : left > 0)]
        rfl
    · rw [if_neg c10]; exact bad
  rw [if_neg c2] at ve ⊢
  by_cases c3 : st = 3
  · rw [if_pos c3] at ve ⊢
    subst c3
    have hp := h5 rfl
    unfold chunkState at hs
    rw [if_neg (by decide), if_neg (by decide), if_pos rfl, Bool.and_eq_true] at hs
    by_cases cl : left - 1 = 0
    · rw [if_pos cl] at ve ⊢
      refine okC_of ve hx ?_
      unfold chunkState
      rw [if_neg (by decide), if_neg (by decide), if_neg (by decide), hs.1, decide_eq_true cl]
      rfl
    · rw [if_neg cl] at ve ⊢
      refine okC_of ve hx ?_
      unfold chunkState
      rw [if_neg (by decide), if_neg (by decide), if_pos rfl, hs.1, decide_eq_true (by omega : left - 1 > 0)]
      rfl
  rw [if_neg c3] at ve ⊢
  have hs2 : left = 0 ∧ (dg.toList == ([] : List UInt8)) = true := by
    unfold chunkState at hs
    rw [if_neg c1, if_neg c2, if_neg c3, Bool.and_eq_true, decide_eq_true_eq] at hs
    exact hs
  have rest : ∀ x : Int, ¬ x = 1 → ¬ x = 2 → ¬ x = 3 → Vc (x, left, dg, bd) → okC (x, left, dg, bd) = true := fun x a b c vx => by
    refine okC_of vx hx ?_
    unfold chunkState
    rw [if_neg a, if_neg b, if_neg c, hs2.2, decide_eq_true hs2.1]
    rfl
  have one : Vc (1, left, dg, bd) → okC (1, left, dg, bd) = true := fun vx => by
    refine okC_of vx hx ?_
    unfold chunkState
    rw [if_pos rfl, hs2.1]
    rfl
  by_cases c4 : st = 4
  · rw [if_pos c4] at ve ⊢
    by_cases cb : b = 13
    · rw [if_pos cb] at ve ⊢
      exact rest 5 (by decide) (by decide) (by decide) ve
    · rw [if_neg cb]; exact bad
  rw [if_neg c4] at ve ⊢
  by_cases c5 : st = 5
  · rw [if_pos c5] at ve ⊢
    by_cases cb : b = 10
    · rw [if_pos cb] at ve ⊢
      exact one ve
    · rw [if_neg cb]; exact bad
  rw [if_neg c5] at ve ⊢
  by_cases c6 : st = 6
  · rw [if_pos c6] at ve ⊢
    by_cases cb : b = 13
    · rw [if_pos cb] at ve ⊢
      exact rest 7 (by decide) (by decide) (by decide) ve
    · rw [if_neg cb]; exact bad
  rw [if_neg c6] at ve ⊢
  by_cases cb : b = 10
  · rw [if_pos cb] at ve ⊢
    exact rest 8 (by decide) (by decide) (by decide) ve
  · rw [if_neg cb]; exact bad
/-- What is eaten goes, as far as it is eaten; a right chunker stays right. -/
theorem eat_goes (l : List Int) : ∀ (c : Chk) (n : Int), ∃ m d, m ≤ l.length ∧ goes (l.take m) c = some d ∧ runL eatF eatE l (n, c) = (d.1, d.2.1, d.2.2.1, d.2.2.2, n + (m : Int)) ∧ (m = l.length ∨ ¬ d.1 < 8) := by
  induction l with
  | nil => intro c n; exact ⟨0, c, Nat.le_refl _, rfl, by show (c.1, c.2.1, c.2.2.1, c.2.2.2, n) = _; simp, .inl rfl⟩
  | cons b l ih =>
    intro c n
    by_cases h8 : c.1 < 8
    · obtain ⟨m, d, h1, h2, h3, h4⟩ := ih (eatC c.1 c.2.1 c.2.2.1 c.2.2.2 b) (n + 1)
      refine ⟨m + 1, d, by rw [List.length_cons]; omega, ?_, ?_, ?_⟩
      · rw [List.take_succ_cons, goes, if_pos h8]
        exact h2
      · have e : eatF (n, c) b = .inl (n + 1, eatC c.1 c.2.1 c.2.2.1 c.2.2.2 b) := if_pos h8
        rw [runL, e]
        refine h3.trans ?_
        rw [show n + 1 + (m : Int) = n + ((m + 1 : Nat) : Int) by omega]
      · rcases h4 with h4 | h4
        · exact .inl (by rw [List.length_cons]; omega)
        · exact .inr h4
    · refine ⟨0, c, Nat.zero_le _, rfl, ?_, .inr h8⟩
      rw [runL_done _ n c h8]
      simp
theorem goes_ok (l : List Int) (hl : ∀ b ∈ l, 0 ≤ b ∧ b ≤ 255) : ∀ (c d : Chk), okC c = true → goes l c = some d → okC d = true := by
  induction l with
  | nil => intro c d h e; obtain rfl := Option.some.inj e; exact h
  | cons b l ih =>
    intro c d h e
    unfold goes at e
    by_cases h8 : c.1 < 8
    · rw [if_pos h8] at e
      have hb := hl b List.mem_cons_self
      exact ih (fun x hx => hl x (List.mem_cons_of_mem _ hx)) _ d (okC_eat c b hb.1 hb.2 h) e
    · rw [if_neg h8] at e; cases e
theorem size_of_ok {c : Chk} (h : okC c = true) : c.2.2.2.size ≤ 4000 := by
  obtain ⟨st, left, dg, bd⟩ := c
  have v := (okC_parts h).1
  have a : 0 ≤ left := v.l0
  have b : left + (bd.size : Int) ≤ 4000 := v.l1
  show bd.size ≤ 4000
  omega
theorem impl_Eat_ok (c : Chk) (b : Int) (b0 : 0 ≤ b) (b1 : b ≤ 255) (h : okC c = true) : Ev (fun k => impl_Eat.f k c.1 c.2.1 c.2.2.1 c.2.2.2 b) (eatC c.1 c.2.1 c.2.2.1 c.2.2.2 b) := by
  obtain ⟨st, left, dg, bd⟩ := c
  have hz : bd.size ≤ 4000 := size_of_ok h
  have h1 := impl_ChunkerOk_ev st left dg bd (by omega)
  have hc : chunkerOk st left dg bd = true := h
  rw [hc] at h1
  show Ev (fun k => impl_Eat.f k st left dg bd b) (eatC st left dg bd b)
  unfold impl_Eat.f
  refine Ev.bind h1 ?_
  simp only [if_true]
  exact Ev.bind (impl_eat_ev st left dg bd b (Vc.of_ok hc) b0 b1) (Ev.now _)
theorem spec_Eat_ok (c : Chk) (b : Int) (b0 : 0 ≤ b) (b1 : b ≤ 255) (h : okC c = true) : Ev (fun k => spec_Eat.f k c.1 c.2.1 c.2.2.1 c.2.2.2 b) (eatC c.1 c.2.1 c.2.2.1 c.2.2.2 b) := by
  obtain ⟨st, left, dg, bd⟩ := c
  have hz : bd.size ≤ 4000 := size_of_ok h
  have h1 := spec_ChunkerOk_ev st left dg bd (by omega)
  have hc : chunkerOk st left dg bd = true := h
  rw [hc] at h1
  show Ev (fun k => spec_Eat.f k st left dg bd b) (eatC st left dg bd b)
  unfold spec_Eat.f
  refine Ev.bind h1 ?_
  simp only [if_true]
  exact Ev.bind (spec_l5Eat_ev st left dg bd b (Vc.of_ok hc) b0 b1) (Ev.now _)
def noC : Chk := (0, 0, (⟨#[]⟩ : ByteArray), (⟨#[]⟩ : ByteArray))
theorem impl_Eat_no (c : Chk) (b : Int) (hz : c.2.2.2.size ≤ 100000) (h : okC c = false) : Ev (fun k => impl_Eat.f k c.1 c.2.1 c.2.2.1 c.2.2.2 b) noC := by
  obtain ⟨st, left, dg, bd⟩ := c
  have hz : bd.size ≤ 100000 := hz
  have h1 := impl_ChunkerOk_ev st left dg bd (by omega)
  have hc : chunkerOk st left dg bd = false := h
  rw [hc] at h1
  show Ev (fun k => impl_Eat.f k st left dg bd b) noC
  unfold impl_Eat.f
  refine Ev.bind h1 ?_
  simp only [Bool.false_eq_true, if_false]
  exact Ev.now _
theorem spec_Eat_no (c : Chk) (b : Int) (hz : c.2.2.2.size ≤ 100000) (h : okC c = false) : Ev (fun k => spec_Eat.f k c.1 c.2.1 c.2.2.1 c.2.2.2 b) noC := by
  obtain ⟨st, left, dg, bd⟩ := c
  have hz : bd.size ≤ 100000 := hz
  have h1 := spec_ChunkerOk_ev st left dg bd (by omega)
  have hc : chunkerOk st left dg bd = false := h
  rw [hc] at h1
  show Ev (fun k => spec_Eat.f k st left dg bd b) noC
  unfold spec_Eat.f
  refine Ev.bind h1 ?_
  simp only [Bool.false_eq_true, if_false]
  exact Ev.now _
def eatAllR (c : Chk) (s : ByteArray) : Int × Int × ByteArray × ByteArray × Int := if okC c = true then eatL c s else (0, 0, (⟨#[]⟩ : ByteArray), (⟨#[]⟩ : ByteArray), 0)
theorem impl_EatAll_ev (c : Chk) (s : ByteArray) (hz : c.2.2.2.size ≤ 100000) (hs : s.size ≤ 100000) : Ev (fun k => impl_EatAll.f k c.1 c.2.1 c.2.2.1 c.2.2.2 s) (eatAllR c s) := by
  obtain ⟨st, left, dg, bd⟩ := c
  have hz : bd.size ≤ 100000 := hz
  have h1 := impl_ChunkerOk_ev st left dg bd (by omega)
  show Ev (fun k => impl_EatAll.f k st left dg bd s) _
  unfold impl_EatAll.f
  refine Ev.bind h1 ?_
  unfold eatAllR
  by_cases hc : chunkerOk st left dg bd = true
  · have hc2 : okC (st, left, dg, bd) = true := hc
    simp only [hc, if_true]
    rw [if_pos hc2]
    exact Ev.bind (impl_eatL_ev s (by omega) st left dg bd (Vc.of_ok hc)) (Ev.now _)
  · have hc2 : ¬ okC (st, left, dg, bd) = true := hc
    simp only [if_neg hc]
    rw [if_neg hc2]
    exact Ev.now _
theorem spec_EatAll_ev (c : Chk) (s : ByteArray) (hz : c.2.2.2.size ≤ 100000) (hs : s.size ≤ 100000) : Ev (fun k => spec_EatAll.f k c.1 c.2.1 c.2.2.1 c.2.2.2 s) (eatAllR c s) := by
  obtain ⟨st, left, dg, bd⟩ := c
  have hz : bd.size ≤ 100000 := hz
  have h1 := spec_ChunkerOk_ev st left dg bd (by omega)
  show Ev (fun k => spec_EatAll.f k st left dg bd s) _
  unfold spec_EatAll.f
  refine Ev.bind h1 ?_
  unfold eatAllR
  by_cases hc : chunkerOk st left dg bd = true
  · have hc2 : okC (st, left, dg, bd) = true := hc
    simp only [hc, if_true]
    rw [if_pos hc2]
    exact spec_eatL_ev s (by omega) st left dg bd (Vc.of_ok hc)
  · have hc2 : ¬ okC (st, left, dg, bd) = true := hc
    simp only [if_neg hc]
    rw [if_neg hc2]
    exact Ev.now _
theorem okC0 : okC chk0 = true := by decide +kernel
/-- What a drawn chunker's parts keep to. -/
theorem drawAny_ok (b : List Int) (hb : b.length ≤ 140737488351232) (i h : Int) (h0 : 0 ≤ i) : TotP (fun k => spec_l5DrawAny.f k b i h) (fun r => r.2.2.2.1.size ≤ 5000 ∧ 0 ≤ r.2.2.2.2.1) := by
  unfold spec_l5DrawAny.f
  refine TotP.bind (drawChunkText_ok b hb i h h0) fun s ps => ?_
  have hsz := ps.1
  refine TotP.bind (TotP.of (below_ok b _ _ _ ps.2 hb)) fun r1 p1 => ?_
  rw [wrap_in (i := (s.1.size : Int) + 1) (by omega) (by omega)] at p1
  have hlt := p1.2.1 (by omega)
  have hge := p1.1
  refine TotP.ite (fun _ => TotP.ite (fun _ => ?_) (fun c => absurd (by omega) c)) (fun c => absurd (by omega) c)
  have hxz : (s.1.extract 0 r1.1.toNat).size ≤ 100000 := by rw [ByteArray.size_extract]; omega
  have hev := spec_EatAll_ev chk0 (s.1.extract 0 r1.1.toNat) (by decide) hxz
  obtain ⟨m, d, _, hg, he, _⟩ := eat_goes (bytesOf (s.1.extract 0 r1.1.toNat)) chk0 0
  have hd := goes_ok _ (fun x hx => mem_bytes (List.mem_of_mem_take hx)) _ d okC0 hg
  have hdz := size_of_ok hd
  have e : eatAllR chk0 (s.1.extract 0 r1.1.toNat) = (d.1, d.2.1, d.2.2.1, d.2.2.2, 0 + (m : Int)) := by
    unfold eatAllR
    rw [if_pos okC0]
    exact he
  rw [e] at hev
  refine TotP.bind (P := fun r => r = (d.1, d.2.1, d.2.2.1, d.2.2.2, 0 + (m : Int))) ⟨_, hev, rfl⟩ fun r2 p2 => ?_
  subst p2
  have g : ∀ (x y : Int) (dg : ByteArray) (j hh : Int), 0 ≤ j → (fun r : Int × Int × ByteArray × ByteArray × Int × Int => r.2.2.2.1.size ≤ 5000 ∧ 0 ≤ r.2.2.2.2.1) (x, y, dg, d.2.2.2, j, hh) := fun x y dg j hh hj => ⟨by show d.2.2.2.size ≤ 5000; omega, hj⟩
  refine TotP.bind (TotP.of (once_ok b _ _ 10 p1.2.2.2 hb)) fun r3 p3 => TotP.ite (fun _ => ?_) (fun _ => TotP.now (g _ _ _ _ _ p3))
  refine TotP.bind (TotP.of (below_ok b _ _ 4 p3 hb)) fun r4 p4 => TotP.ite (fun _ => ?_) (fun _ => TotP.ite (fun _ => ?_) (fun _ => TotP.ite (fun _ => ?_) (fun _ => TotP.ite (fun _ => ?_) (fun _ => TotP.now (g _ _ _ _ _ p4.2.2.2)))))
  · have hf : ∃ r : Int × Int × Int, spec_l1From.f b r4.2.1 r4.2.2 0 11 = some r ∧ 0 ≤ r.2.1 := by
      unfold spec_l1From.f
      exact bindOf (below_ok b _ _ _ p4.2.2.2 hb) fun r ⟨_, _, _, r3⟩ => ⟨_, rfl, r3⟩
    exact TotP.bind (TotP.of hf) fun r5 p5 => TotP.now (g _ _ _ _ _ p5)
  · refine TotP.bind (TotP.of ⟨_, rfl, rfl⟩) fun (y : List Int) (ey : _ = y) => ?_
    subst ey
    refine TotP.bind (TotP.of (below_ok b _ _ 6 p4.2.2.2 hb)) fun r5 p5 => TotP.ite (fun _ => TotP.ite (fun _ => TotP.now (g _ _ _ _ _ p5.2.2.2)) (fun c => absurd (p5.2.1 (by decide)) c)) (fun c => absurd p5.1 c)
  · refine TotP.bind (TotP.of ⟨_, rfl, rfl⟩) fun (y : List ByteArray) (ey : _ = y) => ?_
    subst ey
    refine TotP.bind (TotP.of (below_ok b _ _ 4 p4.2.2.2 hb)) fun r5 p5 => TotP.ite (fun _ => TotP.ite (fun _ => TotP.now (g _ _ _ _ _ p5.2.2.2)) (fun c => absurd (p5.2.1 (by decide)) c)) (fun c => absurd p5.1 c)
  · refine TotP.bind (TotP.of (below_ok b _ _ 2 p4.2.2.2 hb)) fun r5 p5 => ?_
    have a0 := p5.1
    have a1 := p5.2.1 (by decide)
    have hw : wrap64 (4000 + r5.1) = 4000 + r5.1 := wrap_in (by omega) (by omega)
    rw [hw]
    refine TotP.ite (fun _ => TotP.ite (fun _ => TotP.now ⟨?_, p5.2.2.2⟩) (fun c => absurd (by omega) c)) (fun c => absurd (by omega) c)
    show (strOfNums (List.replicate (4000 + r5.1).toNat 0)).size ≤ 5000
    rw [strOfNums_size, List.length_replicate]
    omega
theorem drawEat_ok (b : List Int) (hb : b.length ≤ 140737488351232) : TotP (fun k => spec_DrawEat.f k b) (fun r => r.2.2.2.1.size ≤ 5000 ∧ 0 ≤ r.2.2.2.2 ∧ r.2.2.2.2 ≤ 255) := by
  unfold spec_DrawEat.f
  refine TotP.bind (new_ok b hb) fun c pc => ?_
  obtain ⟨c0, c1, c2⟩ := c
  obtain ⟨e, p⟩ := pc
  simp only at e p
  subst e
  refine TotP.bind (drawAny_ok _ hb _ _ p) fun r1 p1 => TotP.bind (TotP.of (byte_ok _ _ _ p1.2 hb)) fun r2 p2 => ?_
  refine TotP.bind (TotP.of ⟨_, rfl, rfl⟩) fun (y : List Int) (ey : _ = y) => ?_
  subst ey
  refine TotP.bind (TotP.of (below_ok _ _ _ 7 p2.2.2 hb)) fun r3 p3 => TotP.ite (fun _ => TotP.ite (fun _ => TotP.now ⟨p1.1, ?_⟩) (fun c => absurd (p3.2.1 (by decide)) c)) (fun c => absurd p3.1 c)
  have q : ∀ j : Int, 0 ≤ rd [13, 10, 48, 97, 70, 120, r2.1 % 256] j ∧ rd [13, 10, 48, 97, 70, 120, r2.1 % 256] j ≤ 255 := fun j => rd_byte _ (by
    intro x hx
    simp only [List.mem_cons, List.not_mem_nil, or_false] at hx
    omega) j
  exact q r3.1
theorem drawEatAll_ok (b : List Int) (hb : b.length ≤ 140737488351232) : TotP (fun k => spec_DrawEatAll.f k b) (fun r => r.2.2.2.1.size ≤ 5000 ∧ r.2.2.2.2.size ≤ 6000) := by
  unfold spec_DrawEatAll.f
  refine TotP.bind (new_ok b hb) fun c pc => ?_
  obtain ⟨c0, c1, c2⟩ := c
  obtain ⟨e, p⟩ := pc
  simp only at e p
  subst e
  refine TotP.bind (drawAny_ok _ hb _ _ p) fun r1 p1 => TotP.bind (TotP.of (once_ok _ _ _ 2 p1.2 hb)) fun r2 p2 => TotP.ite (fun _ => ?_) (fun _ => ?_)
  · exact TotP.bind (drawChunkText_ok _ hb _ _ p2) fun r3 p3 => TotP.now ⟨by show 0 ≤ 5000; decide, by have := p3.1; show r3.1.size ≤ 6000; omega⟩
  · exact TotP.bind (drawChunkText_ok _ hb _ _ p2) fun r3 p3 => TotP.now ⟨p1.1, by have := p3.1; show r3.1.size ≤ 6000; omega⟩
end Go.Proofs.YtfbgpjhnjdhpcaaDoor.Q
namespace Go.Proofs.YtfbgpjhnjdhpcaaDoor.Pure
set_option linter.unusedVariables false
set_option linter.unusedSimpArgs false
open Go.RowKit Go.Proofs.YtfbgpjhnjdhpcaaDoor.P Go.Proofs.YtfbgpjhnjdhpcaaDoor.Q Go.Proofs.YtfbgpjhnjdhpcaaDoorW.PrintWords
theorem eaten_loop (s : ByteArray) (hs : s.size ≤ 100000) (m : Nat) (hm : m ≤ s.size) (y : Chk) (hy : okC y = true) (hend : m = s.size ∨ ¬ y.1 < 8) (d : Nat) : ∀ (i : Nat) (c : Chk), i + d = m → okC c = true → goes (((bytesOf s).take m).drop i) c = some y →
  Ev (fun k => laws_FnEaten.l0 k s (m : Int) (i : Int) y.1 y.2.1 y.2.2.1 y.2.2.2 c.1 c.2.1 c.2.2.1 c.2.2.2) true := by
 induction d with
 | zero =>
  intro i c hd hc hg
  rw [List.drop_of_length_le (by rw [List.length_take]; omega)] at hg
  obtain rfl : c = y := Option.some.inj hg
  obtain ⟨st, left, dg, bd⟩ := c
  have hz : bd.size ≤ 4000 := size_of_ok hc
  have h1 := impl_ChunkerOk_ev st left dg bd (by omega)
  have hc2 : chunkerOk st left dg bd = true := hc
  rw [hc2] at h1
  refine Ev.step (f := fun k => (impl_ChunkerOk.f k st left dg bd).bind fun t146 => (if t146 = true then (if (m : Int) = (s.size : Int) then (some true) else (some (decide (st ≥ 8)))) else (some false))) (fun k => ?_) (Ev.bind h1 ?_)
  ·
   simp only [laws_FnEaten.l0]
   rw [if_neg (by omega), if_pos (by simp)]
  ·
   simp only [if_true]
   by_cases he : (m : Int) = (s.size : Int)
   ·
    simp only [if_pos he]
    exact Ev.now _
   ·
    simp only [if_neg he]
    have h8 : ¬ st < 8 := hend.resolve_left (by omega)
    rw [decide_eq_true (by omega : st ≥ 8)]
    exact Ev.now _
 | succ d ih =>
  intro i c hd hc hg
  have hi : i < s.size := by omega
  have hlt : i < ((bytesOf s).take m).length := by rw [List.length_take, bytesOf_length]; omega
  have hb := bt_range s i
  have hget : ((bytesOf s).take m)[i]'hlt = bt s i := by
   rw [List.getElem_take]
   have := bt_get s i hi
   rw [List.getElem?_eq_getElem (by rw [bytesOf_length]; exact hi)] at this
   exact Option.some.inj this
  rw [List.drop_eq_getElem_cons hlt, hget] at hg
  unfold goes at hg
  by_cases h8 : c.1 < 8
  ·
   rw [if_pos h8] at hg
   have next := ih (i + 1) _ (by omega) (okC_eat c (bt s i) hb.1 hb.2 hc) hg
   refine Ev.step (f := fun k => (impl_Eat.f k c.1 c.2.1 c.2.2.1 c.2.2.2 (bt s (i : Int))).bind fun bt142 => (laws_FnEaten.l0 k s (m : Int) ((i + 1 : Nat) : Int) y.1 y.2.1 y.2.2.1 y.2.2.2 bt142.1 bt142.2.1 bt142.2.2.1 bt142.2.2.2)) (fun k => ?_) (Ev.bind (impl_Eat_ok c (bt s i) hb.1 hb.2 hc) next)
   simp only [laws_FnEaten.l0]
   rw [if_pos (by omega), if_pos (by omega), if_pos (by omega), wrap_in (i := (i : Int) + 1) (by omega) (by omega), show ((i : Int) + 1) = ((i + 1 : Nat) : Int) by omega]
  ·
   rw [if_neg h8] at hg; cases hg
theorem eaten_j1 (s : ByteArray) (hs : s.size ≤ 100000) (c x d : Chk) (hc : c.2.2.2.size ≤ 100000) (hd : d.2.2.2.size ≤ 100000) (hx : x = noC ∨ okC x = true) (hxc : okC c = true → okC x = true) (hxn : okC c = false → x = noC) :
  Ev (fun k => laws_FnEaten.j1 k s (eatAllR d s).2.2.2.2 false c.1 c.2.1 c.2.2.1 c.2.2.2 x.1 x.2.1 x.2.2.1 x.2.2.2 d.1 d.2.1 d.2.2.1 d.2.2.2 (eatAllR d s).1 (eatAllR d s).2.1 (eatAllR d s).2.2.1 (eatAllR d s).2.2.2.1) true := by
 have h1 := spec_ChunkerOk_ev c.1 c.2.1 c.2.2.1 c.2.2.2 (by omega)
 have e1 : chunkerOk c.1 c.2.1 c.2.2.1 c.2.2.2 = okC c := rfl
 rw [e1] at h1
 refine Ev.step (fun k => by simp only [laws_FnEaten.j1]; rw [if_neg (by simp)]) (Ev.bind h1 ?_)
 cases hcc : okC c with
 | false =>
  simp only [Bool.false_eq_true, if_false]
  rw [hxn hcc]
  refine ev_eq (Ev.now _) ?_
  unfold noC
  simp only [e_nil]
  rfl
 | true =>
  have hxo := hxc hcc
  simp only [if_true]
  have hxz := size_of_ok hxo
  have h2 := impl_ChunkerOk_ev x.1 x.2.1 x.2.2.1 x.2.2.2 (by omega)
  have h2s := spec_ChunkerOk_ev x.1 x.2.1 x.2.2.1 x.2.2.2 (by omega)
  have e2 : chunkerOk x.1 x.2.1 x.2.2.1 x.2.2.2 = true := hxo
  rw [e2] at h2 h2s
  refine Ev.bind h2 ?_
  simp only [if_true]
  have h3 := spec_ChunkerOk_ev d.1 d.2.1 d.2.2.1 d.2.2.2 (by omega)
  have e3 : chunkerOk d.1 d.2.1 d.2.2.1 d.2.2.2 = okC d := rfl
  rw [e3] at h3
  refine Ev.bind h3 ?_
  cases hdd : okC d with
  | false =>
   simp only [Bool.not_false]
   refine Ev.step (fun k => by simp only [laws_FnEaten.j2]; rw [if_pos trivial]) (Ev.bind h2s (Ev.now _))
  | true =>
   simp only [Bool.not_true]
   refine Ev.step (fun k => by simp only [laws_FnEaten.j2]; rw [if_neg (by simp)]) ?_
   obtain ⟨m, y, hm, hg, he, hend⟩ := eat_goes (bytesOf s) d 0
   rw [bytesOf_length] at hm hend
   have hyo := goes_ok _ (fun x hx => mem_bytes (List.mem_of_mem_take hx)) d y hdd hg
   have e : eatAllR d s = (y.1, y.2.1, y.2.2.1, y.2.2.2, (m : Int)) := by
    unfold eatAllR
    rw [if_pos hdd]
    refine Eq.trans he ?_
    rw [Int.zero_add]
   rw [e]
   exact eaten_loop s hs m hm y hyo hend m 0 d (by omega) hdd (by rw [List.drop_zero]; exact hg)
theorem same_no (a b : Int) (s t : ByteArray) : (!(a == a) || (!(b == b) || (!(s.toList == s.toList) || (!(t.toList == t.toList))))) = false := by simp
theorem FnEaten : laws_FnEaten.Pure := by
 intro l hl hs hx
 have hb : l.length ≤ 140737488351232 := by omega
 obtain ⟨⟨c0, c1, c2, c3, b⟩, d1, z1, b0, b1⟩ := drawEat_ok l hb
 obtain ⟨⟨a0, a1, a2, a3, s⟩, d2, z2, z3⟩ := drawEatAll_ok l hb
 simp only at z1 b0 b1 z2 z3
 obtain ⟨x, hI, hS, hx1, hx2⟩ : ∃ x : Chk, Ev (fun k => impl_Eat.f k c0 c1 c2 c3 b) x ∧ Ev (fun k => spec_Eat.f k c0 c1 c2 c3 b) x ∧ (okC (c0, c1, c2, c3) = true → okC x = true) ∧ (okC (c0, c1, c2, c3) = false → x = noC) := by
  cases hc : okC (c0, c1, c2, c3) with
  | true => exact ⟨_, impl_Eat_ok (c0, c1, c2, c3) b b0 b1 hc, spec_Eat_ok (c0, c1, c2, c3) b b0 b1 hc, fun _ => okC_eat (c0, c1, c2, c3) b b0 b1 hc, (fun h => by cases h)⟩
  | false => exact ⟨noC, impl_Eat_no (c0, c1, c2, c3) b (by show c3.size ≤ 100000; omega) hc, spec_Eat_no (c0, c1, c2, c3) b (by show c3.size ≤ 100000; omega) hc, (fun h => by cases h), fun _ => rfl⟩
 have hxx : x = noC ∨ okC x = true := by
  cases hc : okC (c0, c1, c2, c3) with
  | true => exact .inr (hx1 hc)
  | false => exact .inl (hx2 hc)
 have hj1 := eaten_j1 s (by omega) (c0, c1, c2, c3) x (a0, a1, a2, a3) (by show c3.size ≤ 100000; omega) (by show a3.size ≤ 100000; omega) hxx hx1 hx2
 have hj0 : Ev (fun k => laws_FnEaten.j0 k l false c0 c1 c2 c3 x.1 x.2.1 x.2.2.1 x.2.2.2) true := by
  refine Ev.step (fun k => by simp only [laws_FnEaten.j0]; rw [if_neg (by simp)]) (Ev.bind d2 (Ev.bind (impl_EatAll_ev (a0, a1, a2, a3) s (by show a3.size ≤ 100000; omega) (by omega)) (Ev.bind (spec_EatAll_ev (a0, a1, a2, a3) s (by show a3.size ≤ 100000; omega) (by omega)) ?_)))
  simp only [same_no, Bool.false_eq_true, if_false, bne_self_eq_false]
  exact hj1
 have key : Ev (fun k => laws_FnEaten.f k l) true := by
  unfold laws_FnEaten.f laws_big.f
  simp only [Option.bind_some]
  by_cases hb2 : decide ((l.length : Int) > 4096) = true
  ·
   simp only [if_pos hb2]
   exact Ev.now _
  ·
   simp only [if_neg hb2]
   refine Ev.bind d1 (Ev.bind hI (Ev.bind hS ?_))
   simp only [same_no, Bool.false_eq_true, if_false]
   refine Ev.bind (impl_ChunkerOk_ev c0 c1 c2 c3 (by omega)) (Ev.bind (spec_ChunkerOk_ev c0 c1 c2 c3 (by omega)) ?_)
   simp only [bne_self_eq_false]
   exact hj0
 obtain ⟨K, hK⟩ := key
 exact ⟨K, hK K (Nat.le_refl _)⟩
end Go.Proofs.YtfbgpjhnjdhpcaaDoor.Pure
namespace Go.Proofs.YtfbgpjhnjdhpcaaDoor.fnEaten
open Go.ChangeShapes Go.WideShapes Go.ChangeAt Go.RowKit
open Go.ChangeMaps (open_string shut_string)
set_option linter.unusedVariables false
theorem own : ownKnob Tryd.prog.godebug = none := by kernel_rfl
theorem laidOut : laidOutB Tryd.prog = true := by kernel_rfl
def IsRow (k : IntKind) (w : World) (a : Option Addr) (len cap : Nat) (zs : List Int) : Prop :=
  (a = none ∧ len = 0 ∧ cap = 0 ∧ zs = []) ∨
  ∃ x, a = some x ∧ len ≤ cap ∧ cap ≤ maxLen ∧ zs.length = cap ∧ (∀ i, i < zs.length → w.cell? (x.add i) = some (.int k (zs.getD i 0))) ∧ ∀ n ∈ zs, (Lit.int k n).wf = true
set_option maxRecDepth 100000 in
theorem lifted (os : Os) (started : os.Started) (H : Type) (enc : TypeId × Value → H) :
    ReturnsInHanded {} Tryd.checked os 5 .any (fun w args => (Rows.fnEatenSpec.pre enc Tryd.prog Tryd.f5 [] false w args ∧ laidMetH Tryd.prog Rows.fnEatenRow.laid w) ∧ sizedMet enc Tryd.prog Tryd.f5 (OpenSpec.ofChange Rows.fnEatenSpec) false w args) (Rows.fnEatenSpec.post enc Tryd.prog Tryd.f5 false true false false) := by
  refine RowAid.handed_both (C := Tryd.checked) (X := fun w _ => laidMetH Tryd.prog Rows.fnEatenRow.laid w) (fun _ _ _ hh h => h.of_heap hh) own started (by kernel_rfl) Tryd.func5
    (ChangeSpec.witness_shaped (enc := enc) (C := Tryd.checked) (os := os) (X := fun w _ => laidMetH Tryd.prog Rows.fnEatenRow.laid w) false (World.laidAll Tryd.prog os Rows.fnEatenRow.laid) #[.slice none 0 0] 8 (World.laidAll_os _ _ _)
      (World.shaped_of_ZipB (by kernel_rfl) (by kernel_rfl)) (by kernel_rfl) (by kernel_rfl) (by kernel_rfl)
      (by rw [MakeChecks.laidMetH_plain _ _ _ (by kernel_rfl)]; exact laidMet_laidAll _ (by kernel_rfl) (by kernel_rfl))) ?_
  intro W base args ds gs before hval0 hW hcnd hsz0 hL hSh _
  have hsz : (DataW.weightsEach Tryd.prog (Tryd.f5.params.toList ++ Rows.fnEatenSpec.plain.varTypes Tryd.prog) (ds ++ gs)).all (· ≤ reachBytes) = true := hsz0
  have hval : ∀ (j : Nat) t v, Tryd.f5.params[j]? = some t → args[j]? = some v → Value.okWide Tryd.prog W .any base t v := hval0
  have hW' := hW
  obtain ⟨p, q, hA0, hV, rfl, hfz, hnd⟩ := hW
  have hA : DataW.TrodAll enc Tryd.prog W 0 (fun _ => true) true Tryd.f5.params.toList args.toList ds p := hA0
  rw [Tryd.params5] at hA hval hsz
  obtain ⟨v0, vs0, d0, ds0, p0, q0, hargs, rfl, rfl, h0, r0⟩ := trodAll_cons hA
  obtain ⟨rfl, rfl, rfl⟩ := trodAll_nil r0
  obtain rfl : args = #[v0] := by cases args; simp_all
  obtain ⟨rfl, rfl⟩ := trodVars_none hV
  obtain ⟨a0, len0, cap0, rfl⟩ := okWide_slice Tryd.underlying22 (hval 0 22 v0 rfl rfl)
  have k0 := h0
  have lt0 : ∀ x ∈ p0, x.block < W.heap.size := by obtain ⟨m, hm⟩ := k0; exact DataW.trod_lt m _ _ _ hm
  obtain ⟨z0, w0⟩ : ∃ zs, IsRow .u8 W a0 len0 cap0 zs := by
    obtain ⟨fuel, hf⟩ := h0
    rcases open_ints Tryd.underlying22 Tryd.underlying5 (by kernel_rfl) hf with ⟨hcs, _⟩ | ⟨x, l, c, zs, hcs, _, hl, hm, hz, _, hcell, hwz⟩
    · simp [Value.cells] at hcs
      obtain ⟨rfl, rfl, rfl⟩ := hcs
      exact ⟨[], .inl ⟨rfl, rfl, rfl, rfl⟩⟩
    · simp [Value.cells] at hcs
      obtain ⟨rfl, rfl, rfl⟩ := hcs
      exact ⟨zs, .inr ⟨_, rfl, hl, hm, by simpa using hz, hcell, hwz⟩⟩
  have y0 : len0 * 1 ≤ 140737488351232 := Go.Proofs.YtfbgpjhnjdhpcaaDoorW.PrintWords.sized_ints hsz (j := 0) (t := 22) rfl rfl Tryd.underlying22 Tryd.underlying5 (by kernel_rfl) (by kernel_rfl) h0
  clear hA0 hval0 hsz0 hsz
  refine (P.laws_FnEaten.walk Pure.FnEaten a0 len0 cap0 z0 W w0 y0).mono fun e W' ⟨he, bel⟩ => ?_
  subst he
  exact ⟨_, rfl, _, _, _, [], _, [], hW', trodAll_mk1 (shut_bool Tryd.underlying4 _), (trodAll_cons_mk (Below.trod laidOut (by kernel_rfl) (of_decide_eq_true (by kernel_rfl)) k0 bel lt0) trodAll_mk0), rfl, bel.frame _, fun h => by cases h⟩
theorem over : Rows.fnEatenRow.holds Tryd.pinned (OpenSpec.ofChange Rows.fnEatenSpec) :=
  OpenClaim.holds_of_wide 5 Tryd.f5 rfl rfl rfl rfl rfl rfl rfl ⟨rfl, rfl, rfl, rfl, rfl⟩ rfl rfl rfl rfl rfl (by kernel_rfl) Tryd.func5 (by kernel_rfl)
    (of_decide_eq_true (by kernel_rfl)) (by unfold Func.isWrapper; first | (rw [if_pos (by decide +kernel)]; kernel_rfl) | (rw [if_neg (by decide +kernel)]; exact ⟨rfl, rfl⟩))
    (fun os started H enc _ => lifted os started H enc)
theorem proved : Rows.FnEatenSaid := over
#print axioms proved
end Go.Proofs.YtfbgpjhnjdhpcaaDoor.fnEaten
namespace Go.Proofs.YtfbgpjhnjdhpcaaDoor
/-- The tied card, under a short name, for the claim. -/
theorem fnEaten_card : Rows.FnEatenCardSaid :=
  Claim7.holds_tied_plain_at .later [] [.data, .data, .data, .sentinel, .sentinel] true (true, "78e80f0384d6e2022df3e81acfcb6307d5866df5814ad4cc6640037b35f23dbb") true
    fnEaten.proved (fun _ h => by cases h) (by kernel_rfl) (fun _ h => by cases h) fnEaten_row_tie rfl ⟨rfl, rfl⟩ (by kernel_rfl) rfl
    (fun f fn hf hfn => by
      obtain rfl : f = 5 := Option.some.inj ((show Tryd.prog.funcNamed "loop.example/g00207/laws.FnEaten" = some 5 by kernel_rfl).symm.trans hf) |>.symm
      obtain rfl : fn = Tryd.f5 := (Option.some.inj (Tryd.func5.symm.trans hfn)).symm
      exact ⟨by kernel_rfl, fun j t ht => by
        rw [Tryd.params5] at ht
        have hm : t ∈ [22] := by simpa using Array.mem_of_getElem? ht
        have hall : ([22].all fun u => !Tryd.prog.wantsStandIn u) = true := by kernel_rfl
        exact (show Tryd.prog.wantsStandIn t = false by simpa using List.all_eq_true.1 hall t hm)⟩)
    (by kernel_rfl)
#print axioms fnEaten_card
end Go.Proofs.YtfbgpjhnjdhpcaaDoor
