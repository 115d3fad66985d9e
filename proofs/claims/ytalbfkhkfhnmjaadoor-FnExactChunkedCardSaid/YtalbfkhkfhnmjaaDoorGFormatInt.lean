/-
  strconv.FormatInt at base 10 (and at base 16, where the program uses it), as the printed callers take it: the numeral. Condition: the library's tables hold what they are laid with.
-/
import Derived.Test.YtalbfkhkfhnmjaaDoorShelf
import Derived.Test.YtalbfkhkfhnmjaaDoorGFormatBits
import Derived.Test.YtalbfkhkfhnmjaaDoorP0
import Derived.Test.YtalbfkhkfhnmjaaDoorGFormatBits
import Derived.Test.YtalbfkhkfhnmjaaDoorXW
namespace Go.Proofs.YtalbfkhkfhnmjaaDoor.P
set_option linter.unusedVariables false
set_option linter.unusedSimpArgs false
open Go.RowKit Go.Proofs.YtalbfkhkfhnmjaaDoorW.PrintWords Go.Proofs.YtalbfkhkfhnmjaaDoorW.PrintLast Go.Proofs.YtalbfkhkfhnmjaaDoorW.PrintMore

set_option maxHeartbeats 2000000 in
theorem internal_FormatInt16 (n : Nat) (hn : n < 1152921504606846976) (w : World) (ht : Lib.TabIs Tryd.prog w "math/bits.deBruijn64tab" .u8 deBruijn64Tab) :
    Calls Tryd.prog 80 #[.int .i64 n, .int .i64 16] w fun e w' => e = .returned (.string (strOfNums (hexL n))) ∧ Below w.heap.size w w' := by
  have hc := formatBits16 n hn w ht
  have hw : IntKind.u64.wrap (n : Int) = (n : Int) := by rw [IntKind.wrap_u64]; omega
  have h0 : ¬ (n : Int) < 0 := by omega
  generalize strOfNums (hexL n) = s at hc ⊢
  go_enter Tryd.func80, Tryd.ntmps80
  go_wp2_with (go_at_call 89; refine hc.mono ?_; rintro e w1 ⟨rfl, hb⟩)
  go_ret
  exact ⟨rfl, hb⟩
theorem FormatInt16 (n : Nat) (hn : n < 1152921504606846976) (w : World) (ht : Lib.TabIs Tryd.prog w "math/bits.deBruijn64tab" .u8 deBruijn64Tab) :
    Calls Tryd.prog 65 #[.int .i64 n, .int .i64 16] w fun e w' => e = .returned (.string (strOfNums (hexL n))) ∧ Below w.heap.size w w' := by
  have hc := internal_FormatInt16 n hn w ht
  generalize strOfNums (hexL n) = s at hc ⊢
  go_enter Tryd.func65, Tryd.ntmps65
  go_wp2_with (go_at_call 80; refine hc.mono ?_; rintro e w1 ⟨rfl, hb⟩)
  go_ret
  exact ⟨rfl, hb⟩
def strconv_FormatInt.f (a0 a1 : Int) : Option ByteArray :=
  if a1 = 16 ∧ 0 ≤ a0 ∧ a0 < 1152921504606846976 then some (strOfNums (hexL a0.toNat)) else
  if a1 = 10 ∧ -9223372036854775808 ≤ a0 ∧ a0 ≤ 9223372036854775807 then some ⟨(Lib.itoa a0).toArray⟩ else none
theorem strconv_FormatInt.calls (a0 a1 : Int) (r : ByteArray) (w : World) (hX : XW 6 w) (h : strconv_FormatInt.f a0 a1 = some r) :
    Calls Tryd.prog 65 #[.int .i64 a0, .int .i64 a1] w fun e w' => e = .returned (.string r) ∧ Below w.heap.size w w' := by
  unfold strconv_FormatInt.f at h
  split at h
  · rename_i hc
    obtain ⟨rfl, h0, h1⟩ := hc
    obtain rfl := Option.some.inj h
    have := FormatInt16 a0.toNat (by omega) w (hX.tz rfl)
    rw [show ((a0.toNat : Nat) : Int) = a0 by omega] at this
    exact this
  split at h
  · rename_i hc
    obtain ⟨rfl, h0, h1⟩ := hc
    obtain rfl := Option.some.inj h
    refine (Tryd.strconv_FormatInt_10 a0 h0 h1 w (hX.pow10 rfl)).mono ?_
    rintro e w' ⟨rfl, k, os, rfl⟩
    exact ⟨rfl, below_grow k os⟩
  · cases h
end Go.Proofs.YtalbfkhkfhnmjaaDoor.P
