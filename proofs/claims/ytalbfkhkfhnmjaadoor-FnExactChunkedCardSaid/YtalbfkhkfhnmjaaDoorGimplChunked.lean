/-
  impl.Chunked: a body in chunks, out of a strings.Builder. Condition: the library's tables are as they were laid.
-/
import Derived.Test.YtalbfkhkfhnmjaaDoorGBuilder
import Derived.Lib.Hide
import Derived.Test.YtalbfkhkfhnmjaaDoorP0
import Derived.Test.YtalbfkhkfhnmjaaDoorGBuilder
import Derived.Test.YtalbfkhkfhnmjaaDoorGFormatBits
import Derived.Test.YtalbfkhkfhnmjaaDoorGFormatInt
import Derived.Test.YtalbfkhkfhnmjaaDoorPimplHex
import Derived.Test.YtalbfkhkfhnmjaaDoorPimplwithin
import Derived.Test.YtalbfkhkfhnmjaaDoorXW
namespace Go.Proofs.YtalbfkhkfhnmjaaDoor.P
set_option linter.unusedVariables false
set_option linter.unusedSimpArgs false
open Go.RowKit Go.Lib Go.Proofs.YtalbfkhkfhnmjaaDoorW.PrintWords Go.Proofs.YtalbfkhkfhnmjaaDoorW.PrintLast Go.Proofs.YtalbfkhkfhnmjaaDoorW.PrintMore
attribute [local go_sem] max2_int min2_int max_two min_two max_three min_three max_four min_four

def chunkL (p : ByteArray) : List UInt8 := if p.size = 0 then [] else (strOfNums (hexL p.size)).data.toList ++ [13, 10] ++ p.data.toList ++ [13, 10]
def chunksL (l : List ByteArray) : List UInt8 := l.flatMap chunkL
def sizes (l : List ByteArray) : Nat := (l.map ByteArray.size).sum
def impl_Chunked.f (l0 : List ByteArray) : Option ByteArray :=
  if sizes l0 > 4611686018427387904 then none else if l0.length > 100 then some ⟨#[]⟩ else if sizes l0 > 4000 then some ⟨#[]⟩ else some ⟨(chunksL l0 ++ [48, 13, 10, 13, 10]).toArray⟩
theorem hexL_le (d : Nat) : ∀ n : Nat, n < 16 ^ (d + 1) → (hexL n).length ≤ d + 1 := by
  induction d with
  | zero => intro n h; rw [hexL, dif_pos (by simpa using h)]; simp
  | succ d ih =>
    intro n h
    rw [hexL]
    by_cases h2 : n < 16
    · rw [dif_pos h2]; simp
    · rw [dif_neg h2, List.length_append, List.length_singleton]
      have := ih (n / 16) (by rw [Nat.pow_succ] at h; omega)
      omega
theorem nums_size (l : List Int) : (strOfNums l).size = l.length := by
  show (strOfNums l).data.size = _
  rw [← Array.length_toList, strOfNums_data, List.length_map]
theorem chunkL_le (p : ByteArray) (h : p.size ≤ 4000) : (chunkL p).length ≤ p.size + 8 := by
  unfold chunkL
  split
  · exact Nat.zero_le _
  · have h1 := hexL_le 3 p.size (by omega)
    have h2 := nums_size (hexL p.size)
    simp only [List.length_append, List.length_cons, List.length_nil, Array.length_toList]
    show (strOfNums (hexL p.size)).size + 2 + p.size + 2 ≤ _
    omega
theorem sizes_take (l : List ByteArray) (k : Nat) (h : k < l.length) : sizes (l.take (k + 1)) = sizes (l.take k) + (l[k]'h).size := by
  unfold sizes
  rw [List.take_add_one, List.getElem?_eq_getElem h, List.map_append, List.sum_append]
  simp
theorem sizes_le (l : List ByteArray) (k : Nat) : sizes (l.take k) ≤ sizes l := by
  have : sizes l = sizes (l.take k) + sizes (l.drop k) := by
    unfold sizes
    rw [← List.sum_append, ← List.map_append, List.take_append_drop]
  omega
theorem chunksL_take (l : List ByteArray) (k : Nat) (h : k < l.length) : chunksL (l.take (k + 1)) = chunksL (l.take k) ++ chunkL (l[k]'h) := by
  unfold chunksL
  rw [List.take_add_one, List.getElem?_eq_getElem h, List.flatMap_append]
  simp
theorem chunksL_le (l : List ByteArray) (h : sizes l ≤ 4000) : (chunksL l).length ≤ sizes l + 8 * l.length := by
  induction l with
  | nil => exact Nat.zero_le _
  | cons a l ih =>
    have h1 : sizes (a :: l) = a.size + sizes l := by simp [sizes]
    have h2 : chunksL (a :: l) = chunkL a ++ chunksL l := by simp [chunksL]
    have h3 := chunkL_le a (by omega)
    have h4 := ih (by omega)
    rw [h2, List.length_append, List.length_cons]
    omega
theorem hex_of_size (n : Nat) (h : n ≤ 4000) : impl_Hex.f (n : Int) = some (strOfNums (hexL n)) := by
  unfold impl_Hex.f impl_within.f
  rw [if_pos (by omega)]
  simp only [Option.bind_some]
  rw [if_pos (decide_eq_true (by omega))]
  unfold strconv_FormatInt.f
  rw [if_pos ⟨rfl, by omega, by omega⟩, Int.toNat_natCast]
  rfl
theorem chunk_data (p : ByteArray) (h : p.size ≠ 0) : (strOfNums (hexL p.size) ++ (⟨#[13, 10]⟩ : ByteArray) ++ p ++ (⟨#[13, 10]⟩ : ByteArray)).data.toList = chunkL p := by
  unfold chunkL
  rw [if_neg h]
  simp [ByteArray.data_append]
theorem rd_text (l : List ByteArray) (k : Nat) (h : k < l.length) : rdOf ByteArray.empty l (k : Int) = l[k]'h := by
  simp [rdOf, List.getD_eq_getElem?_getD, h]

set_option maxHeartbeats 8000000 in
set_option maxRecDepth 100000 in
theorem impl_Chunked.calls (A0 : Option Addr) (c0 : Nat) (l0 : List ByteArray) (r : ByteArray) (w : World) (hX : XW 6 w) (hr0 : Kd.C Kd.string w A0 l0.length l0) (hc0 : l0.length ≤ c0) (h : impl_Chunked.f l0 = some r) :
    Calls Tryd.prog 19 #[.slice A0 l0.length c0] w fun e w' => e = .returned (.string r) ∧ Below w.heap.size w w' := by
  have HB := Aside0.mk (Below.refl w.heap.size w)
  have BN := Aside0.mk (Lib.fresh_isBuilder 55 5 w)
  have hbound : ¬ sizes l0 > 4611686018427387904 := fun c => by unfold impl_Chunked.f at h; rw [if_pos c] at h; cases h
  have HH := Aside0.mk h
  clear h
  by_cases hlen : l0.length > 100
  · have h := HH.out
    unfold impl_Chunked.f at h
    rw [if_neg hbound, if_pos hlen] at h
    obtain rfl := Option.some.inj h
    clear h HH
    have h1 : decide ((100 : Int) < (l0.length : Int)) = true := decide_eq_true (by omega)
    have h2 : decide (100 < l0.length) = true := decide_eq_true hlen
    have HR0 := Aside0.mk hr0
    clear hr0
    go_enter Tryd.func19, Tryd.ntmps19
    go_wp2
    go_ret
    exact ⟨rfl, by repeat (first | exact HB.out | apply below_alloc | refine below_set ?_ (Nat.le_refl _))⟩
  have h1 : decide ((100 : Int) < (l0.length : Int)) = false := decide_eq_false (by omega)
  have h2 : decide (100 < l0.length) = false := decide_eq_false hlen
  have HR0 := Aside0.mk hr0
  have HX := Aside0.mk hX
  clear hr0 hX
  go_enter Tryd.func19, Tryd.ntmps19
  go_wp2
  go_loopg [4, 13] l0.length (fun gg v4 v13 wr => ∃ kk : Nat, kk ≤ l0.length ∧ l0.length - kk ≤ gg ∧ v13 = .int .i64 kk ∧ v4 = .int .i64 (sizes (l0.take kk)) ∧ sizes (l0.take kk) ≤ 4000 ∧ Aside0 (Bld w.heap.size w.heap.size (chunksL (l0.take kk)) wr) ∧ Aside0 (Below w.heap.size w wr))
  case atStart => exact ⟨0, Nat.zero_le _, by omega, rfl, rfl, Nat.zero_le _, ⟨BN.out⟩, ⟨below_alloc HB.out _⟩⟩
  case round =>
    clear HB BN
    obtain ⟨kk, hkk, hg, rfl, rfl, hs4, BL, HB⟩ := hrel
    by_cases hlt : kk < l0.length
    · have hltz : (kk : Int) < (l0.length : Int) := by omega
      have h0z : (0 : Int) ≤ (kk : Int) := by omega
      obtain ⟨ad, e, hx0⟩ := Kd.at_string HR0.out (kk : Int) h0z hltz
      subst e
      rw [rd_text l0 kk hlt] at hx0
      simp only [Int.toNat_natCast] at hx0
      have TF := Aside0.mk (chunksL_take l0 kk hlt)
      have TS := Aside0.mk (sizes_take l0 kk hlt)
      have SL := Aside0.mk (sizes_le l0 (kk + 1))
      have CL := Aside0.mk (chunksL_le (l0.take kk) hs4)
      have LT := Aside0.mk (List.length_take_le kk l0)
      generalize l0[kk]'hlt = x0 at hx0 TF TS
      replace hx0 := (HB.out.cell (World.block_lt_of_cell? w _ hx0)).trans hx0
      generalize sizes (l0.take kk) = sk at hs4 TS CL ⊢
      have hxs : sk + x0.size ≤ 4611686018427387904 := by
        have := SL.out
        rw [TS.out] at this
        omega
      have hsum : wrap64 ((sk : Int) + (x0.size : Int)) = ((sk + x0.size : Nat) : Int) := by unfold wrap64; omega
      by_cases hbig : sk + x0.size > 4000
      · have hb1 : decide ((4000 : Int) < ((sk + x0.size : Nat) : Int)) = true := decide_eq_true (by omega)
        have hb2 : decide (4000 < sk + x0.size) = true := decide_eq_true hbig
        have hb3 : decide ((4000 : Int) < (sk : Int) + (x0.size : Int)) = true := decide_eq_true (by omega)
        have hbz := SL.out
        rw [TS.out] at hbz
        have h := HH.out
        unfold impl_Chunked.f at h
        rw [if_neg hbound, if_neg hlen, if_pos (by omega)] at h
        obtain rfl := Option.some.inj h
        clear h HH
        go_wp2
        go_ret
        exact ⟨rfl, HB.out⟩
      · have hb1 : decide ((4000 : Int) < ((sk + x0.size : Nat) : Int)) = false := decide_eq_false (by omega)
        have hb2 : decide (4000 < sk + x0.size) = false := decide_eq_false hbig
        have hb3 : decide ((4000 : Int) < (sk : Int) + (x0.size : Int)) = false := decide_eq_false (by omega)
        generalize chunksL (l0.take kk) = xs at BL TF CL
        by_cases hz : x0.size = 0
        · have e0 : x0 = (⟨#[]⟩ : ByteArray) := by
            obtain ⟨⟨l⟩⟩ := x0
            cases l with
            | nil => rfl
            | cons a l => exact absurd hz (by simp [ByteArray.size])
          have hc0 : chunkL x0 = [] := by unfold chunkL; rw [if_pos hz]
          have hi : x0.toList.isEmpty = true := by rw [e0, ByteArray.toList_eq]; rfl
          have TF2 := TF.out
          rw [hc0, List.append_nil] at TF2
          have BL2 := BL
          rw [← TF2] at BL2
          have TS2 := Aside0.mk TS.out
          clear TF TF2 BL
          go_wp2
          go_roundg (l0.length - (kk + 1))
          case measure => omega
          case rel => exact ⟨kk + 1, by omega, by omega, by go_num, by rw [TS2.out, hz]; rfl, by rw [TS2.out]; omega, BL2, HB⟩
        · have hi : x0.toList.isEmpty = false := by
            rw [ByteArray.toList_eq]
            cases hl : x0.data.toList with
            | nil => exact absurd (show x0.size = 0 by show x0.data.size = 0; rw [← Array.length_toList, hl]; rfl) hz
            | cons a l => rfl
          have HX1 := Aside0.mk (XW.stays HX.out HB.out)
          have CX := Aside0.mk (impl_Hex.calls (x0.size : Int) (strOfNums (hexL x0.size)) wr HX1.out (hex_of_size x0.size (by omega)))
          have LD := Aside0.mk (chunk_data x0 hz)
          have hhl := hexL_le 3 x0.size (by omega)
          have hhs := nums_size (hexL x0.size)
          generalize strOfNums (hexL x0.size) = hs at CX LD hhs
          have s1 : ¬ 9223372036854775807 < hs.size + 2 := by omega
          have s2 : ¬ 9223372036854775807 < (hs ++ (⟨#[13, 10]⟩ : ByteArray)).size + x0.size := by
            rw [ByteArray.size_append, show (⟨#[13, 10]⟩ : ByteArray).size = 2 from rfl]; omega
          have s3 : ¬ 9223372036854775807 < (hs ++ (⟨#[13, 10]⟩ : ByteArray) ++ x0).size + 2 := by
            rw [ByteArray.size_append, ByteArray.size_append, show (⟨#[13, 10]⟩ : ByteArray).size = 2 from rfl]; omega
          have s1n : (9223372036854775807 < hs.size + 2) = False := eq_false s1
          have s2n : (9223372036854775807 < hs.size + 2 + x0.size) = False := eq_false (by omega)
          have s3n : (9223372036854775807 < hs.size + 2 + x0.size + 2) = False := eq_false (by omega)
          have hlb := LT.out
          have hcc := CL.out
          have hwsz : (hs ++ (⟨#[13, 10]⟩ : ByteArray) ++ x0 ++ (⟨#[13, 10]⟩ : ByteArray)).size = hs.size + 2 + x0.size + 2 := by
            rw [ByteArray.size_append, ByteArray.size_append, ByteArray.size_append, show (⟨#[13, 10]⟩ : ByteArray).size = 2 from rfl]
          have hcf := fun W (hb : Below wr.heap.size wr W) => builder_write w.heap.size w.heap.size xs (hs ++ (⟨#[13, 10]⟩ : ByteArray) ++ x0 ++ (⟨#[13, 10]⟩ : ByteArray)) W (bld_below BL.out hb) (by rw [hwsz]; omega) (Nat.le_trans HB.out.size hb.size)
          rw [LD.out, ← TF.out] at hcf
          have CF := Aside0.mk hcf
          clear hcf hhl hhs hwsz hlb hcc
          go_wp2_with (first
            | (go_at_call 41; refine CX.out.mono ?_; rintro e w4 ⟨rfl, hb4⟩; have HB4 := Aside0.mk hb4; clear hb4)
            | (go_at_call 40; refine (CF.out _ HB4.out).mono ?_; rintro e w5 ⟨rfl, hbl5, hb5⟩; have BL5 := Aside0.mk hbl5; have HB5 := Aside0.mk ((below_then HB.out HB.out.size HB4.out).trans hb5); clear hbl5 hb5))
          go_roundg (l0.length - (kk + 1))
          case measure => omega
          case rel => exact ⟨kk + 1, by omega, by omega, by go_num, by rw [TS.out, Int.natCast_add], by rw [TS.out]; omega, BL5, HB5⟩
    · have hltz : ¬ (kk : Int) < (l0.length : Int) := by omega
      have : kk = l0.length := by omega
      subst this
      have hO := BL.out
      rw [List.take_length] at hO hs4
      have h := HH.out
      unfold impl_Chunked.f at h
      rw [if_neg hbound, if_neg hlen, if_neg (by omega)] at h
      obtain rfl := Option.some.inj h
      clear h HH
      have hcl := chunksL_le l0 hs4
      have hcs := Tryd.Builder_String_any w.heap.size w.heap.size (chunksL l0) _ hO HB.out.size
      have hsz : (⟨(chunksL l0).toArray⟩ : ByteArray).size = (chunksL l0).length := by show (chunksL l0).toArray.size = _; simp
      have s0 : ¬ 9223372036854775807 < (⟨(chunksL l0).toArray⟩ : ByteArray).size + 1 := by omega
      have s0n : (9223372036854775807 < (⟨(chunksL l0).toArray⟩ : ByteArray).size + 1) = False := eq_false s0
      have s1 : ¬ 9223372036854775807 < ((⟨(chunksL l0).toArray⟩ : ByteArray) ++ (⟨#[48]⟩ : ByteArray)).size + 2 := by
        rw [ByteArray.size_append, show (⟨#[48]⟩ : ByteArray).size = 1 from rfl]; omega
      have s1n : (9223372036854775807 < (⟨(chunksL l0).toArray⟩ : ByteArray).size + 1 + 2) = False := eq_false (by omega)
      have s2 : ¬ 9223372036854775807 < ((⟨(chunksL l0).toArray⟩ : ByteArray) ++ (⟨#[48]⟩ : ByteArray) ++ (⟨#[13, 10]⟩ : ByteArray)).size + 2 := by
        rw [ByteArray.size_append, ByteArray.size_append, show (⟨#[48]⟩ : ByteArray).size = 1 from rfl, show (⟨#[13, 10]⟩ : ByteArray).size = 2 from rfl]; omega
      have s2n : (9223372036854775807 < (⟨(chunksL l0).toArray⟩ : ByteArray).size + 1 + 2 + 2) = False := eq_false (by omega)
      go_wp2_with (go_at_call 42; refine hcs.mono ?_; rintro e w5 ⟨rfl, hb5⟩)
      go_ret
      have hfin : ((⟨(chunksL l0).toArray⟩ : ByteArray) ++ (⟨#[48]⟩ : ByteArray) ++ (⟨#[13, 10]⟩ : ByteArray) ++ (⟨#[13, 10]⟩ : ByteArray)) = ⟨(chunksL l0 ++ [48, 13, 10, 13, 10]).toArray⟩ := by
        apply ByteArray.ext
        simp [ByteArray.data_append]
      exact ⟨by rw [← hfin]; rfl, HB.out.trans hb5⟩
end Go.Proofs.YtalbfkhkfhnmjaaDoor.P
