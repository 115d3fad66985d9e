/-
  impl.Items: the parts of a text between commas; its closure put appends to a variable that it catches. No condition.
-/
import Derived.OneCell
import Derived.Lib.Hide
import Derived.Test.YtalbfkhkfhnmjaaDoorP0
import Derived.Test.YtalbfkhkfhnmjaaDoorGTrim
import Derived.Test.YtalbfkhkfhnmjaaDoorPimplTrimmed
import Derived.Test.YtalbfkhkfhnmjaaDoorPimplVisibleOk
namespace Go.Proofs.YtalbfkhkfhnmjaaDoor.P
set_option linter.unusedVariables false
set_option linter.unusedSimpArgs false
open Go.RowKit Go.Lib Go.Proofs.YtalbfkhkfhnmjaaDoorW.PrintWords Go.Proofs.YtalbfkhkfhnmjaaDoorW.PrintLast Go.Proofs.YtalbfkhkfhnmjaaDoorW.PrintMore
attribute [local go_sem] max2_int min2_int max_two min_two max_three min_three max_four min_four

/-- A part without blanks. -/
def trimS (p : ByteArray) : ByteArray := ⟨(Lib.trimS p.data.toList [32, 9]).toArray⟩
theorem trimmed_is (p : ByteArray) (h : p.size ≤ 9223372036854775807) : impl_Trimmed.f p = some (trimS p) := by
  unfold impl_Trimmed.f strings_Trim.f
  rw [if_pos ⟨h, by decide, by decide⟩]
  rfl
/-- What a part adds. -/
def itemL (p : ByteArray) : List ByteArray := if (trimS p).toList = [] then [] else [trimS p]
set_option maxHeartbeats 4000000 in
set_option maxRecDepth 100000 in
theorem items_put (base g : Nat) (p : ByteArray) (v : Value) (xs : List ByteArray) (W : World) (hp : p.size ≤ 9223372036854775807) (hg : base ≤ g) (hbk : W.heap[g]? = some (.cells #[v] 22 (0, 0))) (hO : Kd.R Kd.string 9 W base (fun k => k ≠ g) v xs) (hlen : xs.length ≤ 1000000) (hbW : base ≤ W.heap.size) :
    Calls Tryd.prog 31 #[.string p, .pointer (some ⟨g, 0, none⟩)] W fun e w' => e = .returned (.tuple #[]) ∧ ∃ v', w'.heap[g]? = some (.cells #[v'] 22 (0, 0)) ∧ Kd.R Kd.string 9 w' base (fun k => k ≠ g) v' (xs ++ itemL p) ∧ Below base W w' := by
  have HT := Aside0.mk (trimmed_is p hp)
  have CT := Aside0.mk (fun W' => impl_Trimmed.calls p (trimS p) W' HT.out)
  have hil : itemL p = if (trimS p).toList = [] then [] else [trimS p] := rfl
  have IL := Aside0.mk hil
  clear hil
  generalize trimS p = t at CT IL
  have BK := Aside0.mk hbk
  have HO := Aside0.mk hO
  have HG := Aside0.mk (lt_of_block hbk)
  clear hbk hO
  by_cases ht : t.toList = []
  · have hi : t.toList.isEmpty = true := by rw [ht]; rfl
    have he := IL.out
    rw [if_pos ht] at he
    have HE := Aside0.mk he
    clear he ht IL
    go_enter Tryd.func31, Tryd.ntmps31
    go_wp2_with (go_at_call 15; refine (CT.out _).mono ?_; rintro e w1 ⟨rfl, hb1⟩; have HB1 := Aside0.mk hb1; clear hb1)
    go_end0
    exact ⟨rfl, v, (HB1.out.block _ HG.out).trans BK.out, by rw [HE.out, List.append_nil]; exact Kd.R_below HO.out HB1.out, HB1.out.mono hbW⟩
  · have hi : t.toList.isEmpty = false := by
      cases hl : t.toList with
      | nil => exact absurd hl ht
      | cons a l => rfl
    have he := IL.out
    rw [if_neg ht] at he
    have HE := Aside0.mk he
    have LEN := Aside0.mk hlen
    have HG2 := Aside0.mk hg
    have HBW := Aside0.mk hbW
    clear he ht IL hlen hg hbW
    go_enter Tryd.func31, Tryd.ntmps31
    go_wp2_with (first
      | (go_at_call 15; refine (CT.out _).mono ?_; rintro e w1 ⟨rfl, hb1⟩; have HB1 := Aside0.mk hb1; have BK1 := Aside0.mk ((hb1.block _ HG.out).trans BK.out); have hc1 : w1.cell? ⟨g, 0, none⟩ = some v := cell_of_one BK1.out; clear hb1)
      | ((with_reducible refine gate_builtin (b := .append) (xs := #[.tmp 7, .tmp 9]) rfl ?_); at_builtin; refine Kd.R_append Kd.string (w0 := w1) base rfl (.tmp 7) (.tmp 9) 22 9 (.string ⟨#[]⟩) 16 rfl Tryd.underlying22 info9 rfl (by decide) (by omega) v xs t [.string t] (fun k => k ≠ g) (fun _ => False) rfl rfl ?aP (fun _ hk => hk.elim) ?aF ?aO ?aB ?aS ?aL ?_; (case aP => exact rfl); (case aB => exact Below.refl _ _); (case aF => exact (fun k hk => by have := HB1.out.size; have := HG.out; omega)); (case aO => exact Kd.R_below HO.out HB1.out); (case aS => exact Nat.le_trans HBW.out HB1.out.size); (case aL => have := LEN.out; omega); intro v2 w2 ho hb hg2 hat; have hlt1 := Nat.lt_of_lt_of_le HG.out HB1.out.size; have hbk2 := (hg2.block g hlt1 (fun e_ => HO.out.1 g e_.symm rfl)).trans BK1.out; have hc2 : w2.cell? ⟨g, 0, none⟩ = some v := cell_of_one hbk2; have hf2 : w2.frozen? ⟨g, 0, none⟩ = false := free_of_one hbk2; have BK2 := Aside0.mk hbk2; clear hbk2 hlt1; obtain ⟨A2, c2, e2⟩ := Kd.R_slice ho; subst e2; simp only [List.length_append, List.length_cons, List.length_nil, Nat.zero_add] at ho; have HO2 := Aside0.mk ho; have HB2 := Aside0.mk hb; clear ho hb hg2 hat))
    go_end0
    exact ⟨rfl, _, one_setCell BK2.out, by rw [HE.out]; exact Kd.R_far (p := ⟨g, 0, none⟩) HO2.out (fun k hk => hk) _, (HB1.out.mono HBW.out).trans ((HB2.out).setCell HG2.out _)⟩
/-- What is collected, the place where the part began, whether a quotation is open, and the place, round by round. -/
def itemsG (s : ByteArray) : Nat → List ByteArray → Nat → Bool → Nat → List ByteArray
  | 0, out, fr, _, _ => out ++ itemL (s.extract fr s.size)
  | n + 1, out, fr, op, i =>
    if i < s.size then
      if bt s (i : Int) = 34 then itemsG s n out fr (!op) (i + 1)
      else if bt s (i : Int) = 92 ∧ op = true then itemsG s n out fr op (i + 2)
      else if bt s (i : Int) = 44 ∧ op = false then itemsG s n (out ++ itemL (s.extract fr i)) (i + 1) op (i + 1)
      else itemsG s n out fr op (i + 1)
    else out ++ itemL (s.extract fr s.size)
def impl_Items.f (a0 : ByteArray) : Option (List ByteArray) := (impl_VisibleOk.f a0).map fun ok => if ok = true then itemsG a0 (a0.size + 1) [] 0 false 0 else []
theorem itemL_le (p : ByteArray) : (itemL p).length ≤ 1 := by
  unfold itemL
  split <;> simp
set_option maxHeartbeats 8000000 in
set_option maxRecDepth 100000 in
theorem impl_Items.calls (a0 : ByteArray) (r : List ByteArray) (w : World) (h : impl_Items.f a0 = some r) :
    Calls Tryd.prog 8 #[.string a0] w fun e w' => ∃ v0_ : Value, e = .returned (v0_) ∧ Kd.R Kd.string 9 w' w.heap.size (fun _ => True) v0_ r ∧ Below w.heap.size w w' := by
  unfold impl_Items.f at h
  obtain ⟨ok, hok, hr⟩ := Option.map_eq_some_iff.1 h
  clear h
  have CV := Aside0.mk (impl_VisibleOk.calls a0 ok w hok)
  cases ok with
  | false =>
    have hr2 : r = [] := by rw [← hr]; rfl
    subst hr2
    clear hr hok
    go_enter Tryd.func8, Tryd.ntmps8
    go_wp2_with (go_at_call 30; refine CV.out.mono ?_; rintro e w1 ⟨rfl, hb1⟩)
    go_ret
    exact ⟨_, rfl, Kd.R_nil _ _ _ _ _, hb1⟩
  | true =>
    have hsz : a0.size ≤ 400 := by
      unfold impl_VisibleOk.f at hok
      by_cases c : (a0.size : Int) ≤ 400
      · omega
      · rw [if_neg c] at hok; cases hok
    have HR := Aside0.mk (show itemsG a0 (a0.size + 1) [] 0 false 0 = r from by rw [← hr]; rfl)
    clear hr hok
    go_enter Tryd.func8, Tryd.ntmps8
    go_wp2_with (go_at_call 30; refine CV.out.mono ?_; rintro e w1 ⟨rfl, hb1⟩; have HB1 := Aside0.mk hb1; clear hb1)
    have hlt1 : w1.heap.size < (w1.alloc (.cells #[] 9)).heap.size := by simp
    have hs1 : (w1.alloc (.cells #[] 9)).heap.size = w1.heap.size + 1 := by simp
    have hrow : ((w1.alloc (.cells #[] 9)).alloc (.cells #[.slice (some ⟨w1.heap.size, 0, none⟩) 0 0] 22)).heap[w1.heap.size]? = some (.cells #[] 9 (0, 0)) := ((below_alloc (Below.refl _ (w1.alloc (.cells #[] 9))) _).block _ hlt1).trans (blk_new w1 _)
    have hbox : ((w1.alloc (.cells #[] 9)).alloc (.cells #[.slice (some ⟨w1.heap.size, 0, none⟩) 0 0] 22)).heap[w1.heap.size + 1]? = some (.cells #[.slice (some ⟨w1.heap.size, 0, none⟩) 0 0] 22 (0, 0)) := by
      have := blk_new (w1.alloc (.cells #[] 9)) (.cells #[.slice (some ⟨w1.heap.size, 0, none⟩) 0 0] 22)
      rw [hs1] at this
      exact this
    have R0 := Aside0.mk (show Kd.R Kd.string 9 ((w1.alloc (.cells #[] 9)).alloc (.cells #[.slice (some ⟨w1.heap.size, 0, none⟩) 0 0] 22)) w.heap.size (fun k => k ≠ w1.heap.size + 1) (.slice (some ⟨w1.heap.size, 0, none⟩) 0 0) [] from
      ⟨fun k hk => by
        have : w1.heap.size = k := by simpa [Value.ownBlock] using hk
        omega, [], ⟨rfl, .inr ⟨w1.heap.size, 0, #[], rfl, HB1.out.size, hrow, Nat.le_refl _, Nat.zero_le _, rfl, rfl⟩⟩, Reps.none _ _⟩)
    have B0 := Aside0.mk hbox
    have BL0 := Aside0.mk (show Below w.heap.size w ((w1.alloc (.cells #[] 9)).alloc (.cells #[.slice (some ⟨w1.heap.size, 0, none⟩) 0 0] 22)) from below_alloc (below_alloc HB1.out _) _)
    have GB := Aside0.mk (show w.heap.size ≤ w1.heap.size + 1 from Nat.le_succ_of_le HB1.out.size)
    clear hlt1 hs1 hrow hbox HB1 CV
    go_loopg [4, 5, 7] (a0.size + 1) (fun gg v4 v5 v7 wr => ∃ (n fr i : Nat) (op : Bool) (out : List ByteArray) (v : Value), n ≤ gg ∧ v4 = .int .i64 fr ∧ v5 = .bool op ∧ v7 = .int .i64 i ∧ fr ≤ a0.size ∧ fr ≤ i ∧ i ≤ a0.size + 1 ∧ a0.size ≤ i + n ∧ out.length ≤ fr ∧ Aside0 (itemsG a0 n out fr op i = r) ∧ Aside0 (wr.heap[w1.heap.size + 1]? = some (.cells #[v] 22 (0, 0))) ∧ Aside0 (Kd.R Kd.string 9 wr w.heap.size (fun k => k ≠ w1.heap.size + 1) v out) ∧ Aside0 (Below w.heap.size w wr))
    case atStart => exact ⟨a0.size + 1, 0, 0, false, [], _, Nat.le_refl _, rfl, rfl, rfl, Nat.zero_le _, Nat.le_refl _, Nat.zero_le _, by omega, Nat.le_refl _, HR, B0, R0, BL0⟩
    case round =>
      clear HR B0 R0 BL0
      obtain ⟨n, fr, i, op, out, v, hn, rfl, rfl, rfl, hfs, hfi, his, hsn, hol, HR, BX, HO, HB⟩ := hrel
      generalize w1.heap.size + 1 = g at *
      by_cases hlt : i < a0.size
      · obtain ⟨m, rfl⟩ : ∃ m, n = m + 1 := ⟨n - 1, by omega⟩
        have hltz : (i : Int) < (a0.size : Int) := by omega
        have h0z : (0 : Int) ≤ (i : Int) := by omega
        have hbt : ∀ h : i < a0.size, (((a0[i]'h).toNat : Nat) : Int) = bt a0 (i : Int) := fun h => bt_at a0 (i : Int) h
        have hg := HR.out
        rw [itemsG, if_pos hlt] at hg
        by_cases c34 : bt a0 (i : Int) = 34
        · rw [if_pos c34] at hg
          have HG := Aside0.mk hg
          have c34b : (bt a0 (i : Int) == 34) = true := beq_iff_eq.mpr c34
          clear hg HR c34
          go_wp2
          go_roundg m
          case measure => omega
          case rel => exact ⟨m, fr, i + 1, !op, out, v, Nat.le_refl _, rfl, rfl, by go_num, by omega, by omega, by omega, by omega, hol, HG, BX, HO, HB⟩
        · rw [if_neg c34] at hg
          have c34b : (bt a0 (i : Int) == 34) = false := beq_eq_false_iff_ne.mpr c34
          clear c34
          by_cases c92 : bt a0 (i : Int) = 92 ∧ op = true
          · rw [if_pos c92] at hg
            have HG := Aside0.mk hg
            obtain ⟨c92a, rfl⟩ := c92
            have c92b : (bt a0 (i : Int) == 92) = true := beq_iff_eq.mpr c92a
            clear hg HR c92a
            go_wp2
            go_roundg m
            case measure => omega
            case rel => exact ⟨m, fr, i + 2, true, out, v, Nat.le_refl _, rfl, rfl, by go_num, by omega, by omega, by omega, by omega, hol, HG, BX, HO, HB⟩
          · rw [if_neg c92] at hg
            by_cases c44 : bt a0 (i : Int) = 44 ∧ op = false
            · rw [if_pos c44] at hg
              have HG := Aside0.mk hg
              obtain ⟨c44a, rfl⟩ := c44
              have c44b : (bt a0 (i : Int) == 44) = true := beq_iff_eq.mpr c44a
              have c92b : (bt a0 (i : Int) == 92) = false := by rw [c44a]; rfl
              have CP := Aside0.mk (fun W (hbk : W.heap[g]? = some (.cells #[v] 22 (0, 0))) (hO : Kd.R Kd.string 9 W w.heap.size (fun k => k ≠ g) v out) (hbW : w.heap.size ≤ W.heap.size) => items_put w.heap.size g (a0.extract fr i) v out W (by rw [ByteArray.size_extract]; omega) GB.out hbk hO (by omega) hbW)
              have IL := Aside0.mk (itemL_le (a0.extract fr i))
              have z1 : (fr : Int) ≤ (i : Int) := by omega
              have z0 : (0 : Int) ≤ (fr : Int) := by omega
              have z2 : (i : Int) ≤ (a0.size : Int) := by omega
              clear hg HR c44a c92
              go_wp2_with (go_at_call 31; refine (CP.out _ BX.out HO.out HB.out.size).mono ?_; rintro e w5 ⟨rfl, v5, hbk5, ho5, hb5⟩; have BX5 := Aside0.mk hbk5; have HO5 := Aside0.mk ho5; have HB5 := Aside0.mk (HB.out.trans hb5); clear ho5 hb5 hbk5)
              go_roundg m
              case measure => omega
              case rel => exact ⟨m, i + 1, i + 1, false, out ++ itemL (a0.extract fr i), v5, Nat.le_refl _, by go_num, rfl, by go_num, by omega, by omega, by omega, by omega, by have := IL.out; rw [List.length_append]; omega, HG, BX5, HO5, HB5⟩
            · rw [if_neg c44] at hg
              have HG := Aside0.mk hg
              clear hg HR
              by_cases e92 : bt a0 (i : Int) = 92
              · have c92b : (bt a0 (i : Int) == 92) = true := beq_iff_eq.mpr e92
                have hop : op = false := by
                  cases op with
                  | false => rfl
                  | true => exact absurd ⟨e92, rfl⟩ c92
                subst hop
                have c44b : (bt a0 (i : Int) == 44) = false := by rw [e92]; rfl
                clear c92 c44 e92
                go_wp2
                go_roundg m
                case measure => omega
                case rel => exact ⟨m, fr, i + 1, false, out, v, Nat.le_refl _, rfl, rfl, by go_num, by omega, by omega, by omega, by omega, hol, HG, BX, HO, HB⟩
              · have c92b : (bt a0 (i : Int) == 92) = false := beq_eq_false_iff_ne.mpr e92
                clear c92 e92
                by_cases e44 : bt a0 (i : Int) = 44
                · have c44b : (bt a0 (i : Int) == 44) = true := beq_iff_eq.mpr e44
                  have hop : op = true := by
                    cases op with
                    | true => rfl
                    | false => exact absurd ⟨e44, rfl⟩ c44
                  subst hop
                  clear c44 e44
                  go_wp2
                  go_roundg m
                  case measure => omega
                  case rel => exact ⟨m, fr, i + 1, true, out, v, Nat.le_refl _, rfl, rfl, by go_num, by omega, by omega, by omega, by omega, hol, HG, BX, HO, HB⟩
                · have c44b : (bt a0 (i : Int) == 44) = false := beq_eq_false_iff_ne.mpr e44
                  clear c44 e44
                  go_wp2
                  go_roundg m
                  case measure => omega
                  case rel => exact ⟨m, fr, i + 1, op, out, v, Nat.le_refl _, rfl, rfl, by go_num, by omega, by omega, by omega, by omega, hol, HG, BX, HO, HB⟩
      · have hltz : ¬ (i : Int) < (a0.size : Int) := by omega
        have hg : out ++ itemL (a0.extract fr a0.size) = r := by
          have := HR.out
          cases n with
          | zero => exact this
          | succ n => rw [itemsG, if_neg hlt] at this; exact this
        have HF := Aside0.mk hg
        have CP := Aside0.mk (fun W (hbk : W.heap[g]? = some (.cells #[v] 22 (0, 0))) (hO : Kd.R Kd.string 9 W w.heap.size (fun k => k ≠ g) v out) (hbW : w.heap.size ≤ W.heap.size) => items_put w.heap.size g (a0.extract fr a0.size) v out W (by rw [ByteArray.size_extract]; omega) GB.out hbk hO (by omega) hbW)
        clear hg
        have z1 : (fr : Int) ≤ (a0.size : Int) := by omega
        have z0 : (0 : Int) ≤ (fr : Int) := by omega
        go_wp2_with (go_at_call 31; refine (CP.out _ BX.out HO.out HB.out.size).mono ?_; rintro e w5 ⟨rfl, v5, hbk5, ho5, hb5⟩; obtain ⟨A5, c5, e5⟩ := Kd.R_slice ho5; subst e5; have hc5 : w5.cell? ⟨g, 0, none⟩ = some _ := cell_of_one hbk5; have HO5 := Aside0.mk ho5; have HB5 := Aside0.mk hb5; clear ho5 hb5 hbk5)
        go_ret
        have h5 := HO5.out
        simp only [List.length_append] at h5
        exact ⟨_, rfl, by rw [← HF.out]; exact Kd.R_mono h5 (fun _ _ => trivial), HB.out.trans HB5.out⟩
end Go.Proofs.YtalbfkhkfhnmjaaDoor.P
