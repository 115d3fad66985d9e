/-
  impl.without: the fields whose names, in small letters, are none of some names in small letters. Condition: fewer than 2^42 fields.
-/
import Derived.Test.YtfebipiccpbdbaaDoorProg
import Derived.Lib.Hide
import Derived.Deep.RegionWith
import Derived.Test.YtfebipiccpbdbaaDoorGContainsString
import Derived.Test.YtfebipiccpbdbaaDoorP0
import Derived.Test.YtfebipiccpbdbaaDoorGContainsString
import Derived.Test.YtfebipiccpbdbaaDoorGimplLower
namespace Go.Proofs.YtfebipiccpbdbaaDoor.P
set_option linter.unusedVariables false
set_option linter.unusedSimpArgs false
open Go.RowKit Go.Lib Go.Proofs.YtfebipiccpbdbaaDoorW.PrintWords Go.Proofs.YtfebipiccpbdbaaDoorW.PrintLast Go.Proofs.YtfebipiccpbdbaaDoorW.PrintMore
attribute [local go_sem] max2_int min2_int max_two min_two max_three min_three max_four min_four

def lowS (s : ByteArray) : ByteArray := strOfNums ((bytesOf s).map low8)
def withoutP (l1 : List ByteArray) (x : S67) : Bool := l1.any fun n => (lowS n).toList == (lowS x.f0).toList
def impl_without.f (l0 : List S67) (l1 : List ByteArray) : Option (List S67) :=
  if l0.length < 4398046511104 ∧ (l0.all fun x => decide (x.f0.size ≤ 9223372036854775807)) = true ∧ (l1.all fun x => decide (x.size ≤ 9223372036854775807)) = true then some (l0.filter fun x => !withoutP l1 x) else none

set_option maxHeartbeats 4000000 in
set_option maxRecDepth 100000 in
/-- The predicate that without hands to slices.ContainsFunc: the same name, in small letters. -/
theorem without_pred (g : Nat) (s0 s1 x : ByteArray) (w : World) (hg : g < w.heap.size) (hbox : w.heap[g]? = some (.cells #[.string s0, .string s1] 67 (0, 0))) (hx : x.size ≤ 9223372036854775807) (h0 : s0.size ≤ 9223372036854775807) :
    Calls Tryd.prog 98 #[.string x, .pointer (some ⟨g, 0, none⟩)] w fun e w' => e = .returned (.bool ((lowS x).toList == (lowS s0).toList)) ∧ Below w.heap.size w w' := by
  have hq : ∀ W, Below w.heap.size w W → W.cell? ⟨g, 0, none⟩ = some (.string s0) := fun W hb => (hb.cell (p := ⟨g, 0, none⟩) hg).trans ((blk_cell hbox 0).trans rfl)
  have hcx : ∀ W : World, Calls Tryd.prog 99 #[.string x] W fun e w' => e = .returned (.string (lowS x)) ∧ Below W.heap.size W w' := fun W => impl_Lower_any x W hx
  have hc0 : ∀ W : World, Calls Tryd.prog 99 #[.string s0] W fun e w' => e = .returned (.string (lowS s0)) ∧ Below W.heap.size W w' := fun W => impl_Lower_any s0 W h0
  have HQ := Lib.hid hq
  clear hq
  generalize lowS x = y1 at hcx ⊢
  generalize lowS s0 = y0 at hc0 ⊢
  have HB0 := Aside0.mk (Below.refl w.heap.size w)
  go_enter Tryd.func98, Tryd.ntmps98
  go_wp2
  have hcd : w.drew.cell? ⟨g, 0, none⟩ = some (.string s0) := HQ.out _ (below_drew1 HB0.out)
  go_region_with (first
    | (go_at_call_of 99 x; refine (hcx _).mono ?_; rintro e w1 ⟨rfl, hb1⟩; have hc1 := HQ.out w1 (by first | exact below_step (below_drew1 HB0.out) hb1 | exact below_step (below_step (below_drew1 HB0.out) hb2) hb1))
    | (go_at_call_of 99 s0; refine (hc0 _).mono ?_; rintro e w2 ⟨rfl, hb2⟩; have hc2 := HQ.out w2 (by first | exact below_step (below_drew1 HB0.out) hb2 | exact below_step (below_step (below_drew1 HB0.out) hb1) hb2)))
  all_goals
    go_wp2
    go_ret
    exact ⟨rfl, by first | exact below_step (below_step (below_drew1 HB0.out) hb1) hb2 | exact below_step (below_step (below_drew1 HB0.out) hb2) hb1⟩

theorem take_filter {α : Type} (l : List α) (p : α → Bool) (k : Nat) (h : k < l.length) : (l.take (k + 1)).filter p = (l.take k).filter p ++ (if p (l[k]'h) then [l[k]'h] else []) := by
  rw [List.take_add_one, List.getElem?_eq_getElem h, List.filter_append]
  by_cases hq : p (l[k]'h) = true <;> simp [List.filter, hq]
theorem rd_T_get (l : List S67) (k : Nat) (h : k < l.length) : rd_T67 l (k : Int) = l[k]'h := by
  simp [rd_T67, List.getD_eq_getElem?_getD, h]

theorem block_lt {w : World} {g : Nat} {o : Obj} (h : w.heap[g]? = some o) : g < w.heap.size := (Array.getElem?_eq_some_iff.1 h).1
set_option maxHeartbeats 8000000 in
set_option maxRecDepth 100000 in
theorem impl_without_any (A0 : Option Addr) (c0 : Nat) (l0 : List S67) (A1 : Option Addr) (c1 : Nat) (l1 : List ByteArray) (w : World) (hr0 : Kd.C k67 w A0 l0.length l0) (hr1 : Kd.C Kd.string w A1 l1.length l1)
    (hlen : l0.length < 4398046511104) (h0 : ∀ x ∈ l0, x.f0.size ≤ 9223372036854775807) (h1 : ∀ x ∈ l1, x.size ≤ 9223372036854775807) :
    Calls Tryd.prog 59 #[.slice A0 l0.length c0, .slice A1 l1.length c1] w fun e w' => ∃ v0_ : Value, e = .returned (v0_) ∧ Kd.R k67 67 w' w.heap.size (fun _ => True) v0_ (l0.filter fun x => !withoutP l1 x) ∧ Below w.heap.size w w' := by
  have hu67 := Tryd.underlying67
  have HR0 := Aside0.mk hr0
  have HR1 := Aside0.mk hr1
  clear hr0 hr1
  have H0 := Aside0.mk h0
  have H1 := Aside0.mk h1
  clear h0 h1
  have HB := Aside0.mk (Below.refl w.heap.size w)
  have eg : ∀ args w, (callFunc 98 args).run Tryd.prog w = .ok (.enter 98 args) w := enters_of Tryd.func98 (by kernel_rfl) rfl
  have EG := Aside0.mk eg
  clear eg
  go_enter Tryd.func59, Tryd.ntmps59
  go_wp2_with (first | ((with_reducible refine gate_dst (N := 8) rfl ?_); refine Kd.R_lit k67 _ 67 ?hg (N := 8) ?hd (xs := ([] : List (S67))) (inner := []) (ok := fun _ => True) (okp := fun _ => True) ?hr ?hp (fun _ hk => hk) trivial (Below.refl _ _) (Nat.le_refl _) (by simp) ?_; (case hd => rfl); (case hg => rfl); (case hr => first | (go_simp; done) | (go_simp; rfl)); (case hp => exact (Reps.none _ _)); intro v102 w3 ho4 hb hg_ hnew_; clear hg_ hnew_; have n0_ := Aside0.mk (Kd.R_lower ho4 (below_size (by repeat (first | (with_reducible first | exact HB.out | apply below_alloc | apply pw_below_drewN | apply below_drew1) | exact HB.out)))); have n1_ := Aside0.mk (below_step (by repeat (first | (with_reducible first | exact HB.out | apply below_alloc | apply pw_below_drewN | apply below_drew1) | exact HB.out)) hb); clear HB; have HO103 := n0_; have HB := n1_; clear n0_ n1_; clear hb ho4))
  go_loopg [5, 11] l0.length (fun gg v5 v11 wr => ∃ kk : Nat, kk ≤ l0.length ∧ l0.length - kk ≤ gg ∧ v11 = .int .i64 kk ∧ Aside0 (Kd.R k67 67 wr w.heap.size (fun _ => True) v5 ((l0.take kk).filter fun x => !withoutP l1 x)) ∧ Aside0 (Below w.heap.size w wr))
  case atStart => exact ⟨0, Nat.zero_le _, by omega, rfl, ⟨by simpa using HO103.out⟩, HB⟩
  case round =>
    clear HO103 HB
    obtain ⟨kk, hkk, hg, rfl, HO, HB⟩ := hrel
    by_cases hlt : kk < l0.length
    · have hltz : (kk : Int) < (l0.length : Int) := by omega
      have h0z : (0 : Int) ≤ (kk : Int) := by omega
      obtain ⟨ad, e, hx0, hx1⟩ := at_T67 HR0.out (kk : Int) h0z hltz
      subst e
      rw [rd_T_get l0 kk hlt] at hx0 hx1
      simp only [Int.toNat_natCast] at hx0 hx1
      have TF := Aside0.mk (take_filter l0 (fun x => !withoutP l1 x) kk hlt)
      have hsz := H0.out _ (List.getElem_mem hlt)
      have LEN := Aside0.mk (show ((l0.take kk).filter fun x => !withoutP l1 x).length < 4398046511104 from Nat.lt_of_le_of_lt (Nat.le_trans (List.length_filter_le _ _) (List.length_take_le _ _)) (by omega))
      generalize l0[kk]'hlt = x0 at hx0 hx1 TF hsz
      generalize ((l0.take kk).filter fun x => !withoutP l1 x) = xs at HO TF LEN
      replace hx0 := (HB.out.cell (World.block_lt_of_cell? w _ hx0)).trans hx0
      replace hx1 := (HB.out.cell (World.block_lt_of_cell? w _ hx1)).trans hx1
      have SZ := Aside0.mk hsz
      clear hsz
      have eg2 := EG.out
      obtain ⟨q, hq⟩ : ∃ q, withoutP l1 x0 = q := ⟨_, rfl⟩
      rw [hq] at TF
      have hbx : (wr.alloc (.cells #[.string x0.f0, .string x0.f1] 67)).heap[wr.heap.size]? = some (.cells #[.string x0.f0, .string x0.f1] 67 (0, 0)) := blk_new wr _
      have hbs := block_lt hbx
      have hbl : Below wr.heap.size wr (wr.alloc (.cells #[.string x0.f0, .string x0.f1] 67)) := below_alloc (Below.refl _ _) _
      have hcf := cfString 98 #[.pointer (some ⟨wr.heap.size, 0, none⟩)] (fun n => (lowS n).toList == (lowS x0.f0).toList) EG.out A1 c1 l1 _ (Kd.C_below HR1.out (below_step HB.out hbl)) (fun W x hx hW => (without_pred wr.heap.size x0.f0 x0.f1 x W (Nat.lt_of_lt_of_le hbs hW.size) ((hW.block _ hbs).trans hbx) (H1.out x hx) SZ.out).mono (fun e w' h => ⟨h.1, below_step hW h.2⟩))
      rw [show (l1.any fun n => (lowS n).toList == (lowS x0.f0).toList) = q from hq] at hcf
      have BX := Aside0.mk hbx
      have BL := Aside0.mk hbl
      have BS := Aside0.mk hbs
      clear hbx hbl hbs
      cases q with
      | true =>
        have TF2 := Aside0.mk (show _ = xs from TF.out.trans (List.append_nil xs))
        clear TF eg2
        go_wp2_with (go_at_call 97; refine hcf.mono ?_; rintro e w5 ⟨rfl, hb5⟩; have hx50 : w5.cell? ⟨wr.heap.size, 0, none⟩ = some (.string x0.f0) := (blk_cell ((hb5.block _ BS.out).trans BX.out) 0).trans rfl; have hx51 : w5.cell? ⟨wr.heap.size, 1, none⟩ = some (.string x0.f1) := (blk_cell ((hb5.block _ BS.out).trans BX.out) 1).trans rfl; have HB5 := Aside0.mk (below_step BL.out hb5); clear hb5)
        go_roundg (l0.length - (kk + 1))
        case measure => omega
        case rel => exact ⟨kk + 1, by omega, by omega, by go_num, ⟨by rw [TF2.out]; exact Kd.R_below HO.out (by repeat (first | (with_reducible first | exact HB5.out | apply below_alloc | apply pw_below_drewN | apply below_drew1) | exact HB5.out))⟩, ⟨below_step HB.out (by repeat (first | (with_reducible first | exact HB5.out | apply below_alloc | apply pw_below_drewN | apply below_drew1) | exact HB5.out))⟩⟩
      | false =>
        have TF2 := Aside0.mk (show _ = xs ++ [x0] from TF.out)
        clear TF eg2
        go_wp2_with (first | (go_at_call 97; refine hcf.mono ?_; rintro e w5 ⟨rfl, hb5⟩; have hx50 : w5.cell? ⟨wr.heap.size, 0, none⟩ = some (.string x0.f0) := (blk_cell ((hb5.block _ BS.out).trans BX.out) 0).trans rfl; have hx51 : w5.cell? ⟨wr.heap.size, 1, none⟩ = some (.string x0.f1) := (blk_cell ((hb5.block _ BS.out).trans BX.out) 1).trans rfl; have HB5 := Aside0.mk (below_step BL.out hb5); clear hb5) | ((with_reducible refine gate_builtin (b := .append) (xs := #[.tmp 19, .tmp 21]) rfl ?_); at_builtin; refine Kd.R_append k67 (w0 := w) w.heap.size rfl (.tmp 19) (.tmp 21) 25 67 (.agg #[(.string ⟨#[]⟩), (.string ⟨#[]⟩)]) 32 rfl Tryd.underlying25 info67 rfl (by decide) (by omega) u5 xs x0 [.string x0.f0, .string x0.f1] (fun _ => True) (fun _ => False) rfl rfl ?aP (fun _ hk => hk.elim) ?aF ?aO ?aB ?aS ?aL ?_; (case aP => exact k67_mkM _ _ _ x0); (case aB => exact (below_step HB.out (by repeat (first | (with_reducible first | exact HB5.out | apply below_alloc | apply pw_below_drewN | apply below_drew1) | exact HB5.out)))); (case aF => exact (fun _ _ => trivial)); (case aO => exact Kd.R_below HO.out (by repeat (first | (with_reducible first | exact HB5.out | apply below_alloc | apply pw_below_drewN | apply below_drew1) | exact HB5.out))); (case aS => exact (below_size (below_step HB.out (by repeat (first | (with_reducible first | exact HB5.out | apply below_alloc | apply pw_below_drewN | apply below_drew1) | exact HB5.out))))); (case aL => have := LEN.out; omega); intro v109 w15 ho hb hg hat; have HO6 := Aside0.mk ho; have HB6 := Aside0.mk hb; clear ho hb hg hat))
        go_roundg (l0.length - (kk + 1))
        case measure => omega
        case rel => exact ⟨kk + 1, by omega, by omega, by go_num, ⟨by rw [TF2.out]; exact HO6.out⟩, HB6⟩
    · have hltz : ¬ (kk : Int) < (l0.length : Int) := by omega
      have : kk = l0.length := by omega
      subst this
      have hO := HO.out
      rw [List.take_length] at hO
      go_wp2
      go_ret
      exact ⟨_, rfl, hO, HB.out⟩

theorem impl_without.calls (A0 : Option Addr) (c0 : Nat) (l0 : List S67) (A1 : Option Addr) (c1 : Nat) (l1 : List ByteArray) (r : List S67) (w : World) (hr0 : Kd.C k67 w A0 l0.length l0) (hc0 : l0.length ≤ c0) (hr1 : Kd.C Kd.string w A1 l1.length l1) (hc1 : l1.length ≤ c1) (h : impl_without.f l0 l1 = some r) :
    Calls Tryd.prog 59 #[.slice A0 l0.length c0, .slice A1 l1.length c1] w fun e w' => ∃ v0_ : Value, e = .returned (v0_) ∧ Kd.R k67 67 w' w.heap.size (fun _ => True) v0_ r ∧ Below w.heap.size w w' := by
  unfold impl_without.f at h
  split at h
  · rename_i hc
    obtain rfl := Option.some.inj h
    exact impl_without_any A0 c0 l0 A1 c1 l1 w hr0 hr1 hc.1 (fun x hx => of_decide_eq_true (List.all_eq_true.1 hc.2.1 x hx)) (fun x hx => of_decide_eq_true (List.all_eq_true.1 hc.2.2 x hx))
  · cases h
end Go.Proofs.YtfebipiccpbdbaaDoor.P
