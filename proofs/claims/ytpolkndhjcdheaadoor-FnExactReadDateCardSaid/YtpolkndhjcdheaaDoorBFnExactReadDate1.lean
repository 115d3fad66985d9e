/- Functions of the Go program as Lean functions, and proofs about them, merged out of this session's texts by its program bundle.py; conditions: those that each theorem states. -/
import Derived.Deep.RegionHeld3
import Derived.Handed
import Derived.HandedShaped
import Derived.Laws.BytesArg
import Derived.Laws.Strings3
import Derived.Lib.AtoiErrMem
import Derived.Lib.Bytealg
import Derived.Lib.ConvBytes
import Derived.Lib.Hide
import Derived.Lib.LaidTab
import Derived.Lib.Strings
import Derived.Lib.Walk
import Derived.MakeChecks
import Derived.Shelf.SlicesE.IndexFunc
import Derived.Shelf.Vars
import Derived.Test.YtpolkndhjcdheaaDoorP0
import Derived.Test.YtpolkndhjcdheaaDoorPimplDateOk
import Derived.Test.YtpolkndhjcdheaaDoorPimplShowDate
import Derived.Test.YtpolkndhjcdheaaDoorProg
import Derived.Test.YtpolkndhjcdheaaDoorPspecShowDate
import Derived.Test.YtpolkndhjcdheaaDoorPspecl2MonthName
import Derived.Test.YtpolkndhjcdheaaDoorShelf
import Derived.Test.YtpolkndhjcdheaaDoorXA
import Derived.Test.YtpolkndhjcdheaaDoorXW
namespace Go.Proofs.YtpolkndhjcdheaaDoor.RowAid
open Go
variable {H : Type} {enc : TypeId × Value → H}
theorem handed_both {a : Assume} {C : Checked} {os : Os} {f : FuncId} {fn : Func} {s : ChangeSpec} {conds : List PathCond} {apart fresh handsOn again : Bool} {X : World → Array Value → Prop}
    (hX : ∀ (w w' : World) (args : Array Value), w.heap = w'.heap → X w args → X w' args)
    (own : ownKnob C.prog.godebug = none) (started : os.Started) (noInit : C.prog.inits.idxOf? f = none) (hfn : C.prog.funcs[f]? = some fn)
    (witness : ∃ (w : World) (tape : Tape) (i : Input), w.os = os ∧ (w.forCall tape i).Shaped C.prog ∧ i.vars = [] ∧ Input.okWide C.prog (w.forCall tape i) .any w.heap.size f i ∧
      ((s.pre enc C.prog fn conds apart (w.forCall tape i).memory i.args ∧ X (w.forCall tape i).memory i.args) ∧ sizedMet enc C.prog fn (OpenSpec.ofChange s) apart (w.forCall tape i).memory i.args) ∧ a.holds C.prog (lone (Frame.enter C.prog f i.args .normal) [] (w.forCall tape i)))
    (contract : ∀ (W : World) (base : Nat) (args : Array Value) (ds gs : List (DataW H)) (before : List MemPlace),
      (∀ (j : Nat) t v, fn.params[j]? = some t → args[j]? = some v → Value.okWide C.prog W .any base t v) →
      DataW.Whole enc C.prog fn.params.toList s.vars apart W args.toList ds gs before →
      conds.all (PathCond.test C.prog ⟨fn.params.toList, ds, s.plain.varTypes C.prog, gs⟩) = true →
      (DataW.weightsEach C.prog (fn.params.toList ++ s.plain.varTypes C.prog) (ds ++ gs)).all (· ≤ reachBytes) = true → X W args → W.ShapedOpen C.prog →
      a.holds C.prog (lone (Frame.enter C.prog f args .normal) [] W) →
      Calls C.prog f args W fun e W' => ∃ v, e = .returned v ∧ s.post enc C.prog fn apart fresh handsOn again W args v W') :
    ReturnsInHanded a C os f .any (fun w args => (s.pre enc C.prog fn conds apart w args ∧ X w args) ∧ sizedMet enc C.prog fn (OpenSpec.ofChange s) apart w args) (s.post enc C.prog fn apart fresh handsOn again) := by
  refine returnsInHanded_of_calls own started noInit witness ?_
  intro w tape i _ hsh _ hok hpre hholds
  obtain ⟨_, _, _, fn', hfn', _, _, _, _, hval⟩ := hok
  have e : fn' = fn := Option.some.inj (hfn'.symm.trans hfn)
  subst e
  obtain ⟨⟨⟨ds, gs, before, hw, hc⟩, hx⟩, hz⟩ := hpre
  have hw' := DataW.Whole.of_heap (w' := w.forCall tape i) (by rfl) hw
  refine (contract (w.forCall tape i) w.heap.size i.args ds gs before hval hw' hc (hz.weights hw) (hX _ _ _ (by rfl) hx) hsh hholds).mono fun e W' ⟨v, he, hp⟩ => ?_
  subst he
  exact ChangeSpec.post_blind hp
end Go.Proofs.YtpolkndhjcdheaaDoor.RowAid
namespace Go.Proofs.YtpolkndhjcdheaaDoor.RowAid
open Go

/-- What a list lays a variable with. -/
def laysAs (laid : List (String × DataW Unit)) (name : String) : Option (DataW Unit) :=
  match laid with
  | [] => none
  | x :: r => if x.1 = name then some x.2 else laysAs r name
theorem tabIs_mem {P : Program} {W : World} {name : String} {k : IntKind} {zs : List Int} {g : Nat} {t e : TypeId} {n : Nat}
    (hg : P.globalNamed name = some g) (hty : (P.globals[g]?).map (·.type) = some t) (ht : P.underlying t = some (.array n e)) (he : P.underlying e = some (.int k)) (hce : P.cellsOf e = 1) (hct : P.cellsOf t = n) :
    ∀ (laid : List (String × DataW Unit)) (ps : List MemPlace), DataW.LaidVars P W laid ps → laysAs laid name = some (Lib.tabData k zs) → Lib.TabIs P W name k zs := by
  intro laid
  induction laid with
  | nil => intro ps _ h; cases h
  | cons x r ih =>
    intro ps hl hm
    obtain ⟨nm, d⟩ := x
    obtain ⟨g', t', cs, fuel, p, q, hg', ht', hvar, hd, hr, _⟩ := hl
    unfold laysAs at hm
    by_cases hn : nm = name
    · subst hn
      rw [if_pos rfl] at hm
      obtain rfl : d = Lib.tabData k zs := Option.some.inj hm
      obtain rfl := Option.some.inj (hg.symm.trans hg')
      obtain rfl := Option.some.inj (hty.symm.trans ht')
      unfold Lib.TabIs
      rw [hvar, ← Lib.cells_of_tab ht he hce hct hd]
    · rw [if_neg hn] at hm
      exact ih q hr hm
theorem xw_of {m : Nat} {W : World} (hS : W.ShapedOpen Tryd.prog) (laid : List (String × DataW Unit)) (hL : laidMetH Tryd.prog laid W) (hp : (laid.all fun x => x.2.handleName?.isNone) = true)
    (h10 : m / 2 % 2 = 1 → laysAs laid "internal/strconv.uint64pow10" = some (Lib.tabData .u64 Lib.pow10Tab)) (htz : m / 4 % 2 = 1 → laysAs laid "math/bits.deBruijn64tab" = some (Lib.tabData .u8 P.deBruijn64Tab)) : P.XW m W := by
  rw [MakeChecks.laidMetH_plain _ _ _ hp] at hL
  obtain ⟨ps, hv, _⟩ := hL
  unfold P.XW
  refine ⟨fun _ => cell_of_shapedOpen_int (zero := #[.int .i64 0]) (t := 3) hS (of_decide_eq_true (by kernel_rfl)) (by kernel_rfl) rfl (by kernel_rfl) (by kernel_rfl) Tryd.underlying3, ?_⟩
  refine ⟨fun h => tabIs_mem (g := 1) (n := 20) (by kernel_rfl) rfl (by kernel_rfl) Tryd.underlying90 (by kernel_rfl) (by kernel_rfl) laid ps hv (h10 h), ?_⟩
  refine ⟨fun h => tabIs_mem (g := 5) (n := 64) (by kernel_rfl) rfl (by kernel_rfl) Tryd.underlying5 (by kernel_rfl) (by kernel_rfl) laid ps hv (htz h), ?_⟩
  trivial
end Go.Proofs.YtpolkndhjcdheaaDoor.RowAid
namespace Go.Proofs.YtpolkndhjcdheaaDoor.P
set_option linter.unusedVariables false
set_option linter.unusedSimpArgs false
open Go.RowKit Go.Lib Go.Proofs.YtpolkndhjcdheaaDoorW.PrintWords Go.Proofs.YtpolkndhjcdheaaDoorW.PrintLast Go.Proofs.YtpolkndhjcdheaaDoorW.PrintMore

/-- A digit's number, or -1. -/
def dgt (c : Int) : Int := if 48 ≤ c ∧ c ≤ 57 then c - 48 else if 97 ≤ c ∧ c ≤ 102 then c - 87 else if 65 ≤ c ∧ c ≤ 70 then c - 55 else -1
def numB (b : Int) (l : List Int) : Int := l.foldl (fun n c => n * b + dgt c) 0
def okB (b : Int) (l : List Int) : Bool := l.all fun c => decide (0 ≤ dgt c) && decide (dgt c < b)
theorem okB_at {b : Int} {l : List Int} (h : okB b l = true) (c : Int) (hc : c ∈ l) : 0 ≤ dgt c ∧ dgt c < b := by
  have := List.all_eq_true.1 h c hc
  simpa using this
theorem numB_snoc (b : Int) (l : List Int) (c : Int) : numB b (l ++ [c]) = numB b l * b + dgt c := by
  unfold numB
  rw [List.foldl_append]
  rfl
theorem numB_take {b : Int} {l : List Int} {k : Nat} (h : k < l.length) : numB b (l.take (k + 1)) = numB b (l.take k) * b + dgt (l.getD k 0) := by
  rw [List.take_add_one, List.getD_eq_getElem?_getD, List.getElem?_eq_getElem h]
  exact numB_snoc _ _ _
theorem lowerBits (c v : Int) (h : (97 ≤ c ∧ c ≤ 102 ∧ v = c) ∨ (65 ≤ c ∧ c ≤ 70 ∧ v = c + 32)) : Go.bits .or .u8 c 32 = v := by
  have hc : c = 97 ∨ c = 98 ∨ c = 99 ∨ c = 100 ∨ c = 101 ∨ c = 102 ∨ c = 65 ∨ c = 66 ∨ c = 67 ∨ c = 68 ∨ c = 69 ∨ c = 70 := by omega
  rcases hc with rfl | rfl | rfl | rfl | rfl | rfl | rfl | rfl | rfl | rfl | rfl | rfl
  all_goals
    first
    | (have : v = 97 := by omega
       subst this; decide +kernel)
    | (have : v = 98 := by omega
       subst this; decide +kernel)
    | (have : v = 99 := by omega
       subst this; decide +kernel)
    | (have : v = 100 := by omega
       subst this; decide +kernel)
    | (have : v = 101 := by omega
       subst this; decide +kernel)
    | (have : v = 102 := by omega
       subst this; decide +kernel)
theorem numB_bound (b : Int) (l : List Int) (hb : 0 ≤ b) (h : okB b l = true) (k : Nat) : 0 ≤ numB b (l.take k) ∧ numB b (l.take k) < b ^ (min k l.length) := by
  induction k with
  | zero => simp [numB]
  | succ k ih =>
    by_cases hk : k < l.length
    · rw [numB_take hk]
      have hm : l.getD k 0 ∈ l := by
        rw [List.getD_eq_getElem?_getD, List.getElem?_eq_getElem hk]
        exact List.getElem_mem hk
      obtain ⟨d0, d1⟩ := okB_at h _ hm
      obtain ⟨i0, i1⟩ := ih
      rw [Nat.min_eq_left (by omega)] at i1
      rw [Nat.min_eq_left (by omega), Int.pow_succ]
      have h1 : numB b (l.take k) * b + b ≤ b ^ k * b := by
        have : (numB b (l.take k) + 1) * b ≤ b ^ k * b := Int.mul_le_mul_of_nonneg_right (by omega) hb
        rw [Int.add_mul, Int.one_mul] at this
        exact this
      have h2 : 0 ≤ numB b (l.take k) * b := Int.mul_nonneg i0 hb
      omega
    · rw [List.take_of_length_le (by omega), Nat.min_eq_right (by omega)]
      rw [List.take_of_length_le (by omega), Nat.min_eq_right (by omega)] at ih
      exact ih
theorem pow_small {b : Int} (hb : b = 10 ∨ b = 16) {k m : Nat} (hm : (b = 10 ∧ m ≤ 15) ∨ (b = 16 ∧ m ≤ 13)) (hk : k ≤ m) : b ^ k ≤ 4503599627370496 := by
  rcases hm with ⟨rfl, h⟩ | ⟨rfl, h⟩
  · have : k = 0 ∨ k = 1 ∨ k = 2 ∨ k = 3 ∨ k = 4 ∨ k = 5 ∨ k = 6 ∨ k = 7 ∨ k = 8 ∨ k = 9 ∨ k = 10 ∨ k = 11 ∨ k = 12 ∨ k = 13 ∨ k = 14 ∨ k = 15 := by omega
    rcases this with rfl | rfl | rfl | rfl | rfl | rfl | rfl | rfl | rfl | rfl | rfl | rfl | rfl | rfl | rfl | rfl <;> decide +kernel
  · have : k = 0 ∨ k = 1 ∨ k = 2 ∨ k = 3 ∨ k = 4 ∨ k = 5 ∨ k = 6 ∨ k = 7 ∨ k = 8 ∨ k = 9 ∨ k = 10 ∨ k = 11 ∨ k = 12 ∨ k = 13 := by omega
    rcases this with rfl | rfl | rfl | rfl | rfl | rfl | rfl | rfl | rfl | rfl | rfl | rfl | rfl | rfl <;> decide +kernel

set_option maxHeartbeats 8000000 in
set_option maxRecDepth 100000 in
theorem ParseUint16 (t : ByteArray) (hne : t.size ≠ 0) (h13 : t.size ≤ 13) (hok : okB 16 (bytesOf t) = true) (w : World) :
    Calls Tryd.prog 87 #[.string t, .int .i64 16, .int .i64 64] w fun e w' => e = .returned (.tuple #[.int .u64 (numB 16 (bytesOf t)), .nilIface]) ∧ w' = Lib.bytesWorld w 5 t := by
  have hemp : t.toList.isEmpty = false := by
    rw [← decide_eq_emptyBytes]
    exact decide_eq_false (fun h => hne (by rw [h]; rfl))
  have hcv := Lib.run_convert_string_bytes (P := Tryd.prog) w 9 32 5 t Tryd.underlying9 Tryd.underlying32 Tryd.underlying5
  have hB : ∀ j, j < t.size → (Lib.bytesWorld w 5 t).cell? ⟨w.heap.size, j, none⟩ = some (.int .u8 (bt t j)) := fun j hj => by
    rw [Lib.bytesWorld_cell w 5 t j hj]
    have : bt t j = ((t.data.toList.getD j 0).toNat : Int) := by
      rw [← rd_bytesOf]
      have h' : j < t.data.toList.length := by rw [data_length]; exact hj
      simp [rd, bytesOf, List.getD_eq_getElem?_getD, List.getElem?_eq_getElem h']
    rw [← this]
  obtain ⟨W1, hW1⟩ : ∃ W1, W1 = Lib.bytesWorld w 5 t := ⟨_, rfl⟩
  rw [← hW1] at hcv hB ⊢
  clear hW1
  have hlen : (bytesOf t).length = t.size := bytesOf_length t
  have hget : ∀ k, (bytesOf t).getD k 0 = bt t k := fun k => by rw [← rd_bytesOf]; simp [rd]
  have HA : Hid (∀ k, k < t.size → (0 ≤ dgt (bt t k) ∧ dgt (bt t k) < 16) ∧ (0 ≤ numB 16 ((bytesOf t).take k) ∧ numB 16 ((bytesOf t).take k) < 4503599627370496) ∧ numB 16 ((bytesOf t).take (k + 1)) = numB 16 ((bytesOf t).take k) * 16 + dgt (bt t k)) := Lib.hid fun k hk => by
    have hm : (bytesOf t).getD k 0 ∈ bytesOf t := by
      rw [List.getD_eq_getElem?_getD, List.getElem?_eq_getElem (by omega)]
      exact List.getElem_mem (by omega)
    have h1 := okB_at hok _ hm
    rw [hget] at h1
    have h2 := numB_bound 16 (bytesOf t) (by decide) hok k
    have h3 := pow_small (b := 16) (.inr rfl) (m := 13) (.inr ⟨rfl, Nat.le_refl _⟩) (k := min k (bytesOf t).length) (by omega)
    have h4 := numB_take (b := 16) (l := bytesOf t) (k := k) (by omega)
    rw [hget] at h4
    exact ⟨h1, ⟨h2.1, by omega⟩, h4⟩
  have HE : Hid (numB 16 ((bytesOf t).take t.size) = numB 16 (bytesOf t)) := Lib.hid (by rw [← hlen, List.take_length])
  have HZ : Hid (numB 16 ((bytesOf t).take 0) = 0) := Lib.hid rfl
  clear hok hget hlen
  have hmv : IntKind.u64.wrap (IntKind.u64.wrap 18446744073709551616 - 1) = 18446744073709551615 := by
    rw [IntKind.wrap_u64, IntKind.wrap_u64]
    decide
  go_enter Tryd.func87, Tryd.ntmps87
  go_wp2
  go_loop [12, 13, 101] (fun vu vn vi => ∃ (k : Nat) (a : Int), vu = .bool false ∧ vn = .int .u64 a ∧ vi = .int .i64 k ∧ k ≤ t.size ∧ Hid (a = numB 16 ((bytesOf t).take k)))
    (fun _ _ vi => t.size - (Go.RowKit.intOf vi).toNat)
  case atStart => exact ⟨0, 0, rfl, rfl, rfl, by omega, HZ⟩
  case round =>
    obtain ⟨k, a, rfl, rfl, rfl, hk, hh⟩ := hrel
    by_cases hkn : k < t.size
    · have hc := hB k hkn
      have hr := bt_range t k
      obtain ⟨⟨d0, d1⟩, ⟨b0, b1⟩, hnx⟩ := HA.out k hkn
      rw [← hh.out] at b0 b1 hnx
      obtain ⟨c, hcc⟩ : ∃ c, bt t k = c := ⟨_, rfl⟩
      rw [hcc] at hc hr d0 d1 hnx
      obtain ⟨r0, r1⟩ := hr
      clear hcc hB hh
      by_cases hdig : 48 ≤ c ∧ c ≤ 57
      · obtain ⟨g0, g1⟩ := hdig
        have hd : dgt c = c - 48 := by unfold dgt; rw [if_pos ⟨g0, g1⟩]
        rw [hd] at hnx
        clear d0 d1 hd
        have iov : a * 16 + (c - 48) < 18446744073709551616 := by omega
        have HN : Hid (a * 16 + (c - 48) = numB 16 ((bytesOf t).take (k + 1))) := Lib.hid hnx.symm
        clear hnx
        go_wp2
        refine ⟨⟨k + 1, a * 16 + (c - 48), rfl, (by first | rfl | (congr 1; omega)), (by first | rfl | (congr 1; omega)), by omega, HN⟩, by simp [Go.RowKit.intOf]; omega⟩
      · have hv : ∃ v, Go.bits .or .u8 c 32 = v ∧ 97 ≤ v ∧ v ≤ 102 ∧ dgt c = v - 87 := by
          unfold dgt at d0 ⊢
          rw [if_neg hdig] at d0 ⊢
          by_cases h1 : 97 ≤ c ∧ c ≤ 102
          · rw [if_pos h1]
            exact ⟨c, lowerBits c c (.inl ⟨h1.1, h1.2, rfl⟩), h1.1, h1.2, rfl⟩
          · rw [if_neg h1] at d0 ⊢
            by_cases h2 : 65 ≤ c ∧ c ≤ 70
            · rw [if_pos h2]
              exact ⟨c + 32, lowerBits c _ (.inr ⟨h2.1, h2.2, rfl⟩), by omega, by omega, by omega⟩
            · rw [if_neg h2] at d0
              omega
        obtain ⟨v, hv0, v0, v1, hd⟩ := hv
        have hnd : ¬ (48 ≤ c ∧ c ≤ 57) := hdig
        have hc57 : (c < 48) ∨ (57 < c) := by omega
        have hcl : (65 ≤ c ∧ c ≤ 70) ∨ (97 ≤ c ∧ c ≤ 102) := by
          unfold dgt at d0
          rw [if_neg hdig] at d0
          by_cases h1 : 97 ≤ c ∧ c ≤ 102
          · exact .inr h1
          · rw [if_neg h1] at d0
            by_cases h2 : 65 ≤ c ∧ c ≤ 70
            · exact .inl h2
            · rw [if_neg h2] at d0; omega
        have c95 : ¬ c = 95 := by omega
        have c48 : 57 < c := by omega
        have c47 : 48 ≤ c := by omega
        have c58 : ¬ c ≤ 57 := by omega
        have v122 : v ≤ 122 := by omega
        rw [hd] at hnx
        clear d0 d1 hd hdig hnd hc57 hcl
        have iov : a * 16 + (v - 87) < 18446744073709551616 := by omega
        have HN : Hid (a * 16 + (v - 97 + 10) = numB 16 ((bytesOf t).take (k + 1))) := Lib.hid (by rw [hnx]; omega)
        clear hnx
        go_wp2
        refine ⟨⟨k + 1, a * 16 + (v - 97 + 10), rfl, (by first | rfl | (congr 1; omega)), (by first | rfl | (congr 1; omega)), by omega, HN⟩, by simp [Go.RowKit.intOf]; omega⟩
    · have hkk : k = t.size := by omega
      subst hkk
      have hE := HE.out
      have hE2 := hh.out.trans hE
      clear hE hh HA HE HZ hB hcv
      subst hE2
      go_wp2
      go_ret2
      exact ⟨rfl, rfl⟩
set_option maxHeartbeats 8000000 in
set_option maxRecDepth 100000 in
theorem ParseUint10 (t : ByteArray) (hne : t.size ≠ 0) (h13 : t.size ≤ 15) (hok : okB 10 (bytesOf t) = true) (w : World) :
    Calls Tryd.prog 87 #[.string t, .int .i64 10, .int .i64 64] w fun e w' => e = .returned (.tuple #[.int .u64 (numB 10 (bytesOf t)), .nilIface]) ∧ w' = Lib.bytesWorld w 5 t := by
  have hemp : t.toList.isEmpty = false := by
    rw [← decide_eq_emptyBytes]
    exact decide_eq_false (fun h => hne (by rw [h]; rfl))
  have hcv := Lib.run_convert_string_bytes (P := Tryd.prog) w 9 32 5 t Tryd.underlying9 Tryd.underlying32 Tryd.underlying5
  have hB : ∀ j, j < t.size → (Lib.bytesWorld w 5 t).cell? ⟨w.heap.size, j, none⟩ = some (.int .u8 (bt t j)) := fun j hj => by
    rw [Lib.bytesWorld_cell w 5 t j hj]
    have : bt t j = ((t.data.toList.getD j 0).toNat : Int) := by
      rw [← rd_bytesOf]
      have h' : j < t.data.toList.length := by rw [data_length]; exact hj
      simp [rd, bytesOf, List.getD_eq_getElem?_getD, List.getElem?_eq_getElem h']
    rw [← this]
  obtain ⟨W1, hW1⟩ : ∃ W1, W1 = Lib.bytesWorld w 5 t := ⟨_, rfl⟩
  rw [← hW1] at hcv hB ⊢
  clear hW1
  have hlen : (bytesOf t).length = t.size := bytesOf_length t
  have hget : ∀ k, (bytesOf t).getD k 0 = bt t k := fun k => by rw [← rd_bytesOf]; simp [rd]
  have HA : Hid (∀ k, k < t.size → (0 ≤ dgt (bt t k) ∧ dgt (bt t k) < 10) ∧ (0 ≤ numB 10 ((bytesOf t).take k) ∧ numB 10 ((bytesOf t).take k) < 4503599627370496) ∧ numB 10 ((bytesOf t).take (k + 1)) = numB 10 ((bytesOf t).take k) * 10 + dgt (bt t k)) := Lib.hid fun k hk => by
    have hm : (bytesOf t).getD k 0 ∈ bytesOf t := by
      rw [List.getD_eq_getElem?_getD, List.getElem?_eq_getElem (by omega)]
      exact List.getElem_mem (by omega)
    have h1 := okB_at hok _ hm
    rw [hget] at h1
    have h2 := numB_bound 10 (bytesOf t) (by decide) hok k
    have h3 := pow_small (b := 10) (.inl rfl) (m := 15) (.inl ⟨rfl, Nat.le_refl _⟩) (k := min k (bytesOf t).length) (by omega)
    have h4 := numB_take (b := 10) (l := bytesOf t) (k := k) (by omega)
    rw [hget] at h4
    exact ⟨h1, ⟨h2.1, by omega⟩, h4⟩
  have HE : Hid (numB 10 ((bytesOf t).take t.size) = numB 10 (bytesOf t)) := Lib.hid (by rw [← hlen, List.take_length])
  have HZ : Hid (numB 10 ((bytesOf t).take 0) = 0) := Lib.hid rfl
  clear hok hget hlen
  have hmv : IntKind.u64.wrap (IntKind.u64.wrap 18446744073709551616 - 1) = 18446744073709551615 := by
    rw [IntKind.wrap_u64, IntKind.wrap_u64]
    decide
  go_enter Tryd.func87, Tryd.ntmps87
  go_wp2
  go_loop [12, 13, 101] (fun vu vn vi => ∃ (k : Nat) (a : Int), vu = .bool false ∧ vn = .int .u64 a ∧ vi = .int .i64 k ∧ k ≤ t.size ∧ Hid (a = numB 10 ((bytesOf t).take k)))
    (fun _ _ vi => t.size - (Go.RowKit.intOf vi).toNat)
  case atStart => exact ⟨0, 0, rfl, rfl, rfl, by omega, HZ⟩
  case round =>
    obtain ⟨k, a, rfl, rfl, rfl, hk, hh⟩ := hrel
    by_cases hkn : k < t.size
    · have hc := hB k hkn
      have hr := bt_range t k
      obtain ⟨⟨d0, d1⟩, ⟨b0, b1⟩, hnx⟩ := HA.out k hkn
      rw [← hh.out] at b0 b1 hnx
      obtain ⟨c, hcc⟩ : ∃ c, bt t k = c := ⟨_, rfl⟩
      rw [hcc] at hc hr d0 d1 hnx
      obtain ⟨r0, r1⟩ := hr
      clear hcc hB hh
      have hg : 48 ≤ c ∧ c ≤ 57 := by
        unfold dgt at d0 d1
        by_cases h0 : 48 ≤ c ∧ c ≤ 57
        · exact h0
        · rw [if_neg h0] at d0 d1
          by_cases h1 : 97 ≤ c ∧ c ≤ 102
          · rw [if_pos h1] at d1; omega
          · rw [if_neg h1] at d0 d1
            by_cases h2 : 65 ≤ c ∧ c ≤ 70
            · rw [if_pos h2] at d1; omega
            · rw [if_neg h2] at d0; omega
      obtain ⟨g0, g1⟩ := hg
      have hd : dgt c = c - 48 := by unfold dgt; rw [if_pos ⟨g0, g1⟩]
      rw [hd] at hnx
      clear d0 d1 hd
      have iov : a * 10 + (c - 48) < 18446744073709551616 := by omega
      have HN : Hid (a * 10 + (c - 48) = numB 10 ((bytesOf t).take (k + 1))) := Lib.hid hnx.symm
      clear hnx
      go_wp2
      refine ⟨⟨k + 1, a * 10 + (c - 48), rfl, (by first | rfl | (congr 1; omega)), (by first | rfl | (congr 1; omega)), by omega, HN⟩, by simp [Go.RowKit.intOf]; omega⟩
    · have hkk : k = t.size := by omega
      subst hkk
      have hE := HE.out
      have hE2 := hh.out.trans hE
      clear hE hh HA HE HZ hB hcv
      subst hE2
      go_wp2
      go_ret2
      exact ⟨rfl, rfl⟩

set_option maxHeartbeats 8000000 in
set_option maxRecDepth 100000 in
theorem ParseIntIn16 (t : ByteArray) (hne : t.size ≠ 0) (h13 : t.size ≤ 13) (hok : okB 16 (bytesOf t) = true) (w : World) :
    Calls Tryd.prog 67 #[.string t, .int .i64 16, .int .i64 64] w fun e w' => e = .returned (.tuple #[.int .i64 (numB 16 (bytesOf t)), .nilIface]) ∧ w' = Lib.bytesWorld w 5 t := by
  have hU := ParseUint16 t hne h13 hok w
  have hemp : t.toList.isEmpty = false := by
    rw [← decide_eq_emptyBytes]
    exact decide_eq_false (fun h => hne (by rw [h]; rfl))
  have hlen : (bytesOf t).length = t.size := bytesOf_length t
  have hb := numB_bound 16 (bytesOf t) (by decide) hok t.size
  have hp := pow_small (b := 16) (.inr rfl) (m := 13) (.inr ⟨rfl, Nat.le_refl _⟩) (k := t.size) h13
  rw [← hlen, List.take_length, hlen, Nat.min_self] at hb
  have hpos : 0 < t.size := by omega
  have hm : (bytesOf t).getD 0 0 ∈ bytesOf t := by
    rw [List.getD_eq_getElem?_getD, List.getElem?_eq_getElem (by omega)]
    exact List.getElem_mem (by omega)
  have h1 := okB_at hok _ hm
  obtain ⟨c0, hs0, hc0⟩ : ∃ c0 : UInt8, t[0]'hpos = c0 ∧ (bytesOf t).getD 0 0 = (c0.toNat : Int) := by
    refine ⟨_, rfl, ?_⟩
    have h' : 0 < t.data.toList.length := by rw [data_length]; exact hpos
    simp only [bytesOf, List.getD_eq_getElem?_getD, List.getElem?_map, List.getElem?_eq_getElem h', Option.map_some, Option.getD_some]
    rfl
  rw [hc0] at h1
  have i43 : ¬ (c0.toNat : Int) = 43 := by
    intro h
    rw [h] at h1
    exact absurd h1.1 (by decide)
  have i45 : ¬ (c0.toNat : Int) = 45 := by
    intro h
    rw [h] at h1
    exact absurd h1.1 (by decide)
  obtain ⟨a, ha⟩ : ∃ a : Int, numB 16 (bytesOf t) = a := ⟨_, rfl⟩
  rw [ha] at hU hb ⊢
  obtain ⟨a0, a1⟩ := hb
  have iin : a < 9223372036854775808 := by omega
  have a2 : a ≤ 18446744073709551615 := by omega
  clear ha h1 hm hp a1 hc0 hok hlen
  go_enter Tryd.func67, Tryd.ntmps67
  go_wp2_with (go_at_call 87; refine hU.mono ?_; rintro e w1 ⟨rfl, rfl⟩)
  go_wp2
  go_ret2
  exact ⟨rfl, rfl⟩
set_option maxHeartbeats 8000000 in
set_option maxRecDepth 100000 in
theorem ParseInt16 (t : ByteArray) (hne : t.size ≠ 0) (h13 : t.size ≤ 13) (hok : okB 16 (bytesOf t) = true) (w : World) :
    Calls Tryd.prog 52 #[.string t, .int .i64 16, .int .i64 64] w fun e w' => e = .returned (.tuple #[.int .i64 (numB 16 (bytesOf t)), .nilIface]) ∧ w' = Lib.bytesWorld w 5 t := by
  have hI := ParseIntIn16 t hne h13 hok w
  clear hok
  go_enter Tryd.func52, Tryd.ntmps52
  go_wp2_with (go_at_call 67; refine hI.mono ?_; rintro e w1 ⟨rfl, rfl⟩)
  go_wp2
  go_ret2
  exact ⟨rfl, rfl⟩

set_option maxHeartbeats 8000000 in
set_option maxRecDepth 100000 in
theorem ParseIntIn10 (t : ByteArray) (hne : t.size ≠ 0) (h13 : t.size ≤ 15) (hok : okB 10 (bytesOf t) = true) (w : World) :
    Calls Tryd.prog 67 #[.string t, .int .i64 10, .int .i64 64] w fun e w' => e = .returned (.tuple #[.int .i64 (numB 10 (bytesOf t)), .nilIface]) ∧ w' = Lib.bytesWorld w 5 t := by
  have hU := ParseUint10 t hne h13 hok w
  have hemp : t.toList.isEmpty = false := by
    rw [← decide_eq_emptyBytes]
    exact decide_eq_false (fun h => hne (by rw [h]; rfl))
  have hlen : (bytesOf t).length = t.size := bytesOf_length t
  have hb := numB_bound 10 (bytesOf t) (by decide) hok t.size
  have hp := pow_small (b := 10) (.inl rfl) (m := 15) (.inl ⟨rfl, Nat.le_refl _⟩) (k := t.size) h13
  rw [← hlen, List.take_length, hlen, Nat.min_self] at hb
  have hpos : 0 < t.size := by omega
  have hm : (bytesOf t).getD 0 0 ∈ bytesOf t := by
    rw [List.getD_eq_getElem?_getD, List.getElem?_eq_getElem (by omega)]
    exact List.getElem_mem (by omega)
  have h1 := okB_at hok _ hm
  obtain ⟨c0, hs0, hc0⟩ : ∃ c0 : UInt8, t[0]'hpos = c0 ∧ (bytesOf t).getD 0 0 = (c0.toNat : Int) := by
    refine ⟨_, rfl, ?_⟩
    have h' : 0 < t.data.toList.length := by rw [data_length]; exact hpos
    simp only [bytesOf, List.getD_eq_getElem?_getD, List.getElem?_map, List.getElem?_eq_getElem h', Option.map_some, Option.getD_some]
    rfl
  rw [hc0] at h1
  have i43 : ¬ (c0.toNat : Int) = 43 := by
    intro h
    rw [h] at h1
    exact absurd h1.1 (by decide)
  have i45 : ¬ (c0.toNat : Int) = 45 := by
    intro h
    rw [h] at h1
    exact absurd h1.1 (by decide)
  obtain ⟨a, ha⟩ : ∃ a : Int, numB 10 (bytesOf t) = a := ⟨_, rfl⟩
  rw [ha] at hU hb ⊢
  obtain ⟨a0, a1⟩ := hb
  have iin : a < 9223372036854775808 := by omega
  have a2 : a ≤ 18446744073709551615 := by omega
  clear ha h1 hm hp a1 hc0 hok hlen
  go_enter Tryd.func67, Tryd.ntmps67
  go_wp2_with (go_at_call 87; refine hU.mono ?_; rintro e w1 ⟨rfl, rfl⟩)
  go_wp2
  go_ret2
  exact ⟨rfl, rfl⟩
set_option maxHeartbeats 8000000 in
set_option maxRecDepth 100000 in
theorem ParseInt10 (t : ByteArray) (hne : t.size ≠ 0) (h13 : t.size ≤ 15) (hok : okB 10 (bytesOf t) = true) (w : World) :
    Calls Tryd.prog 52 #[.string t, .int .i64 10, .int .i64 64] w fun e w' => e = .returned (.tuple #[.int .i64 (numB 10 (bytesOf t)), .nilIface]) ∧ w' = Lib.bytesWorld w 5 t := by
  have hI := ParseIntIn10 t hne h13 hok w
  clear hok
  go_enter Tryd.func52, Tryd.ntmps52
  go_wp2_with (go_at_call 67; refine hI.mono ?_; rintro e w1 ⟨rfl, rfl⟩)
  go_wp2
  go_ret2
  exact ⟨rfl, rfl⟩

/-- What is told of strconv.ParseInt: the number of few digits at base 10 or 16. -/
def strconv_ParseInt.f (a0 : ByteArray) (a1 a2 : Int) : Option (Int × Option Int) :=
  if a2 = 64 ∧ a0.size ≠ 0 ∧ okB a1 (bytesOf a0) = true ∧ ((a1 = 16 ∧ a0.size ≤ 13) ∨ (a1 = 10 ∧ a0.size ≤ 15)) then some (numB a1 (bytesOf a0), none) else none
theorem strconv_ParseInt.calls (a0 : ByteArray) (a1 a2 : Int) (r1 : Int) (r2 : Option Int) (w : World) (h : strconv_ParseInt.f a0 a1 a2 = some (r1, r2)) :
    Calls Tryd.prog 52 #[.string a0, .int .i64 a1, .int .i64 a2] w fun e w' => e = .returned (.tuple #[.int .i64 r1, errW r2]) ∧ Below w.heap.size w w' := by
  unfold strconv_ParseInt.f at h
  split at h
  · rename_i hc
    obtain ⟨rfl, hne, hok, hb⟩ := hc
    have e := Option.some.inj h
    rw [Prod.mk.injEq] at e
    obtain ⟨rfl, rfl⟩ := e
    rcases hb with ⟨rfl, hs⟩ | ⟨rfl, hs⟩
    · refine (ParseInt16 a0 hne hs hok w).mono ?_
      rintro e w' ⟨rfl, rfl⟩
      exact ⟨rfl, Lib.bytesWorld_below _ _ _⟩
    · refine (ParseInt10 a0 hne hs hok w).mono ?_
      rintro e w' ⟨rfl, rfl⟩
      exact ⟨rfl, Lib.bytesWorld_below _ _ _⟩
  · cases h
end Go.Proofs.YtpolkndhjcdheaaDoor.P
namespace Go.Proofs.YtpolkndhjcdheaaDoor.P
open Go.RowKit Go.Proofs.YtpolkndhjcdheaaDoorW.PrintWords Go.Proofs.YtpolkndhjcdheaaDoorW.PrintLast Go.Proofs.YtpolkndhjcdheaaDoorW.PrintMore
attribute [local go_sem] max2_int min2_int max_two min_two max_three min_three max_four min_four   -- for this text's walks alone
set_option linter.unusedVariables false
set_option linter.unusedSimpArgs false

/-! ### impl_isDigit: function 53 -/
def impl_isDigit.f (a0 : Int) : Option (Bool) := if a0 ≥ 48 then (some (decide (a0 ≤ 57))) else (some false)
set_option maxHeartbeats 8000000 in
set_option maxRecDepth 100000 in
theorem impl_isDigit.calls (a0 : Int) (r : Bool) (w : World) (h : impl_isDigit.f a0 = some r) :
  Calls Tryd.prog 53 #[.int .u8 a0] w fun e w' => e = .returned (.bool r) ∧ Drawn0 w w' := by
 have H : (if a0 ≥ 48 then (some (decide (a0 ≤ 57))) else (some false)) = some r := h
 clear h
 by_cases c2 : a0 ≥ 48
 ·
  rw [if_pos c2] at H
  have c2b0 : decide (48 ≤ a0) = true := decide_eq_true c2
  clear c2
  obtain rfl := Option.some.inj H
  go_enter Tryd.func53, Tryd.ntmps53
  go_wp2
  go_ret
  exact ⟨by first | rfl | (simp; done) | (simp [*]; done), by repeat (first | exact Drawn0.refl _ | apply Drawn0.step)⟩
 ·
  rw [if_neg c2] at H
  have c2b0 : decide (48 ≤ a0) = false := decide_eq_false c2
  clear c2
  obtain rfl := Option.some.inj H
  go_enter Tryd.func53, Tryd.ntmps53
  go_wp2
  go_ret
  exact ⟨by first | rfl | (simp; done) | (simp [*]; done), by repeat (first | exact Drawn0.refl _ | apply Drawn0.step)⟩
/-! ### impl_isHex: function 51 -/
def impl_isHex.f (a0 : Int) : Option (Bool) := (impl_isDigit.f a0).bind fun t101 => (if t101 = true then (some true) else (if a0 ≥ 97 then (if a0 ≤ 102 then (some true) else (if a0 ≥ 65 then (some (decide (a0 ≤ 70))) else (some false))) else (if a0 ≥ 65 then (some (decide (a0 ≤ 70))) else (some false))))
set_option maxHeartbeats 8000000 in
set_option maxRecDepth 100000 in
theorem impl_isHex.calls (a0 : Int) (r : Bool) (w : World) (h : impl_isHex.f a0 = some r) :
  Calls Tryd.prog 51 #[.int .u8 a0] w fun e w' => e = .returned (.bool r) ∧ Drawn0 w w' := by
 have H : ((impl_isDigit.f a0).bind fun t101 => (if t101 = true then (some true) else (if a0 ≥ 97 then (if a0 ≤ 102 then (some true) else (if a0 ≥ 65 then (some (decide (a0 ≤ 70))) else (some false))) else (if a0 ≥ 65 then (some (decide (a0 ≤ 70))) else (some false))))) = some r := h
 clear h
 obtain ⟨t101, A20, H⟩ := Option.bind_eq_some_iff.mp H
 try dsimp only at H
 have A2 := Aside0.mk A20
 clear A20
 by_cases c3 : t101 = true
 ·
  subst c3
  have H1 : (some true) = some r := by rw [if_pos rfl] at H; exact H
  clear H
  have H := H1
  clear H1
  obtain rfl := Option.some.inj H
  go_enter Tryd.func51, Tryd.ntmps51
  go_wp2_with (first | ((with_reducible refine gate_callee (f := 53) rfl ?_); refine goesL_ (some 4) rfl rfl Tryd.func53 (by kernel_rfl) rfl #[.int .u8 a0] rfl mc ?_; (with_reducible refine (impl_isDigit.calls a0 true _ A2.out).mono ?_); rintro e w' ⟨rfl, ⟨nd, rfl⟩⟩; refine ⟨_, rfl, ?_⟩))
  go_ret
  exact ⟨by first | rfl | (simp; done) | (simp [*]; done), by repeat (first | exact Drawn0.refl _ | apply Drawn0.step)⟩
 ·
  replace c3 := Bool.eq_false_iff.mpr c3
  subst c3
  rw [if_neg (show ¬ (false = true) by decide)] at H
  by_cases c4 : a0 ≥ 97
  ·
   rw [if_pos c4] at H
   have c4b0 : decide (97 ≤ a0) = true := decide_eq_true c4
   clear c4
   by_cases c5 : a0 ≤ 102
   ·
    rw [if_pos c5] at H
    have c5b0 : decide (a0 ≤ 102) = true := decide_eq_true c5
    clear c5
    obtain rfl := Option.some.inj H
    go_enter Tryd.func51, Tryd.ntmps51
    go_wp2_with (first | ((with_reducible refine gate_callee (f := 53) rfl ?_); refine goesL_ (some 4) rfl rfl Tryd.func53 (by kernel_rfl) rfl #[.int .u8 a0] rfl mc ?_; (with_reducible refine (impl_isDigit.calls a0 false _ A2.out).mono ?_); rintro e w' ⟨rfl, ⟨nd, rfl⟩⟩; refine ⟨_, rfl, ?_⟩))
    go_ret
    exact ⟨by first | rfl | (simp; done) | (simp [*]; done), by repeat (first | exact Drawn0.refl _ | apply Drawn0.step)⟩
   ·
    rw [if_neg c5] at H
    have c5b0 : decide (a0 ≤ 102) = false := decide_eq_false c5
    clear c5
    by_cases c6 : a0 ≥ 65
    ·
     rw [if_pos c6] at H
     have c6b0 : decide (65 ≤ a0) = true := decide_eq_true c6
     clear c6
     obtain rfl := Option.some.inj H
     go_enter Tryd.func51, Tryd.ntmps51
     go_wp2_with (first | ((with_reducible refine gate_callee (f := 53) rfl ?_); refine goesL_ (some 4) rfl rfl Tryd.func53 (by kernel_rfl) rfl #[.int .u8 a0] rfl mc ?_; (with_reducible refine (impl_isDigit.calls a0 false _ A2.out).mono ?_); rintro e w' ⟨rfl, ⟨nd, rfl⟩⟩; refine ⟨_, rfl, ?_⟩))
     go_ret
     exact ⟨by first | rfl | (simp; done) | (simp [*]; done), by repeat (first | exact Drawn0.refl _ | apply Drawn0.step)⟩
    ·
     rw [if_neg c6] at H
     have c6b0 : decide (65 ≤ a0) = false := decide_eq_false c6
     clear c6
     obtain rfl := Option.some.inj H
     go_enter Tryd.func51, Tryd.ntmps51
     go_wp2_with (first | ((with_reducible refine gate_callee (f := 53) rfl ?_); refine goesL_ (some 4) rfl rfl Tryd.func53 (by kernel_rfl) rfl #[.int .u8 a0] rfl mc ?_; (with_reducible refine (impl_isDigit.calls a0 false _ A2.out).mono ?_); rintro e w' ⟨rfl, ⟨nd, rfl⟩⟩; refine ⟨_, rfl, ?_⟩))
     go_ret
     exact ⟨by first | rfl | (simp; done) | (simp [*]; done), by repeat (first | exact Drawn0.refl _ | apply Drawn0.step)⟩
  ·
   rw [if_neg c4] at H
   have c4b0 : decide (97 ≤ a0) = false := decide_eq_false c4
   clear c4
   by_cases c7 : a0 ≥ 65
   ·
    rw [if_pos c7] at H
    have c7b0 : decide (65 ≤ a0) = true := decide_eq_true c7
    clear c7
    obtain rfl := Option.some.inj H
    go_enter Tryd.func51, Tryd.ntmps51
    go_wp2_with (first | ((with_reducible refine gate_callee (f := 53) rfl ?_); refine goesL_ (some 4) rfl rfl Tryd.func53 (by kernel_rfl) rfl #[.int .u8 a0] rfl mc ?_; (with_reducible refine (impl_isDigit.calls a0 false _ A2.out).mono ?_); rintro e w' ⟨rfl, ⟨nd, rfl⟩⟩; refine ⟨_, rfl, ?_⟩))
    go_ret
    exact ⟨by first | rfl | (simp; done) | (simp [*]; done), by repeat (first | exact Drawn0.refl _ | apply Drawn0.step)⟩
   ·
    rw [if_neg c7] at H
    have c7b0 : decide (65 ≤ a0) = false := decide_eq_false c7
    clear c7
    obtain rfl := Option.some.inj H
    go_enter Tryd.func51, Tryd.ntmps51
    go_wp2_with (first | ((with_reducible refine gate_callee (f := 53) rfl ?_); refine goesL_ (some 4) rfl rfl Tryd.func53 (by kernel_rfl) rfl #[.int .u8 a0] rfl mc ?_; (with_reducible refine (impl_isDigit.calls a0 false _ A2.out).mono ?_); rintro e w' ⟨rfl, ⟨nd, rfl⟩⟩; refine ⟨_, rfl, ?_⟩))
    go_ret
    exact ⟨by first | rfl | (simp; done) | (simp [*]; done), by repeat (first | exact Drawn0.refl _ | apply Drawn0.step)⟩
end Go.Proofs.YtpolkndhjcdheaaDoor.P
namespace Go.Proofs.YtpolkndhjcdheaaDoor.P
set_option linter.unusedVariables false
set_option linter.unusedSimpArgs false
open Go.RowKit Go.Lib Go.Shelf Go.Proofs.YtpolkndhjcdheaaDoorW.PrintWords Go.Proofs.YtpolkndhjcdheaaDoorW.PrintLast Go.Proofs.YtpolkndhjcdheaaDoorW.PrintMore

/-- The function that 'all' makes out of a predicate g: 'not g'. -/
theorem all_pred (g : Nat) (p : Int → Bool) (B : Nat) (w : World) (hB : B < w.heap.size) (hcell : w.cell? ⟨B, 0, none⟩ = some (.func (.func g) #[] #[]))
    (eg : ∀ args w, (callFunc g args).run Tryd.prog w = .ok (.enter g args) w) (hp : PredAt Tryd.prog g #[] (Value.int .u8) p w) :
    PredAt Tryd.prog 66 #[.pointer (some ⟨B, 0, none⟩)] (Value.int .u8) (fun x => !p x) w := fun W x hb => by
  have hc : W.cell? ⟨B, 0, none⟩ = some (.func (.func g) #[] #[]) := (hb.cell (p := ⟨B, 0, none⟩) hB).trans hcell
  have hcall := hp W x hb
  show Calls Tryd.prog 66 #[.int .u8 x, .pointer (some ⟨B, 0, none⟩)] W _
  unfold FnGives at hcall
  obtain ⟨y, hy⟩ : ∃ y, p x = y := ⟨_, rfl⟩
  rw [hy] at hcall
  have Hy := Lib.hid hy
  clear hy
  go_enter Tryd.func66, Tryd.ntmps66
  go_wp2_with (go_at_fn g; refine hcall.mono ?_; rintro e w' ⟨rfl, q, rfl⟩)
  go_ret
  exact ⟨by rw [Hy.out]; rfl, _, rfl⟩

theorem any_not (l : List Int) (p : Int → Bool) : l.any (fun x => !p x) = !(l.all p) := by
  induction l with
  | nil => rfl
  | cons a l ih => simp [List.any_cons, List.all_cons, ih]
theorem below_bytesWorld {w W : World} (h : Below w.heap.size w W) (hle : w.heap.size ≤ W.heap.size) (e : TypeId) (s : ByteArray) : Below w.heap.size w (bytesWorld W e s) :=
  ⟨h.os, h.tape, h.output, by rw [bytesWorld_size]; omega, fun j hj => (bytesWorld_at_old W e s j (by omega)).trans (h.block j hj)⟩

set_option maxHeartbeats 1000000 in
/-- 'all', of whatever predicate that only reads. -/
theorem all_any (g : Nat) (p : Int → Bool) (s : ByteArray) (w : World)
    (eg : ∀ args w, (callFunc g args).run Tryd.prog w = .ok (.enter g args) w) (hp : PredAt Tryd.prog g #[] (Value.int .u8) p w) (hs : s.size ≤ 9223372036854775807) :
    Calls Tryd.prog 50 #[.string s, .func (.func g) #[] #[]] w fun e w' => e = .returned (.bool ((bytesOf s).all p)) ∧ Below w.heap.size w w' := by
  have eg1 : ∀ args w, (callFunc 66 args).run Tryd.prog w = .ok (.enter 66 args) w := enters_of Tryd.func66 (by kernel_rfl) rfl
  have kc := fun W : World => Lib.run_convert_string_bytes (P := Tryd.prog) W 9 32 5 s Tryd.underlying9 Tryd.underlying32 Tryd.underlying5
  have hB0 : Below w.heap.size w (bytesWorld (w.alloc (.cells #[.func (.func g) #[] #[]] 61)) 5 s) := below_bytesWorld ((Below.refl _ w).alloc (Nat.le_refl _) _) (by simp) 5 s
  have hcon := fun c => AnyE.slices_ContainsFunc Tryd.layCFb (Value.int .u8) (fun x => !p x) 66 #[.pointer (some ⟨w.heap.size, 0, none⟩)] eg1 (w.heap.size + 1) 0 s.size c (bytesOf s) (bytesWorld (w.alloc (.cells #[.func (.func g) #[] #[]] 61)) 5 s)
    (all_pred g p w.heap.size _ (by rw [bytesWorld_size]; simp; omega) (by rw [bytesWorld_old _ _ _ _ (by simp)]; simp) eg (hp.later hB0)) (by rw [bytesOf_length]; exact Nat.le_refl _) hs
    (fun j hj => by
      have hj' : j < s.size := by rw [bytesOf_length] at hj; exact hj
      have h1 := bytesWorld_cell (w.alloc (.cells #[.func (.func g) #[] #[]] 61)) 5 s j hj'
      rw [Nat.zero_add]
      have h2 : (w.alloc (.cells #[.func (.func g) #[] #[]] 61)).heap.size = w.heap.size + 1 := by simp
      rw [h2] at h1
      rw [h1]
      simp [bytesOf, hj'])
  change ∀ c, Calls Tryd.prog 65 _ _ _ at hcon
  have hany : ((bytesOf s).take s.size).any (fun x => !p x) = !((bytesOf s).all p) := by
    rw [List.take_of_length_le (by rw [bytesOf_length]; exact Nat.le_refl _)]
    exact any_not _ _
  rw [hany] at hcon
  have HB := Lib.hid (fun q => below_drewN' hB0 q)
  clear hany hB0
  obtain ⟨y, hy⟩ : ∃ y, (bytesOf s).all p = y := ⟨_, rfl⟩
  rw [hy] at hcon
  have H1 := Lib.hid hy
  clear hy
  go_enter Tryd.func50, Tryd.ntmps50
  go_wp2_with fail
  refine (hcon _).mono ?_
  rintro e w' ⟨rfl, q, rfl⟩
  go_wp2_with fail
  go_ret
  exact ⟨by rw [H1.out]; rfl, HB.out _⟩

theorem tot_ite {α : Type} {c : Prop} [Decidable c] {x y : Option α} (hx : ∃ b, x = some b) (hy : ∃ b, y = some b) : ∃ b, (if c then x else y) = some b := by
  split
  · exact hx
  · exact hy
theorem tot_bind {α β : Type} {x : Option α} {f : α → Option β} (hx : ∃ a, x = some a) (hf : ∀ a, ∃ b, f a = some b) : ∃ b, x.bind f = some b := by
  obtain ⟨a, rfl⟩ := hx
  exact hf a

/-- A printed predicate, as 'PredAt' asks it. -/
theorem predAt_of (g : Nat) (f : Int → Option Bool) (w : World) (ht : ∀ x, ∃ b, f x = some b)
    (hc : ∀ (x : Int) (r : Bool) (W : World), f x = some r → Calls Tryd.prog g #[.int .u8 x] W fun e w' => e = .returned (.bool r) ∧ Drawn0 W w') :
    PredAt Tryd.prog g #[] (Value.int .u8) (fun x => f x == some true) w := fun W x _ => by
  obtain ⟨b, hb⟩ := ht x
  unfold FnGives
  refine (hc x b W hb).mono ?_
  rintro e w' ⟨rfl, q, rfl⟩
  refine ⟨?_, q, rfl⟩
  simp only [hb]
  cases b <;> rfl

theorem total_impl_isHex (x : Int) : ∃ b, impl_isHex.f x = some b := by unfold impl_isHex.f; (repeat' first | exact ⟨_, rfl⟩ | refine tot_ite ?_ ?_ | refine tot_bind ?_ ?_ | intro _ | unfold impl_isDigit.f | unfold impl_isLetter.f | unfold strings_IndexByte.f)
theorem total_impl_isDigit (x : Int) : ∃ b, impl_isDigit.f x = some b := by unfold impl_isDigit.f; (repeat' first | exact ⟨_, rfl⟩ | refine tot_ite ?_ ?_ | refine tot_bind ?_ ?_ | intro _ | unfold impl_isDigit.f | unfold impl_isLetter.f | unfold strings_IndexByte.f)

/-- 'all' at the function number a1. -/
def impl_all.f (a0 : ByteArray) (a1 : Nat) : Option Bool :=
  if a0.size ≤ 9223372036854775807 then
    if a1 = 51 then some ((bytesOf a0).all fun c => impl_isHex.f c == some true) else
    if a1 = 53 then some ((bytesOf a0).all fun c => impl_isDigit.f c == some true) else
    none
  else none
theorem impl_all.calls (a0 : ByteArray) (a1 : Nat) (r : Bool) (w : World) (h : impl_all.f a0 a1 = some r) :
    Calls Tryd.prog 50 #[.string a0, .func (.func a1) #[] #[]] w fun e w' => e = .returned (.bool r) ∧ Below w.heap.size w w' := by
  unfold impl_all.f at h
  split at h
  · rename_i hs
    split at h
    · rename_i e
      subst e
      obtain rfl := Option.some.inj h
      exact all_any _ _ a0 w (enters_of Tryd.func51 (by kernel_rfl) rfl) (predAt_of _ _ w total_impl_isHex fun x r W hx => impl_isHex.calls x r W hx) hs
    split at h
    · rename_i e
      subst e
      obtain rfl := Option.some.inj h
      exact all_any _ _ a0 w (enters_of Tryd.func53 (by kernel_rfl) rfl) (predAt_of _ _ w total_impl_isDigit fun x r W hx => impl_isDigit.calls x r W hx) hs
    · cases h
  · cases h
end Go.Proofs.YtpolkndhjcdheaaDoor.P
namespace Go.Proofs.YtpolkndhjcdheaaDoor.P
open Go.RowKit Go.Proofs.YtpolkndhjcdheaaDoorW.PrintWords Go.Proofs.YtpolkndhjcdheaaDoorW.PrintLast Go.Proofs.YtpolkndhjcdheaaDoorW.PrintMore
attribute [local go_sem] max2_int min2_int max_two min_two max_three min_three max_four min_four   -- for this text's walks alone
set_option linter.unusedVariables false
set_option linter.unusedSimpArgs false

/-! ### impl_Digits: function 25 -/
def impl_Digits.f (a0 : ByteArray) : Option (Int × Bool) := if (a0.size : Int) < 1 then (some (0, false)) else (if (a0.size : Int) > 15 then (some (0, false)) else ((impl_all.f a0 53).bind fun t101 => (if t101 = true then ((strconv_ParseInt.f a0 10 64).bind fun bt102 => (some (bt102.1, true))) else (some (0, false)))))
set_option maxHeartbeats 8000000 in
set_option maxRecDepth 100000 in
theorem impl_Digits.calls (a0 : ByteArray) (r1 : Int) (r2 : Bool) (w : World) (h : impl_Digits.f a0 = some (r1, r2)) :
  Calls Tryd.prog 25 #[.string a0] w fun e w' => e = .returned (.tuple #[.int .i64 r1, .bool r2]) ∧ Below w.heap.size w w' := by
 have HB := Aside0.mk (Below.refl w.heap.size w)
 have H : (if (a0.size : Int) < 1 then (some (0, false)) else (if (a0.size : Int) > 15 then (some (0, false)) else ((impl_all.f a0 53).bind fun t101 => (if t101 = true then ((strconv_ParseInt.f a0 10 64).bind fun bt102 => (some (bt102.1, true))) else (some (0, false)))))) = some (r1, r2) := h
 clear h
 by_cases c2 : (a0.size : Int) < 1
 ·
  rw [if_pos c2] at H
  have c2b0 : decide ((a0.size : Int) < 1) = true := decide_eq_true c2
  have c2b1 : decide (a0.size < 1) = true := decide_eq_true (by omega)
  clear c2
  simp only [Option.some.injEq, Prod.mk.injEq] at H
  obtain ⟨rfl, rfl⟩ := H
  go_enter Tryd.func25, Tryd.ntmps25
  go_wp2
  go_ret2
  exact ⟨er, bh⟩
 ·
  rw [if_neg c2] at H
  have c2b0 : decide ((a0.size : Int) < 1) = false := decide_eq_false c2
  have c2b1 : decide (a0.size < 1) = false := decide_eq_false (by omega)
  clear c2
  by_cases c3 : (a0.size : Int) > 15
  ·
   rw [if_pos c3] at H
   have c3b0 : decide (15 < (a0.size : Int)) = true := decide_eq_true c3
   have c3b1 : decide (15 < a0.size) = true := decide_eq_true (by omega)
   clear c3
   simp only [Option.some.injEq, Prod.mk.injEq] at H
   obtain ⟨rfl, rfl⟩ := H
   go_enter Tryd.func25, Tryd.ntmps25
   go_wp2
   go_ret2
   exact ⟨er, bh⟩
  ·
   rw [if_neg c3] at H
   have c3b0 : decide (15 < (a0.size : Int)) = false := decide_eq_false c3
   have c3b1 : decide (15 < a0.size) = false := decide_eq_false (by omega)
   clear c3
   obtain ⟨t101, A40, H⟩ := Option.bind_eq_some_iff.mp H
   try dsimp only at H
   have A4 := Aside0.mk A40
   clear A40
   by_cases c5 : t101 = true
   ·
    subst c5
    rw [if_pos rfl] at H
    replace H := Option.bind_eq_some_iff.mp H
    obtain ⟨⟨t102, t103⟩, A60, H⟩ := H
    replace H : (some (t102, true)) = some (r1, r2) := H
    have A6 := Aside0.mk A60
    clear A60
    simp only [Option.some.injEq, Prod.mk.injEq] at H
    obtain ⟨rfl, rfl⟩ := H
    go_enter Tryd.func25, Tryd.ntmps25
    go_wp2_with (first | (go_at_call 50; (with_reducible refine (impl_all.calls a0 53 true _ A4.out).mono ?_); rintro e w7 ⟨rfl, hb⟩; replace HB := Aside0.mk (below_step bh hb); (try clear hb); (try clear hb2); (try clear hk); (try clear hi)) | ((with_reducible refine gate_callee (f := 52) rfl ?_); refine goesL_ (some 21) rfl rfl Tryd.func52 (by kernel_rfl) rfl #[.string a0, .int .i64 10, .int .i64 64] rfl mc ?_; (with_reducible refine (strconv_ParseInt.calls a0 10 64 t102 t103 _ A6.out).mono ?_); rintro e w8 ⟨rfl, hb⟩; refine ⟨_, rfl, ?_⟩; replace HB := Aside0.mk (below_step bh hb); (try clear hb); (try clear hb2); (try clear hk); (try clear hi); (try simp only [errW_none, errW_some])))
    go_ret2
    exact ⟨er, bh⟩
   ·
    replace c5 := Bool.eq_false_iff.mpr c5
    subst c5
    have H1 : (some (0, false)) = some (r1, r2) := by rw [if_neg (show ¬ (false = true) by decide)] at H; exact H
    clear H
    have H := H1
    clear H1
    simp only [Option.some.injEq, Prod.mk.injEq] at H
    obtain ⟨rfl, rfl⟩ := H
    go_enter Tryd.func25, Tryd.ntmps25
    go_wp2_with (first | (go_at_call 50; (with_reducible refine (impl_all.calls a0 53 false _ A4.out).mono ?_); rintro e w9 ⟨rfl, hb⟩; replace HB := Aside0.mk (below_step bh hb); (try clear hb); (try clear hb2); (try clear hk); (try clear hi)))
    go_ret2
    exact ⟨er, bh⟩
end Go.Proofs.YtpolkndhjcdheaaDoor.P
namespace Go.Proofs.YtpolkndhjcdheaaDoor.P
set_option linter.unusedVariables false
set_option linter.unusedSimpArgs false
open Go.RowKit Go.Lib Go.Proofs.YtpolkndhjcdheaaDoorW.PrintWords Go.Proofs.YtpolkndhjcdheaaDoorW.PrintLast Go.Proofs.YtpolkndhjcdheaaDoorW.PrintMore
attribute [local go_sem] max2_int min2_int max_two min_two max_three min_three max_four min_four

def monthsB : ByteArray := ⟨#[74, 97, 110, 70, 101, 98, 77, 97, 114, 65, 112, 114, 77, 97, 121, 74, 117, 110, 74, 117, 108, 65, 117, 103, 83, 101, 112, 79, 99, 116, 78, 111, 118, 68, 101, 99]⟩
/-- What the number at a place comes to: -1 where there is none. -/
def atF (s : ByteArray) (i j : Nat) : Option Int := (impl_Digits.f (s.extract i j)).map fun p => if p.2 = true then p.1 else -1
def monthF (s : ByteArray) : Int := wrap64 (wrap64 (Int.tdiv (Lib.index monthsB.data.toList (s.extract 8 11).data.toList) 3) + 1)
def impl_ReadDate.f (s : ByteArray) : Option (Int × Int × Int × Int × Int × Int × Bool) :=
  if s.size = 29 then
    (atF s 5 7).bind fun d => (atF s 12 16).bind fun y => (atF s 17 19).bind fun h => (atF s 20 22).bind fun n => (atF s 23 25).bind fun c =>
      (impl_DateOk.f 16 y (monthF s) d h n c).bind fun ok =>
        if ok = true then (impl_ShowDate.f 16 y (monthF s) d h n c).bind fun t => if t.toList = s.toList then some (y, monthF s, d, h, n, c, true) else some (0, 0, 0, 0, 0, 0, false)
        else some (0, 0, 0, 0, 0, 0, false)
  else some (0, 0, 0, 0, 0, 0, false)

set_option maxHeartbeats 2000000 in
set_option maxRecDepth 100000 in
/-- The number at a place of the text, as the closure answers it. -/
theorem readDate_at (g : Nat) (s : ByteArray) (i j : Int) (r : Int) (w : World) (hc : w.cell? ⟨g, 0, none⟩ = some (.string s)) (hi : 0 ≤ i) (hij : i ≤ j) (hj : j ≤ (s.size : Int)) (h : atF s i.toNat j.toNat = some r) :
    Calls Tryd.prog 36 #[.int .i64 i, .int .i64 j, .pointer (some ⟨g, 0, none⟩)] w fun e w' => e = .returned (.int .i64 r) ∧ Below w.heap.size w w' := by
  unfold atF at h
  obtain ⟨⟨n, ok⟩, hd, hr⟩ := Option.map_eq_some_iff.1 h
  have hcs := fun W => impl_Digits.calls (s.extract i.toNat j.toNat) n ok W hd
  clear h hd
  cases ok with
  | true =>
    simp only [if_true] at hr
    subst hr
    go_enter Tryd.func36, Tryd.ntmps36
    go_wp2_with (go_at_call 25; refine (hcs _).mono ?_; rintro e w1 ⟨rfl, hb⟩)
    go_ret
    exact ⟨rfl, hb⟩
  | false =>
    simp only [Bool.false_eq_true, if_false] at hr
    subst hr
    go_enter Tryd.func36, Tryd.ntmps36
    go_wp2_with (go_at_call 25; refine (hcs _).mono ?_; rintro e w1 ⟨rfl, hb⟩)
    go_ret
    exact ⟨rfl, hb⟩

section
variable {P : Program} {ops : Array Oper} {Q : Exit → Act → World → Prop}
/-- A call of a function value that catches variables. -/
theorem goesC_ {oi : Oper} {N : Option Tmp} {a : Act} {w : World} {K : Act → World → Prop} {f : FuncId} {fn : Func} {ars : Array Operand} {ts : Array TypeId} {cv : Operand} (hf : P.funcs[f]? = some fn) (hname : (fn.name == "runtime.NumGoroutine") = false) (hb : fn.body.isSome = true) (args bound : Array Value)
    (hw : Region.wanted oi (yielded ops a.tmps) = true) (hN : oi.dst = N) (hop : oi.op = .call { callee := .value cv, args := ars, argTypes := ts }) (hcv : a.eval cv = .func (.func f) #[] bound) (hargs : ars.map a.eval = args)
    (h : Calls P f (args ++ bound) w fun e w' => ∃ v, e = .returned v ∧ K (a.put N v) w') : if Region.wanted oi (yielded ops a.tmps) = true then Oper.wp P oi a w K Q else K (a.put N undef) w := by
  refine call_ f (args ++ bound) hw hN ?_ h
  have he := enters_ hf hname hb (args ++ bound) w
  unfold execOp
  simp [hop, resolve, Deferred.ofValue, invoke, hcv, hargs, he]
end
theorem date_store {oi : Oper} {a : Act} {W : World} {g : Nat} {y m d h n c : Int} (p x : Operand) (ho : oi.op = .store 25 p x) (hp : a.eval p = .pointer (some ⟨g, 0, none⟩)) (hx : a.eval x = .agg #[.int .i64 y, .int .i64 m, .int .i64 d, .int .i64 h, .int .i64 n, .int .i64 c])
    (hz : W.heap[g]? = some (.cells #[.int .i64 0, .int .i64 0, .int .i64 0, .int .i64 0, .int .i64 0, .int .i64 0] 25 (0, 0))) :
    (execOp a.eval oi).run Tryd.prog W = .ok .skip (W.setCells g 0 [.int .i64 y, .int .i64 m, .int .i64 d, .int .i64 h, .int .i64 n, .int .i64 c]) := by
  have hr := run_store_run (P := Tryd.prog) (w := W) (o := 0) 25 (.agg #[.int .i64 y, .int .i64 m, .int .i64 d, .int .i64 h, .int .i64 n, .int .i64 c]) [.int .i64 y, .int .i64 m, .int .i64 d, .int .i64 h, .int .i64 n, .int .i64 c] hz rfl (by kernel_rfl) (show 0 + 6 ≤ 6 by decide) (by
    intro q hq
    simp only [List.mem_cons, List.not_mem_nil, or_false] at hq
    rcases hq with rfl | rfl | rfl | rfl | rfl | rfl <;> rfl)
  unfold execOp
  simp only [ho, hp, hx, Sem.run_bind, Sem.run_pure, hr, Result.andThen_ok]
theorem date_put {W : World} {g : Nat} {y m d h n c : Int} (hz : W.heap[g]? = some (.cells #[.int .i64 0, .int .i64 0, .int .i64 0, .int .i64 0, .int .i64 0, .int .i64 0] 25 (0, 0))) :
    (W.setCells g 0 [.int .i64 y, .int .i64 m, .int .i64 d, .int .i64 h, .int .i64 n, .int .i64 c]).heap[g]? = some (.cells #[.int .i64 y, .int .i64 m, .int .i64 d, .int .i64 h, .int .i64 n, .int .i64 c] 25 (0, 0)) := by
  obtain ⟨cur, h1, h2, h3⟩ := setCells_row [.int .i64 y, .int .i64 m, .int .i64 d, .int .i64 h, .int .i64 n, .int .i64 c] 0 W _ hz (show 0 + 6 ≤ 6 by decide)
  have e : cur = #[.int .i64 y, .int .i64 m, .int .i64 d, .int .i64 h, .int .i64 n, .int .i64 c] := Array.toList_inj.1 (h3.trans rfl)
  rw [h1, e]

/-- What holds in the worlds of the walk: the box of the text, the row of the result, and what was there ahead. -/
structure RdW (w : World) (s : ByteArray) (W : World) : Prop where
  box : W.heap[w.heap.size]? = some (.cells #[.string s] 9 (0, 0))
  res : W.heap[w.heap.size + 1]? = some (.cells #[.int .i64 0, .int .i64 0, .int .i64 0, .int .i64 0, .int .i64 0, .int .i64 0] 25 (0, 0))
  big : w.heap.size + 2 ≤ W.heap.size
  bel : Below w.heap.size w W
theorem RdW.step {w W W' : World} {s : ByteArray} (h : RdW w s W) (hb : Below W.heap.size W W') : RdW w s W' :=
  ⟨(hb.block _ (by have := h.big; omega)).trans h.box, (hb.block _ (by have := h.big; omega)).trans h.res, Nat.le_trans h.big hb.size, below_step h.bel hb⟩
theorem RdW.drew {w W : World} {s : ByteArray} (h : RdW w s W) : RdW w s W.drew := ⟨h.box, h.res, h.big, below_drew1 h.bel⟩
theorem RdW.alloc {w W : World} {s : ByteArray} (h : RdW w s W) (o : Obj) : RdW w s (W.alloc o) := h.step (below_alloc (Below.refl _ _) _)
theorem RdW.cell {w W : World} {s : ByteArray} (h : RdW w s W) : W.cell? ⟨w.heap.size, 0, none⟩ = some (.string s) := (blk_cell h.box 0).trans rfl
theorem below_sets {B g : Nat} {a : World} (hg : B ≤ g) : ∀ (vs : List Value) (o : Nat) (W : World), Below B a W → Below B a (W.setCells g o vs)
  | [], _, _, h => h
  | v :: vs, o, W, h => below_sets hg vs (o + 1) _ (h.setCell (p := ⟨g, o, none⟩) hg v)
theorem RdW.set {w W : World} {s : ByteArray} {g : Nat} (h : RdW w s W) (hg : w.heap.size + 2 ≤ g) (vs : List Value) : RdW w s (W.setCells g 0 vs) :=
  ⟨(setCells_far vs 0 _ (by omega)).trans h.box, (setCells_far vs 0 _ (by omega)).trans h.res, by rw [(setCells_same g vs 0 W).2.2.2]; exact h.big, below_sets (by omega) vs 0 _ h.bel⟩

/-- The same, and the date that was made. -/
structure RdD (w : World) (s : ByteArray) (g : Nat) (y m d h n c : Int) (W : World) : Prop where
  r : RdW w s W
  b : W.heap[g]? = some (.cells #[.int .i64 y, .int .i64 m, .int .i64 d, .int .i64 h, .int .i64 n, .int .i64 c] 25 (0, 0))
theorem RdD.step {w W W' : World} {s : ByteArray} {g : Nat} {y m d h n c : Int} (q : RdD w s g y m d h n c W) (hb : Below W.heap.size W W') : RdD w s g y m d h n c W' := ⟨q.r.step hb, blk_below q.b hb⟩
theorem RdD.held {w W : World} {s : ByteArray} {g : Nat} {y m d h n c : Int} (q : RdD w s g y m d h n c W) :
    W.cell? ⟨w.heap.size, 0, none⟩ = some (.string s) ∧ W.cell? ⟨g, 0, none⟩ = some (.int .i64 y) ∧ W.cell? ⟨g, 1, none⟩ = some (.int .i64 m) ∧ W.cell? ⟨g, 2, none⟩ = some (.int .i64 d) ∧ W.cell? ⟨g, 3, none⟩ = some (.int .i64 h) ∧ W.cell? ⟨g, 4, none⟩ = some (.int .i64 n) ∧ W.cell? ⟨g, 5, none⟩ = some (.int .i64 c) ∧ RdD w s g y m d h n c W :=
  ⟨q.r.cell, (blk_cell q.b 0).trans rfl, (blk_cell q.b 1).trans rfl, (blk_cell q.b 2).trans rfl, (blk_cell q.b 3).trans rfl, (blk_cell q.b 4).trans rfl, (blk_cell q.b 5).trans rfl, q⟩

set_option maxHeartbeats 8000000 in
set_option maxRecDepth 100000 in
theorem readDate_walk (s : ByteArray) (w : World) (hX : XW 7 w) (h29 : s.size = 29) (y d h n c : Int) (hd : atF s 5 7 = some d) (hy : atF s 12 16 = some y) (hh : atF s 17 19 = some h) (hn : atF s 20 22 = some n) (hc : atF s 23 25 = some c)
    (ok : Bool) (hok : impl_DateOk.f 16 y (monthF s) d h n c = some ok) (t : ByteArray) (ht : ok = true → impl_ShowDate.f 16 y (monthF s) d h n c = some t)
    (out : Value) (hA : ok = true → t.toList = s.toList → out = .tuple #[.agg #[.int .i64 y, .int .i64 (monthF s), .int .i64 d, .int .i64 h, .int .i64 n, .int .i64 c], .bool true]) (hB : ¬ (ok = true ∧ t.toList = s.toList) → out = .tuple #[.agg #[.int .i64 0, .int .i64 0, .int .i64 0, .int .i64 0, .int .i64 0, .int .i64 0], .bool false]) :
    Calls Tryd.prog 12 #[.string s] w fun e w' => e = .returned out ∧ Below w.heap.size w w' := by
  have hat : ∀ (i j r : Int), 0 ≤ i → i ≤ j → j ≤ (s.size : Int) → atF s i.toNat j.toNat = some r → ∀ W, RdW w s W → Calls Tryd.prog 36 #[.int .i64 i, .int .i64 j, .pointer (some ⟨w.heap.size, 0, none⟩)] W fun e w' => e = .returned (.int .i64 r) ∧ RdW w s w' ∧ Below W.heap.size W w' :=
    fun i j r h0 h1 h2 h3 W hW => (readDate_at w.heap.size s i j r W hW.cell h0 h1 h2 h3).mono fun e w' q => ⟨q.1, hW.step q.2, q.2⟩
  have A1 := Aside0.mk (hat 5 7 d (by decide) (by decide) (by omega) hd)
  have A2 := Aside0.mk (hat 12 16 y (by decide) (by decide) (by omega) hy)
  have A3 := Aside0.mk (hat 17 19 h (by decide) (by decide) (by omega) hh)
  have A4 := Aside0.mk (hat 20 22 n (by decide) (by decide) (by omega) hn)
  have A5 := Aside0.mk (hat 23 25 c (by decide) (by decide) (by omega) hc)
  obtain ⟨ix, hix⟩ : ∃ q, Lib.index monthsB.data.toList (s.extract 8 11).data.toList = q := ⟨_, rfl⟩
  have hmi : ∀ W, RdW w s W → Calls Tryd.prog 37 #[.string monthsB, .string (s.extract 8 11)] W fun e w' => e = .returned (.int .i64 ix) ∧ RdW w s w' ∧ Below W.heap.size W w' := by
    intro W hW
    obtain ⟨v, hv⟩ := (hX.stays hW.bel).maxLen rfl
    refine (Tryd.strings_Index monthsB (s.extract 8 11) v W (by decide) hv).mono ?_
    rintro e w' ⟨rfl, rfl⟩
    exact ⟨by rw [hix], hW, Below.refl _ _⟩
  have A6 := Aside0.mk hmi
  have hmf : monthF s = wrap64 (wrap64 (Int.tdiv ix 3) + 1) := by unfold monthF; rw [hix]
  rw [hmf] at hok ht hA
  obtain ⟨m1, hm1⟩ : ∃ q, wrap64 (Int.tdiv ix 3) = q := ⟨_, rfl⟩
  rw [hm1] at hok ht hA
  have hm1w : IntKind.i64.wrap (Int.tdiv ix 3) = m1 := (i64_w _).trans hm1
  obtain ⟨m, hm⟩ : ∃ q, wrap64 (m1 + 1) = q := ⟨_, rfl⟩
  rw [hm] at hok ht hA
  have hmw : IntKind.i64.wrap (m1 + 1) = m := (i64_w _).trans hm
  have HOK := Aside0.mk (fun W => impl_DateOk.calls 16 y m d h n c ok W hok)
  have HT := Aside0.mk (fun W (hW : XW 6 W) q => impl_ShowDate.calls 16 y m d h n c t W hW (ht q))
  have HX := Aside0.mk (hX.to (m' := 6) (by decide))
  have s1 : (11 : Int) ≤ (s.size : Int) := by omega
  have s2 : ((s.size : Int) != 29) = false := by rw [h29]; rfl
  have hR0 : RdW w s ((w.alloc (.cells #[.string s] 9)).alloc (.cells #[.int .i64 0, .int .i64 0, .int .i64 0, .int .i64 0, .int .i64 0, .int .i64 0] 25)) := by
    refine ⟨?_, ?_, by simp, below_alloc (below_alloc (Below.refl _ _) _) _⟩
    · rw [Lib.alloc_old _ _ _ (by simp)]
      exact blk_new w _
    · have := blk_new (w.alloc (.cells #[.string s] 9)) (.cells #[.int .i64 0, .int .i64 0, .int .i64 0, .int .i64 0, .int .i64 0, .int .i64 0] 25)
      simpa using this
  have hR1 := hR0.drew
  have HA := Aside0.mk hA
  have HBo := Aside0.mk hB
  clear hA hB hR0 hat hmi hok ht hX hd hy hh hn hc hix hmf hm1 hm
  go_enter Tryd.func12, Tryd.ntmps12
  go_upto_region 4 with (fail)
  go_cut [5] (fun v5 wc => ∃ g : Nat, v5 = .pointer (some ⟨g, 0, none⟩) ∧ Aside0 (RdW w s wc) ∧ Aside0 (wc.heap[g]? = some (.cells #[.int .i64 y, .int .i64 m, .int .i64 d, .int .i64 h, .int .i64 n, .int .i64 c] 25 (0, 0))))
  case first =>
    refine start_ (n := 18) (S := fun W => W.cell? ⟨w.heap.size, 0, none⟩ = some (.string s) ∧ RdW w s W) (ds := [17]) #[false, false, false, false, false, false, false, false, false, false, false, false, false, false, false, false, false, false] (by kernel_rfl) rfl rfl ⟨hR1.cell, hR1⟩ (fun hHeld => ?_)
    generalize World.drew _ = w0 at hR1 hHeld ⊢
    refine pure_ (i := 0) (N := some 11) (v := ?_) (a' := ?_) #[true, false, false, false, false, false, false, false, false, false, false, false, false, false, false, false, false, false] rfl rfl (by kernel_rfl) (fun _ _ _ h => h) (Or.inl ⟨by rfl, ?_⟩) ?_ ?_
    rotate_left
    · intro w'
      go_simp
      with_reducible rfl
    rotate_left
    · simp only [Act.put, List.setIfInBounds_toArray, List.set_cons_zero, List.set_cons_succ, i64_w, i32_w]
      rfl
    refine pure_ (i := 7) (N := some 18) (v := ?_) (a' := ?_) #[true, false, false, false, false, false, false, true, false, false, false, false, false, false, false, false, false, false] rfl rfl (by kernel_rfl) (fun _ _ _ h => h) (Or.inl ⟨by rfl, ?_⟩) ?_ ?_
    rotate_left
    · intro w'
      go_simp
      with_reducible rfl
    rotate_left
    · simp only [Act.put, List.setIfInBounds_toArray, List.set_cons_zero, List.set_cons_succ, i64_w, i32_w]
      rfl
    refine pure_ (i := 9) (N := some 20) (v := ?_) (a' := ?_) #[true, false, false, false, false, false, false, true, false, true, false, false, false, false, false, false, false, false] rfl rfl (by kernel_rfl) (fun _ _ _ h => h) (Or.inl ⟨by rfl, ?_⟩) ?_ ?_
    rotate_left
    · intro w'
      go_simp
      with_reducible rfl
    rotate_left
    · simp only [Act.put, List.setIfInBounds_toArray, List.set_cons_zero, List.set_cons_succ, i64_w, i32_w]
      rfl
    refine pure_ (i := 11) (N := some 22) (v := ?_) (a' := ?_) #[true, false, false, false, false, false, false, true, false, true, false, true, false, false, false, false, false, false] rfl rfl (by kernel_rfl) (fun _ _ _ h => h) (Or.inl ⟨by rfl, ?_⟩) ?_ ?_
    rotate_left
    · intro w'
      go_simp
      with_reducible rfl
    rotate_left
    · simp only [Act.put, List.setIfInBounds_toArray, List.set_cons_zero, List.set_cons_succ, i64_w, i32_w]
      rfl
    refine pure_ (i := 13) (N := some 24) (v := ?_) (a' := ?_) #[true, false, false, false, false, false, false, true, false, true, false, true, false, true, false, false, false, false] rfl rfl (by kernel_rfl) (fun _ _ _ h => h) (Or.inl ⟨by rfl, ?_⟩) ?_ ?_
    rotate_left
    · intro w'
      go_simp
      with_reducible rfl
    rotate_left
    · simp only [Act.put, List.setIfInBounds_toArray, List.set_cons_zero, List.set_cons_succ, i64_w, i32_w]
      rfl
    refine take_ (i := 2) (N := some 13) (v := ?_) (a' := ?_) #[true, false, true, false, false, false, false, true, false, true, false, true, false, true, false, false, false, false] rfl rfl (by kernel_rfl) (fun _ _ _ h => h) (Or.inl ⟨by rfl, ?_⟩) hHeld ?_ ?_
    rotate_left
    · rintro w' ⟨s0, s1⟩
      go_simp
      with_reducible rfl
    rotate_left
    · simp only [Act.put, List.setIfInBounds_toArray, List.set_cons_zero, List.set_cons_succ, i64_w, i32_w]
      rfl
    refine pure_ (i := 3) (N := some 14) (v := ?_) (a' := ?_) #[true, false, true, true, false, false, false, true, false, true, false, true, false, true, false, false, false, false] rfl rfl (by kernel_rfl) (fun _ _ _ h => h) (Or.inl ⟨by rfl, ?_⟩) ?_ ?_
    rotate_left
    · intro w'
      go_simp
      with_reducible rfl
    rotate_left
    · simp only [Act.put, List.setIfInBounds_toArray, List.set_cons_zero, List.set_cons_succ, i64_w, i32_w]
      rfl
    refine two_ (i := 1) (j := 16) (Ni := some 12) (Nj := some 5) #[true, true, true, true, false, false, false, true, false, true, false, true, false, true, false, false, false, false] #[true, false, true, true, false, false, false, true, false, true, false, true, false, true, false, false, true, false] rfl rfl rfl rfl (by kernel_rfl) (by decide) (by decide) (fun K hK => ?_) (fun K hK => ?_)
    rotate_left
    · skip
      refine value_ (w1 := w0.alloc (.cells #[.int .i64 0, .int .i64 0, .int .i64 0, .int .i64 0, .int .i64 0, .int .i64 0] 25)) (v := .pointer (some ⟨w0.heap.size, 0, none⟩)) (by rfl) rfl (by go_simp) ?_
      have hqa := hR1.alloc (.cells #[.int .i64 0, .int .i64 0, .int .i64 0, .int .i64 0, .int .i64 0, .int .i64 0] 25)
      have hgb := hR1.big
      have hz := blk_new w0 (.cells #[.int .i64 0, .int .i64 0, .int .i64 0, .int .i64 0, .int .i64 0, .int .i64 0] 25)
      refine hK.out _ _ ⟨hqa.cell, hqa⟩ (fun hHeld => ?_)
      clear hK K
      generalize w0.alloc (.cells #[.int .i64 0, .int .i64 0, .int .i64 0, .int .i64 0, .int .i64 0, .int .i64 0] 25) = wa at hqa hz hHeld ⊢
      generalize w0.heap.size = g at hz hgb ⊢
      refine norm_ (a' := ?_) ?_ ?_
      rotate_left
      · show Act.put _ (some 5) _ = _
        simp only [Act.put, List.setIfInBounds_toArray, List.set_cons_zero, List.set_cons_succ, i64_w, i32_w]
        rfl
      refine one_ (i := 1) (N := some 12) #[true, true, true, true, false, false, false, true, false, true, false, true, false, true, false, false, true, false] rfl rfl (by kernel_rfl) (by decide) (fun K hK => ?_)
      refine goesC_ Tryd.func36 (by kernel_rfl) rfl #[.int .i64 5, .int .i64 7] #[.pointer (some ⟨w.heap.size, 0, none⟩)] (by rfl) rfl rfl (by rfl) (by (try simp only [List.map_toArray, List.map_cons, List.map_nil]); first | done | rfl) ?_
      refine (A1.out _ hqa).mono ?_
      rintro e w1 ⟨rfl, hq1, hb1⟩
      refine ⟨_, rfl, ?_⟩
      have hz1 := blk_below hz hb1
      refine hK.out _ _ ⟨hq1.cell, hq1⟩ (fun hHeld => ?_)
      clear hK K
      refine norm_ (a' := ?_) ?_ ?_
      rotate_left
      · show Act.put _ (some 12) _ = _
        simp only [Act.put, List.setIfInBounds_toArray, List.set_cons_zero, List.set_cons_succ, i64_w, i32_w]
        rfl
      refine one_ (i := 4) (N := some 15) #[true, true, true, true, true, false, false, true, false, true, false, true, false, true, false, false, true, false] rfl rfl (by kernel_rfl) (by decide) (fun K hK => ?_)
      refine goes_ Tryd.func37 (by kernel_rfl) rfl #[.string monthsB, .string (s.extract 8 11)] (by rfl) rfl rfl (by (try simp only [List.map_toArray, List.map_cons, List.map_nil]); first | done | rfl) ?_
      refine (A6.out _ hq1).mono ?_
      rintro e w2 ⟨rfl, hq2, hb2⟩
      refine ⟨_, rfl, ?_⟩
      have hz2 := blk_below hz1 hb2
      refine hK.out _ _ ⟨hq2.cell, hq2⟩ (fun hHeld => ?_)
      clear hK K
      refine norm_ (a' := ?_) ?_ ?_
      rotate_left
      · show Act.put _ (some 15) _ = _
        simp only [Act.put, List.setIfInBounds_toArray, List.set_cons_zero, List.set_cons_succ, i64_w, i32_w]
        rfl
      refine pure_ (i := 5) (N := some 16) (v := ?_) (a' := ?_) #[true, true, true, true, true, true, false, true, false, true, false, true, false, true, false, false, true, false] rfl rfl (by kernel_rfl) (fun _ _ _ h => h) (Or.inl ⟨by rfl, ?_⟩) ?_ ?_
      rotate_left
      · intro w'
        go_simp
        with_reducible rfl
      rotate_left
      · simp only [Act.put, List.setIfInBounds_toArray, List.set_cons_zero, List.set_cons_succ, i64_w, i32_w]
        rfl
      refine pure_ (i := 6) (N := some 17) (v := ?_) (a' := ?_) #[true, true, true, true, true, true, true, true, false, true, false, true, false, true, false, false, true, false] rfl rfl (by kernel_rfl) (fun _ _ _ h => h) (Or.inl ⟨by rfl, ?_⟩) ?_ ?_
      rotate_left
      · intro w'
        go_simp
        with_reducible rfl
      rotate_left
      · simp only [Act.put, List.setIfInBounds_toArray, List.set_cons_zero, List.set_cons_succ, i64_w, i32_w]
        rfl
      refine one_ (i := 8) (N := some 19) #[true, true, true, true, true, true, true, true, true, true, false, true, false, true, false, false, true, false] rfl rfl (by kernel_rfl) (by decide) (fun K hK => ?_)
      refine goesC_ Tryd.func36 (by kernel_rfl) rfl #[.int .i64 12, .int .i64 16] #[.pointer (some ⟨w.heap.size, 0, none⟩)] (by rfl) rfl rfl (by rfl) (by (try simp only [List.map_toArray, List.map_cons, List.map_nil]); first | done | rfl) ?_
      refine (A2.out _ hq2).mono ?_
      rintro e w3 ⟨rfl, hq3, hb3⟩
      refine ⟨_, rfl, ?_⟩
      have hz3 := blk_below hz2 hb3
      refine hK.out _ _ ⟨hq3.cell, hq3⟩ (fun hHeld => ?_)
      clear hK K
      refine norm_ (a' := ?_) ?_ ?_
      rotate_left
      · show Act.put _ (some 19) _ = _
        simp only [Act.put, List.setIfInBounds_toArray, List.set_cons_zero, List.set_cons_succ, i64_w, i32_w]
        rfl
      refine one_ (i := 10) (N := some 21) #[true, true, true, true, true, true, true, true, true, true, true, true, false, true, false, false, true, false] rfl rfl (by kernel_rfl) (by decide) (fun K hK => ?_)
      refine goesC_ Tryd.func36 (by kernel_rfl) rfl #[.int .i64 17, .int .i64 19] #[.pointer (some ⟨w.heap.size, 0, none⟩)] (by rfl) rfl rfl (by rfl) (by (try simp only [List.map_toArray, List.map_cons, List.map_nil]); first | done | rfl) ?_
      refine (A3.out _ hq3).mono ?_
      rintro e w4 ⟨rfl, hq4, hb4⟩
      refine ⟨_, rfl, ?_⟩
      have hz4 := blk_below hz3 hb4
      refine hK.out _ _ ⟨hq4.cell, hq4⟩ (fun hHeld => ?_)
      clear hK K
      refine norm_ (a' := ?_) ?_ ?_
      rotate_left
      · show Act.put _ (some 21) _ = _
        simp only [Act.put, List.setIfInBounds_toArray, List.set_cons_zero, List.set_cons_succ, i64_w, i32_w]
        rfl
      refine one_ (i := 12) (N := some 23) #[true, true, true, true, true, true, true, true, true, true, true, true, true, true, false, false, true, false] rfl rfl (by kernel_rfl) (by decide) (fun K hK => ?_)
      refine goesC_ Tryd.func36 (by kernel_rfl) rfl #[.int .i64 20, .int .i64 22] #[.pointer (some ⟨w.heap.size, 0, none⟩)] (by rfl) rfl rfl (by rfl) (by (try simp only [List.map_toArray, List.map_cons, List.map_nil]); first | done | rfl) ?_
      refine (A4.out _ hq4).mono ?_
      rintro e w5 ⟨rfl, hq5, hb5⟩
      refine ⟨_, rfl, ?_⟩
      have hz5 := blk_below hz4 hb5
      refine hK.out _ _ ⟨hq5.cell, hq5⟩ (fun hHeld => ?_)
      clear hK K
      refine norm_ (a' := ?_) ?_ ?_
      rotate_left
      · show Act.put _ (some 23) _ = _
        simp only [Act.put, List.setIfInBounds_toArray, List.set_cons_zero, List.set_cons_succ, i64_w, i32_w]
        rfl
      refine one_ (i := 14) (N := some 25) #[true, true, true, true, true, true, true, true, true, true, true, true, true, true, true, false, true, false] rfl rfl (by kernel_rfl) (by decide) (fun K hK => ?_)
      refine goesC_ Tryd.func36 (by kernel_rfl) rfl #[.int .i64 23, .int .i64 25] #[.pointer (some ⟨w.heap.size, 0, none⟩)] (by rfl) rfl rfl (by rfl) (by (try simp only [List.map_toArray, List.map_cons, List.map_nil]); first | done | rfl) ?_
      refine (A5.out _ hq5).mono ?_
      rintro e w6 ⟨rfl, hq6, hb6⟩
      refine ⟨_, rfl, ?_⟩
      have hz6 := blk_below hz5 hb6
      refine hK.out _ _ ⟨hq6.cell, hq6⟩ (fun hHeld => ?_)
      clear hK K
      refine norm_ (a' := ?_) ?_ ?_
      rotate_left
      · show Act.put _ (some 25) _ = _
        simp only [Act.put, List.setIfInBounds_toArray, List.set_cons_zero, List.set_cons_succ, i64_w, i32_w]
        rfl
      refine pure_ (i := 15) (N := some 26) (v := ?_) (a' := ?_) #[true, true, true, true, true, true, true, true, true, true, true, true, true, true, true, true, true, false] rfl rfl (by kernel_rfl) (fun _ _ _ h => h) (Or.inl ⟨by rfl, ?_⟩) ?_ ?_
      rotate_left
      · intro w'
        go_simp
        with_reducible rfl
      rotate_left
      · simp only [Act.put, List.setIfInBounds_toArray, List.set_cons_zero, List.set_cons_succ, i64_w, i32_w]
        rfl
      refine last_ (i := 17) (N := none) #[true, true, true, true, true, true, true, true, true, true, true, true, true, true, true, true, true, true] rfl rfl (by kernel_rfl) (by decide) (fun K hK => ?_)
      refine skip_ (by rfl) rfl (date_store (.tmp 5) (.tmp 26) rfl (by rfl) (by rfl) hz6) ?_
      refine hK.out _ _ ?_
      clear hK K
      refine done_ (by kernel_rfl) ?_
      have hqs := hq6.set hgb [.int .i64 y, .int .i64 m, .int .i64 d, .int .i64 h, .int .i64 n, .int .i64 c]
      try go_wp2
      go_meet
      case rel => exact ⟨_, rfl, ⟨hqs⟩, ⟨date_put hz6⟩⟩
    refine goesC_ Tryd.func36 (by kernel_rfl) rfl #[.int .i64 5, .int .i64 7] #[.pointer (some ⟨w.heap.size, 0, none⟩)] (by rfl) rfl rfl (by rfl) (by (try simp only [List.map_toArray, List.map_cons, List.map_nil]); first | done | rfl) ?_
    refine (A1.out _ hR1).mono ?_
    rintro e w1 ⟨rfl, hq1, hb1⟩
    refine ⟨_, rfl, ?_⟩
    refine hK.out _ _ ⟨hq1.cell, hq1⟩ (fun hHeld => ?_)
    clear hK K
    refine norm_ (a' := ?_) ?_ ?_
    rotate_left
    · show Act.put _ (some 12) _ = _
      simp only [Act.put, List.setIfInBounds_toArray, List.set_cons_zero, List.set_cons_succ, i64_w, i32_w]
      rfl
    refine two_ (i := 4) (j := 16) (Ni := some 15) (Nj := some 5) #[true, true, true, true, true, false, false, true, false, true, false, true, false, true, false, false, false, false] #[true, true, true, true, false, false, false, true, false, true, false, true, false, true, false, false, true, false] rfl rfl rfl rfl (by kernel_rfl) (by decide) (by decide) (fun K hK => ?_) (fun K hK => ?_)
    rotate_left
    · skip
      refine value_ (w1 := w1.alloc (.cells #[.int .i64 0, .int .i64 0, .int .i64 0, .int .i64 0, .int .i64 0, .int .i64 0] 25)) (v := .pointer (some ⟨w1.heap.size, 0, none⟩)) (by rfl) rfl (by go_simp) ?_
      have hqa := hq1.alloc (.cells #[.int .i64 0, .int .i64 0, .int .i64 0, .int .i64 0, .int .i64 0, .int .i64 0] 25)
      have hgb := hq1.big
      have hz := blk_new w1 (.cells #[.int .i64 0, .int .i64 0, .int .i64 0, .int .i64 0, .int .i64 0, .int .i64 0] 25)
      refine hK.out _ _ ⟨hqa.cell, hqa⟩ (fun hHeld => ?_)
      clear hK K
      generalize w1.alloc (.cells #[.int .i64 0, .int .i64 0, .int .i64 0, .int .i64 0, .int .i64 0, .int .i64 0] 25) = wa at hqa hz hHeld ⊢
      generalize w1.heap.size = g at hz hgb ⊢
      refine norm_ (a' := ?_) ?_ ?_
      rotate_left
      · show Act.put _ (some 5) _ = _
        simp only [Act.put, List.setIfInBounds_toArray, List.set_cons_zero, List.set_cons_succ, i64_w, i32_w]
        rfl
      refine one_ (i := 4) (N := some 15) #[true, true, true, true, true, false, false, true, false, true, false, true, false, true, false, false, true, false] rfl rfl (by kernel_rfl) (by decide) (fun K hK => ?_)
      refine goes_ Tryd.func37 (by kernel_rfl) rfl #[.string monthsB, .string (s.extract 8 11)] (by rfl) rfl rfl (by (try simp only [List.map_toArray, List.map_cons, List.map_nil]); first | done | rfl) ?_
      refine (A6.out _ hqa).mono ?_
      rintro e w2 ⟨rfl, hq2, hb2⟩
      refine ⟨_, rfl, ?_⟩
      have hz2 := blk_below hz hb2
      refine hK.out _ _ ⟨hq2.cell, hq2⟩ (fun hHeld => ?_)
      clear hK K
      refine norm_ (a' := ?_) ?_ ?_
      rotate_left
      · show Act.put _ (some 15) _ = _
        simp only [Act.put, List.setIfInBounds_toArray, List.set_cons_zero, List.set_cons_succ, i64_w, i32_w]
        rfl
      refine pure_ (i := 5) (N := some 16) (v := ?_) (a' := ?_) #[true, true, true, true, true, true, false, true, false, true, false, true, false, true, false, false, true, false] rfl rfl (by kernel_rfl) (fun _ _ _ h => h) (Or.inl ⟨by rfl, ?_⟩) ?_ ?_
      rotate_left
      · intro w'
        go_simp
        with_reducible rfl
      rotate_left
      · simp only [Act.put, List.setIfInBounds_toArray, List.set_cons_zero, List.set_cons_succ, i64_w, i32_w]
        rfl
      refine pure_ (i := 6) (N := some 17) (v := ?_) (a' := ?_) #[true, true, true, true, true, true, true, true, false, true, false, true, false, true, false, false, true, false] rfl rfl (by kernel_rfl) (fun _ _ _ h => h) (Or.inl ⟨by rfl, ?_⟩) ?_ ?_
      rotate_left
      · intro w'
        go_simp
        with_reducible rfl
      rotate_left
      · simp only [Act.put, List.setIfInBounds_toArray, List.set_cons_zero, List.set_cons_succ, i64_w, i32_w]
        rfl
      refine one_ (i := 8) (N := some 19) #[true, true, true, true, true, true, true, true, true, true, false, true, false, true, false, false, true, false] rfl rfl (by kernel_rfl) (by decide) (fun K hK => ?_)
      refine goesC_ Tryd.func36 (by kernel_rfl) rfl #[.int .i64 12, .int .i64 16] #[.pointer (some ⟨w.heap.size, 0, none⟩)] (by rfl) rfl rfl (by rfl) (by (try simp only [List.map_toArray, List.map_cons, List.map_nil]); first | done | rfl) ?_
      refine (A2.out _ hq2).mono ?_
      rintro e w3 ⟨rfl, hq3, hb3⟩
      refine ⟨_, rfl, ?_⟩
      have hz3 := blk_below hz2 hb3
      refine hK.out _ _ ⟨hq3.cell, hq3⟩ (fun hHeld => ?_)
      clear hK K
      refine norm_ (a' := ?_) ?_ ?_
      rotate_left
      · show Act.put _ (some 19) _ = _
        simp only [Act.put, List.setIfInBounds_toArray, List.set_cons_zero, List.set_cons_succ, i64_w, i32_w]
        rfl
      refine one_ (i := 10) (N := some 21) #[true, true, true, true, true, true, true, true, true, true, true, true, false, true, false, false, true, false] rfl rfl (by kernel_rfl) (by decide) (fun K hK => ?_)
      refine goesC_ Tryd.func36 (by kernel_rfl) rfl #[.int .i64 17, .int .i64 19] #[.pointer (some ⟨w.heap.size, 0, none⟩)] (by rfl) rfl rfl (by rfl) (by (try simp only [List.map_toArray, List.map_cons, List.map_nil]); first | done | rfl) ?_
      refine (A3.out _ hq3).mono ?_
      rintro e w4 ⟨rfl, hq4, hb4⟩
      refine ⟨_, rfl, ?_⟩
      have hz4 := blk_below hz3 hb4
      refine hK.out _ _ ⟨hq4.cell, hq4⟩ (fun hHeld => ?_)
      clear hK K
      refine norm_ (a' := ?_) ?_ ?_
      rotate_left
      · show Act.put _ (some 21) _ = _
        simp only [Act.put, List.setIfInBounds_toArray, List.set_cons_zero, List.set_cons_succ, i64_w, i32_w]
        rfl
      refine one_ (i := 12) (N := some 23) #[true, true, true, true, true, true, true, true, true, true, true, true, true, true, false, false, true, false] rfl rfl (by kernel_rfl) (by decide) (fun K hK => ?_)
      refine goesC_ Tryd.func36 (by kernel_rfl) rfl #[.int .i64 20, .int .i64 22] #[.pointer (some ⟨w.heap.size, 0, none⟩)] (by rfl) rfl rfl (by rfl) (by (try simp only [List.map_toArray, List.map_cons, List.map_nil]); first | done | rfl) ?_
      refine (A4.out _ hq4).mono ?_
      rintro e w5 ⟨rfl, hq5, hb5⟩
      refine ⟨_, rfl, ?_⟩
      have hz5 := blk_below hz4 hb5
      refine hK.out _ _ ⟨hq5.cell, hq5⟩ (fun hHeld => ?_)
      clear hK K
      refine norm_ (a' := ?_) ?_ ?_
      rotate_left
      · show Act.put _ (some 23) _ = _
        simp only [Act.put, List.setIfInBounds_toArray, List.set_cons_zero, List.set_cons_succ, i64_w, i32_w]
        rfl
      refine one_ (i := 14) (N := some 25) #[true, true, true, true, true, true, true, true, true, true, true, true, true, true, true, false, true, false] rfl rfl (by kernel_rfl) (by decide) (fun K hK => ?_)
      refine goesC_ Tryd.func36 (by kernel_rfl) rfl #[.int .i64 23, .int .i64 25] #[.pointer (some ⟨w.heap.size, 0, none⟩)] (by rfl) rfl rfl (by rfl) (by (try simp only [List.map_toArray, List.map_cons, List.map_nil]); first | done | rfl) ?_
      refine (A5.out _ hq5).mono ?_
      rintro e w6 ⟨rfl, hq6, hb6⟩
      refine ⟨_, rfl, ?_⟩
      have hz6 := blk_below hz5 hb6
      refine hK.out _ _ ⟨hq6.cell, hq6⟩ (fun hHeld => ?_)
      clear hK K
      refine norm_ (a' := ?_) ?_ ?_
      rotate_left
      · show Act.put _ (some 25) _ = _
        simp only [Act.put, List.setIfInBounds_toArray, List.set_cons_zero, List.set_cons_succ, i64_w, i32_w]
        rfl
      refine pure_ (i := 15) (N := some 26) (v := ?_) (a' := ?_) #[true, true, true, true, true, true, true, true, true, true, true, true, true, true, true, true, true, false] rfl rfl (by kernel_rfl) (fun _ _ _ h => h) (Or.inl ⟨by rfl, ?_⟩) ?_ ?_
      rotate_left
      · intro w'
        go_simp
        with_reducible rfl
      rotate_left
      · simp only [Act.put, List.setIfInBounds_toArray, List.set_cons_zero, List.set_cons_succ, i64_w, i32_w]
        rfl
      refine last_ (i := 17) (N := none) #[true, true, true, true, true, true, true, true, true, true, true, true, true, true, true, true, true, true] rfl rfl (by kernel_rfl) (by decide) (fun K hK => ?_)
      refine skip_ (by rfl) rfl (date_store (.tmp 5) (.tmp 26) rfl (by rfl) (by rfl) hz6) ?_
      refine hK.out _ _ ?_
      clear hK K
      refine done_ (by kernel_rfl) ?_
      have hqs := hq6.set hgb [.int .i64 y, .int .i64 m, .int .i64 d, .int .i64 h, .int .i64 n, .int .i64 c]
      try go_wp2
      go_meet
      case rel => exact ⟨_, rfl, ⟨hqs⟩, ⟨date_put hz6⟩⟩
    refine goes_ Tryd.func37 (by kernel_rfl) rfl #[.string monthsB, .string (s.extract 8 11)] (by rfl) rfl rfl (by (try simp only [List.map_toArray, List.map_cons, List.map_nil]); first | done | rfl) ?_
    refine (A6.out _ hq1).mono ?_
    rintro e w2 ⟨rfl, hq2, hb2⟩
    refine ⟨_, rfl, ?_⟩
    refine hK.out _ _ ⟨hq2.cell, hq2⟩ (fun hHeld => ?_)
    clear hK K
    refine norm_ (a' := ?_) ?_ ?_
    rotate_left
    · show Act.put _ (some 15) _ = _
      simp only [Act.put, List.setIfInBounds_toArray, List.set_cons_zero, List.set_cons_succ, i64_w, i32_w]
      rfl
    refine pure_ (i := 5) (N := some 16) (v := ?_) (a' := ?_) #[true, true, true, true, true, true, false, true, false, true, false, true, false, true, false, false, false, false] rfl rfl (by kernel_rfl) (fun _ _ _ h => h) (Or.inl ⟨by rfl, ?_⟩) ?_ ?_
    rotate_left
    · intro w'
      go_simp
      with_reducible rfl
    rotate_left
    · simp only [Act.put, List.setIfInBounds_toArray, List.set_cons_zero, List.set_cons_succ, i64_w, i32_w]
      rfl
    refine pure_ (i := 6) (N := some 17) (v := ?_) (a' := ?_) #[true, true, true, true, true, true, true, true, false, true, false, true, false, true, false, false, false, false] rfl rfl (by kernel_rfl) (fun _ _ _ h => h) (Or.inl ⟨by rfl, ?_⟩) ?_ ?_
    rotate_left
    · intro w'
      go_simp
      with_reducible rfl
    rotate_left
    · simp only [Act.put, List.setIfInBounds_toArray, List.set_cons_zero, List.set_cons_succ, i64_w, i32_w]
      rfl
    refine two_ (i := 8) (j := 16) (Ni := some 19) (Nj := some 5) #[true, true, true, true, true, true, true, true, true, true, false, true, false, true, false, false, false, false] #[true, true, true, true, true, true, true, true, false, true, false, true, false, true, false, false, true, false] rfl rfl rfl rfl (by kernel_rfl) (by decide) (by decide) (fun K hK => ?_) (fun K hK => ?_)
    rotate_left
    · skip
      refine value_ (w1 := w2.alloc (.cells #[.int .i64 0, .int .i64 0, .int .i64 0, .int .i64 0, .int .i64 0, .int .i64 0] 25)) (v := .pointer (some ⟨w2.heap.size, 0, none⟩)) (by rfl) rfl (by go_simp) ?_
      have hqa := hq2.alloc (.cells #[.int .i64 0, .int .i64 0, .int .i64 0, .int .i64 0, .int .i64 0, .int .i64 0] 25)
      have hgb := hq2.big
      have hz := blk_new w2 (.cells #[.int .i64 0, .int .i64 0, .int .i64 0, .int .i64 0, .int .i64 0, .int .i64 0] 25)
      refine hK.out _ _ ⟨hqa.cell, hqa⟩ (fun hHeld => ?_)
      clear hK K
      generalize w2.alloc (.cells #[.int .i64 0, .int .i64 0, .int .i64 0, .int .i64 0, .int .i64 0, .int .i64 0] 25) = wa at hqa hz hHeld ⊢
      generalize w2.heap.size = g at hz hgb ⊢
      refine norm_ (a' := ?_) ?_ ?_
      rotate_left
      · show Act.put _ (some 5) _ = _
        simp only [Act.put, List.setIfInBounds_toArray, List.set_cons_zero, List.set_cons_succ, i64_w, i32_w]
        rfl
      refine one_ (i := 8) (N := some 19) #[true, true, true, true, true, true, true, true, true, true, false, true, false, true, false, false, true, false] rfl rfl (by kernel_rfl) (by decide) (fun K hK => ?_)
      refine goesC_ Tryd.func36 (by kernel_rfl) rfl #[.int .i64 12, .int .i64 16] #[.pointer (some ⟨w.heap.size, 0, none⟩)] (by rfl) rfl rfl (by rfl) (by (try simp only [List.map_toArray, List.map_cons, List.map_nil]); first | done | rfl) ?_
      refine (A2.out _ hqa).mono ?_
      rintro e w3 ⟨rfl, hq3, hb3⟩
      refine ⟨_, rfl, ?_⟩
      have hz3 := blk_below hz hb3
      refine hK.out _ _ ⟨hq3.cell, hq3⟩ (fun hHeld => ?_)
      clear hK K
      refine norm_ (a' := ?_) ?_ ?_
      rotate_left
      · show Act.put _ (some 19) _ = _
        simp only [Act.put, List.setIfInBounds_toArray, List.set_cons_zero, List.set_cons_succ, i64_w, i32_w]
        rfl
      refine one_ (i := 10) (N := some 21) #[true, true, true, true, true, true, true, true, true, true, true, true, false, true, false, false, true, false] rfl rfl (by kernel_rfl) (by decide) (fun K hK => ?_)
      refine goesC_ Tryd.func36 (by kernel_rfl) rfl #[.int .i64 17, .int .i64 19] #[.pointer (some ⟨w.heap.size, 0, none⟩)] (by rfl) rfl rfl (by rfl) (by (try simp only [List.map_toArray, List.map_cons, List.map_nil]); first | done | rfl) ?_
      refine (A3.out _ hq3).mono ?_
      rintro e w4 ⟨rfl, hq4, hb4⟩
      refine ⟨_, rfl, ?_⟩
      have hz4 := blk_below hz3 hb4
      refine hK.out _ _ ⟨hq4.cell, hq4⟩ (fun hHeld => ?_)
      clear hK K
      refine norm_ (a' := ?_) ?_ ?_
      rotate_left
      · show Act.put _ (some 21) _ = _
        simp only [Act.put, List.setIfInBounds_toArray, List.set_cons_zero, List.set_cons_succ, i64_w, i32_w]
        rfl
      refine one_ (i := 12) (N := some 23) #[true, true, true, true, true, true, true, true, true, true, true, true, true, true, false, false, true, false] rfl rfl (by kernel_rfl) (by decide) (fun K hK => ?_)
      refine goesC_ Tryd.func36 (by kernel_rfl) rfl #[.int .i64 20, .int .i64 22] #[.pointer (some ⟨w.heap.size, 0, none⟩)] (by rfl) rfl rfl (by rfl) (by (try simp only [List.map_toArray, List.map_cons, List.map_nil]); first | done | rfl) ?_
      refine (A4.out _ hq4).mono ?_
      rintro e w5 ⟨rfl, hq5, hb5⟩
      refine ⟨_, rfl, ?_⟩
      have hz5 := blk_below hz4 hb5
      refine hK.out _ _ ⟨hq5.cell, hq5⟩ (fun hHeld => ?_)
      clear hK K
      refine norm_ (a' := ?_) ?_ ?_
      rotate_left
      · show Act.put _ (some 23) _ = _
        simp only [Act.put, List.setIfInBounds_toArray, List.set_cons_zero, List.set_cons_succ, i64_w, i32_w]
        rfl
      refine one_ (i := 14) (N := some 25) #[true, true, true, true, true, true, true, true, true, true, true, true, true, true, true, false, true, false] rfl rfl (by kernel_rfl) (by decide) (fun K hK => ?_)
      refine goesC_ Tryd.func36 (by kernel_rfl) rfl #[.int .i64 23, .int .i64 25] #[.pointer (some ⟨w.heap.size, 0, none⟩)] (by rfl) rfl rfl (by rfl) (by (try simp only [List.map_toArray, List.map_cons, List.map_nil]); first | done | rfl) ?_
      refine (A5.out _ hq5).mono ?_
      rintro e w6 ⟨rfl, hq6, hb6⟩
      refine ⟨_, rfl, ?_⟩
      have hz6 := blk_below hz5 hb6
      refine hK.out _ _ ⟨hq6.cell, hq6⟩ (fun hHeld => ?_)
      clear hK K
      refine norm_ (a' := ?_) ?_ ?_
      rotate_left
      · show Act.put _ (some 25) _ = _
        simp only [Act.put, List.setIfInBounds_toArray, List.set_cons_zero, List.set_cons_succ, i64_w, i32_w]
        rfl
      refine pure_ (i := 15) (N := some 26) (v := ?_) (a' := ?_) #[true, true, true, true, true, true, true, true, true, true, true, true, true, true, true, true, true, false] rfl rfl (by kernel_rfl) (fun _ _ _ h => h) (Or.inl ⟨by rfl, ?_⟩) ?_ ?_
      rotate_left
      · intro w'
        go_simp
        with_reducible rfl
      rotate_left
      · simp only [Act.put, List.setIfInBounds_toArray, List.set_cons_zero, List.set_cons_succ, i64_w, i32_w]
        rfl
      refine last_ (i := 17) (N := none) #[true, true, true, true, true, true, true, true, true, true, true, true, true, true, true, true, true, true] rfl rfl (by kernel_rfl) (by decide) (fun K hK => ?_)
      refine skip_ (by rfl) rfl (date_store (.tmp 5) (.tmp 26) rfl (by rfl) (by rfl) hz6) ?_
      refine hK.out _ _ ?_
      clear hK K
      refine done_ (by kernel_rfl) ?_
      have hqs := hq6.set hgb [.int .i64 y, .int .i64 m, .int .i64 d, .int .i64 h, .int .i64 n, .int .i64 c]
      try go_wp2
      go_meet
      case rel => exact ⟨_, rfl, ⟨hqs⟩, ⟨date_put hz6⟩⟩
    refine goesC_ Tryd.func36 (by kernel_rfl) rfl #[.int .i64 12, .int .i64 16] #[.pointer (some ⟨w.heap.size, 0, none⟩)] (by rfl) rfl rfl (by rfl) (by (try simp only [List.map_toArray, List.map_cons, List.map_nil]); first | done | rfl) ?_
    refine (A2.out _ hq2).mono ?_
    rintro e w3 ⟨rfl, hq3, hb3⟩
    refine ⟨_, rfl, ?_⟩
    refine hK.out _ _ ⟨hq3.cell, hq3⟩ (fun hHeld => ?_)
    clear hK K
    refine norm_ (a' := ?_) ?_ ?_
    rotate_left
    · show Act.put _ (some 19) _ = _
      simp only [Act.put, List.setIfInBounds_toArray, List.set_cons_zero, List.set_cons_succ, i64_w, i32_w]
      rfl
    refine two_ (i := 10) (j := 16) (Ni := some 21) (Nj := some 5) #[true, true, true, true, true, true, true, true, true, true, true, true, false, true, false, false, false, false] #[true, true, true, true, true, true, true, true, true, true, false, true, false, true, false, false, true, false] rfl rfl rfl rfl (by kernel_rfl) (by decide) (by decide) (fun K hK => ?_) (fun K hK => ?_)
    rotate_left
    · skip
      refine value_ (w1 := w3.alloc (.cells #[.int .i64 0, .int .i64 0, .int .i64 0, .int .i64 0, .int .i64 0, .int .i64 0] 25)) (v := .pointer (some ⟨w3.heap.size, 0, none⟩)) (by rfl) rfl (by go_simp) ?_
      have hqa := hq3.alloc (.cells #[.int .i64 0, .int .i64 0, .int .i64 0, .int .i64 0, .int .i64 0, .int .i64 0] 25)
      have hgb := hq3.big
      have hz := blk_new w3 (.cells #[.int .i64 0, .int .i64 0, .int .i64 0, .int .i64 0, .int .i64 0, .int .i64 0] 25)
      refine hK.out _ _ ⟨hqa.cell, hqa⟩ (fun hHeld => ?_)
      clear hK K
      generalize w3.alloc (.cells #[.int .i64 0, .int .i64 0, .int .i64 0, .int .i64 0, .int .i64 0, .int .i64 0] 25) = wa at hqa hz hHeld ⊢
      generalize w3.heap.size = g at hz hgb ⊢
      refine norm_ (a' := ?_) ?_ ?_
      rotate_left
      · show Act.put _ (some 5) _ = _
        simp only [Act.put, List.setIfInBounds_toArray, List.set_cons_zero, List.set_cons_succ, i64_w, i32_w]
        rfl
      refine one_ (i := 10) (N := some 21) #[true, true, true, true, true, true, true, true, true, true, true, true, false, true, false, false, true, false] rfl rfl (by kernel_rfl) (by decide) (fun K hK => ?_)
      refine goesC_ Tryd.func36 (by kernel_rfl) rfl #[.int .i64 17, .int .i64 19] #[.pointer (some ⟨w.heap.size, 0, none⟩)] (by rfl) rfl rfl (by rfl) (by (try simp only [List.map_toArray, List.map_cons, List.map_nil]); first | done | rfl) ?_
      refine (A3.out _ hqa).mono ?_
      rintro e w4 ⟨rfl, hq4, hb4⟩
      refine ⟨_, rfl, ?_⟩
      have hz4 := blk_below hz hb4
      refine hK.out _ _ ⟨hq4.cell, hq4⟩ (fun hHeld => ?_)
      clear hK K
      refine norm_ (a' := ?_) ?_ ?_
      rotate_left
      · show Act.put _ (some 21) _ = _
        simp only [Act.put, List.setIfInBounds_toArray, List.set_cons_zero, List.set_cons_succ, i64_w, i32_w]
        rfl
      refine one_ (i := 12) (N := some 23) #[true, true, true, true, true, true, true, true, true, true, true, true, true, true, false, false, true, false] rfl rfl (by kernel_rfl) (by decide) (fun K hK => ?_)
      refine goesC_ Tryd.func36 (by kernel_rfl) rfl #[.int .i64 20, .int .i64 22] #[.pointer (some ⟨w.heap.size, 0, none⟩)] (by rfl) rfl rfl (by rfl) (by (try simp only [List.map_toArray, List.map_cons, List.map_nil]); first | done | rfl) ?_
      refine (A4.out _ hq4).mono ?_
      rintro e w5 ⟨rfl, hq5, hb5⟩
      refine ⟨_, rfl, ?_⟩
      have hz5 := blk_below hz4 hb5
      refine hK.out _ _ ⟨hq5.cell, hq5⟩ (fun hHeld => ?_)
      clear hK K
      refine norm_ (a' := ?_) ?_ ?_
      rotate_left
      · show Act.put _ (some 23) _ = _
        simp only [Act.put, List.setIfInBounds_toArray, List.set_cons_zero, List.set_cons_succ, i64_w, i32_w]
        rfl
      refine one_ (i := 14) (N := some 25) #[true, true, true, true, true, true, true, true, true, true, true, true, true, true, true, false, true, false] rfl rfl (by kernel_rfl) (by decide) (fun K hK => ?_)
      refine goesC_ Tryd.func36 (by kernel_rfl) rfl #[.int .i64 23, .int .i64 25] #[.pointer (some ⟨w.heap.size, 0, none⟩)] (by rfl) rfl rfl (by rfl) (by (try simp only [List.map_toArray, List.map_cons, List.map_nil]); first | done | rfl) ?_
      refine (A5.out _ hq5).mono ?_
      rintro e w6 ⟨rfl, hq6, hb6⟩
      refine ⟨_, rfl, ?_⟩
      have hz6 := blk_below hz5 hb6
      refine hK.out _ _ ⟨hq6.cell, hq6⟩ (fun hHeld => ?_)
      clear hK K
      refine norm_ (a' := ?_) ?_ ?_
      rotate_left
      · show Act.put _ (some 25) _ = _
        simp only [Act.put, List.setIfInBounds_toArray, List.set_cons_zero, List.set_cons_succ, i64_w, i32_w]
        rfl
      refine pure_ (i := 15) (N := some 26) (v := ?_) (a' := ?_) #[true, true, true, true, true, true, true, true, true, true, true, true, true, true, true, true, true, false] rfl rfl (by kernel_rfl) (fun _ _ _ h => h) (Or.inl ⟨by rfl, ?_⟩) ?_ ?_
      rotate_left
      · intro w'
        go_simp
        with_reducible rfl
      rotate_left
      · simp only [Act.put, List.setIfInBounds_toArray, List.set_cons_zero, List.set_cons_succ, i64_w, i32_w]
        rfl
      refine last_ (i := 17) (N := none) #[true, true, true, true, true, true, true, true, true, true, true, true, true, true, true, true, true, true] rfl rfl (by kernel_rfl) (by decide) (fun K hK => ?_)
      refine skip_ (by rfl) rfl (date_store (.tmp 5) (.tmp 26) rfl (by rfl) (by rfl) hz6) ?_
      refine hK.out _ _ ?_
      clear hK K
      refine done_ (by kernel_rfl) ?_
      have hqs := hq6.set hgb [.int .i64 y, .int .i64 m, .int .i64 d, .int .i64 h, .int .i64 n, .int .i64 c]
      try go_wp2
      go_meet
      case rel => exact ⟨_, rfl, ⟨hqs⟩, ⟨date_put hz6⟩⟩
    refine goesC_ Tryd.func36 (by kernel_rfl) rfl #[.int .i64 17, .int .i64 19] #[.pointer (some ⟨w.heap.size, 0, none⟩)] (by rfl) rfl rfl (by rfl) (by (try simp only [List.map_toArray, List.map_cons, List.map_nil]); first | done | rfl) ?_
    refine (A3.out _ hq3).mono ?_
    rintro e w4 ⟨rfl, hq4, hb4⟩
    refine ⟨_, rfl, ?_⟩
    refine hK.out _ _ ⟨hq4.cell, hq4⟩ (fun hHeld => ?_)
    clear hK K
    refine norm_ (a' := ?_) ?_ ?_
    rotate_left
    · show Act.put _ (some 21) _ = _
      simp only [Act.put, List.setIfInBounds_toArray, List.set_cons_zero, List.set_cons_succ, i64_w, i32_w]
      rfl
    refine two_ (i := 12) (j := 16) (Ni := some 23) (Nj := some 5) #[true, true, true, true, true, true, true, true, true, true, true, true, true, true, false, false, false, false] #[true, true, true, true, true, true, true, true, true, true, true, true, false, true, false, false, true, false] rfl rfl rfl rfl (by kernel_rfl) (by decide) (by decide) (fun K hK => ?_) (fun K hK => ?_)
    rotate_left
    · skip
      refine value_ (w1 := w4.alloc (.cells #[.int .i64 0, .int .i64 0, .int .i64 0, .int .i64 0, .int .i64 0, .int .i64 0] 25)) (v := .pointer (some ⟨w4.heap.size, 0, none⟩)) (by rfl) rfl (by go_simp) ?_
      have hqa := hq4.alloc (.cells #[.int .i64 0, .int .i64 0, .int .i64 0, .int .i64 0, .int .i64 0, .int .i64 0] 25)
      have hgb := hq4.big
      have hz := blk_new w4 (.cells #[.int .i64 0, .int .i64 0, .int .i64 0, .int .i64 0, .int .i64 0, .int .i64 0] 25)
      refine hK.out _ _ ⟨hqa.cell, hqa⟩ (fun hHeld => ?_)
      clear hK K
      generalize w4.alloc (.cells #[.int .i64 0, .int .i64 0, .int .i64 0, .int .i64 0, .int .i64 0, .int .i64 0] 25) = wa at hqa hz hHeld ⊢
      generalize w4.heap.size = g at hz hgb ⊢
      refine norm_ (a' := ?_) ?_ ?_
      rotate_left
      · show Act.put _ (some 5) _ = _
        simp only [Act.put, List.setIfInBounds_toArray, List.set_cons_zero, List.set_cons_succ, i64_w, i32_w]
        rfl
      refine one_ (i := 12) (N := some 23) #[true, true, true, true, true, true, true, true, true, true, true, true, true, true, false, false, true, false] rfl rfl (by kernel_rfl) (by decide) (fun K hK => ?_)
      refine goesC_ Tryd.func36 (by kernel_rfl) rfl #[.int .i64 20, .int .i64 22] #[.pointer (some ⟨w.heap.size, 0, none⟩)] (by rfl) rfl rfl (by rfl) (by (try simp only [List.map_toArray, List.map_cons, List.map_nil]); first | done | rfl) ?_
      refine (A4.out _ hqa).mono ?_
      rintro e w5 ⟨rfl, hq5, hb5⟩
      refine ⟨_, rfl, ?_⟩
      have hz5 := blk_below hz hb5
      refine hK.out _ _ ⟨hq5.cell, hq5⟩ (fun hHeld => ?_)
      clear hK K
      refine norm_ (a' := ?_) ?_ ?_
      rotate_left
      · show Act.put _ (some 23) _ = _
        simp only [Act.put, List.setIfInBounds_toArray, List.set_cons_zero, List.set_cons_succ, i64_w, i32_w]
        rfl
      refine one_ (i := 14) (N := some 25) #[true, true, true, true, true, true, true, true, true, true, true, true, true, true, true, false, true, false] rfl rfl (by kernel_rfl) (by decide) (fun K hK => ?_)
      refine goesC_ Tryd.func36 (by kernel_rfl) rfl #[.int .i64 23, .int .i64 25] #[.pointer (some ⟨w.heap.size, 0, none⟩)] (by rfl) rfl rfl (by rfl) (by (try simp only [List.map_toArray, List.map_cons, List.map_nil]); first | done | rfl) ?_
      refine (A5.out _ hq5).mono ?_
      rintro e w6 ⟨rfl, hq6, hb6⟩
      refine ⟨_, rfl, ?_⟩
      have hz6 := blk_below hz5 hb6
      refine hK.out _ _ ⟨hq6.cell, hq6⟩ (fun hHeld => ?_)
      clear hK K
      refine norm_ (a' := ?_) ?_ ?_
      rotate_left
      · show Act.put _ (some 25) _ = _
        simp only [Act.put, List.setIfInBounds_toArray, List.set_cons_zero, List.set_cons_succ, i64_w, i32_w]
        rfl
      refine pure_ (i := 15) (N := some 26) (v := ?_) (a' := ?_) #[true, true, true, true, true, true, true, true, true, true, true, true, true, true, true, true, true, false] rfl rfl (by kernel_rfl) (fun _ _ _ h => h) (Or.inl ⟨by rfl, ?_⟩) ?_ ?_
      rotate_left
      · intro w'
        go_simp
        with_reducible rfl
      rotate_left
      · simp only [Act.put, List.setIfInBounds_toArray, List.set_cons_zero, List.set_cons_succ, i64_w, i32_w]
        rfl
      refine last_ (i := 17) (N := none) #[true, true, true, true, true, true, true, true, true, true, true, true, true, true, true, true, true, true] rfl rfl (by kernel_rfl) (by decide) (fun K hK => ?_)
      refine skip_ (by rfl) rfl (date_store (.tmp 5) (.tmp 26) rfl (by rfl) (by rfl) hz6) ?_
      refine hK.out _ _ ?_
      clear hK K
      refine done_ (by kernel_rfl) ?_
      have hqs := hq6.set hgb [.int .i64 y, .int .i64 m, .int .i64 d, .int .i64 h, .int .i64 n, .int .i64 c]
      try go_wp2
      go_meet
      case rel => exact ⟨_, rfl, ⟨hqs⟩, ⟨date_put hz6⟩⟩
    refine goesC_ Tryd.func36 (by kernel_rfl) rfl #[.int .i64 20, .int .i64 22] #[.pointer (some ⟨w.heap.size, 0, none⟩)] (by rfl) rfl rfl (by rfl) (by (try simp only [List.map_toArray, List.map_cons, List.map_nil]); first | done | rfl) ?_
    refine (A4.out _ hq4).mono ?_
    rintro e w5 ⟨rfl, hq5, hb5⟩
    refine ⟨_, rfl, ?_⟩
    refine hK.out _ _ ⟨hq5.cell, hq5⟩ (fun hHeld => ?_)
    clear hK K
    refine norm_ (a' := ?_) ?_ ?_
    rotate_left
    · show Act.put _ (some 23) _ = _
      simp only [Act.put, List.setIfInBounds_toArray, List.set_cons_zero, List.set_cons_succ, i64_w, i32_w]
      rfl
    refine two_ (i := 14) (j := 16) (Ni := some 25) (Nj := some 5) #[true, true, true, true, true, true, true, true, true, true, true, true, true, true, true, false, false, false] #[true, true, true, true, true, true, true, true, true, true, true, true, true, true, false, false, true, false] rfl rfl rfl rfl (by kernel_rfl) (by decide) (by decide) (fun K hK => ?_) (fun K hK => ?_)
    rotate_left
    · skip
      refine value_ (w1 := w5.alloc (.cells #[.int .i64 0, .int .i64 0, .int .i64 0, .int .i64 0, .int .i64 0, .int .i64 0] 25)) (v := .pointer (some ⟨w5.heap.size, 0, none⟩)) (by rfl) rfl (by go_simp) ?_
      have hqa := hq5.alloc (.cells #[.int .i64 0, .int .i64 0, .int .i64 0, .int .i64 0, .int .i64 0, .int .i64 0] 25)
      have hgb := hq5.big
      have hz := blk_new w5 (.cells #[.int .i64 0, .int .i64 0, .int .i64 0, .int .i64 0, .int .i64 0, .int .i64 0] 25)
      refine hK.out _ _ ⟨hqa.cell, hqa⟩ (fun hHeld => ?_)
      clear hK K
      generalize w5.alloc (.cells #[.int .i64 0, .int .i64 0, .int .i64 0, .int .i64 0, .int .i64 0, .int .i64 0] 25) = wa at hqa hz hHeld ⊢
      generalize w5.heap.size = g at hz hgb ⊢
      refine norm_ (a' := ?_) ?_ ?_
      rotate_left
      · show Act.put _ (some 5) _ = _
        simp only [Act.put, List.setIfInBounds_toArray, List.set_cons_zero, List.set_cons_succ, i64_w, i32_w]
        rfl
      refine one_ (i := 14) (N := some 25) #[true, true, true, true, true, true, true, true, true, true, true, true, true, true, true, false, true, false] rfl rfl (by kernel_rfl) (by decide) (fun K hK => ?_)
      refine goesC_ Tryd.func36 (by kernel_rfl) rfl #[.int .i64 23, .int .i64 25] #[.pointer (some ⟨w.heap.size, 0, none⟩)] (by rfl) rfl rfl (by rfl) (by (try simp only [List.map_toArray, List.map_cons, List.map_nil]); first | done | rfl) ?_
      refine (A5.out _ hqa).mono ?_
      rintro e w6 ⟨rfl, hq6, hb6⟩
      refine ⟨_, rfl, ?_⟩
      have hz6 := blk_below hz hb6
      refine hK.out _ _ ⟨hq6.cell, hq6⟩ (fun hHeld => ?_)
      clear hK K
      refine norm_ (a' := ?_) ?_ ?_
      rotate_left
      · show Act.put _ (some 25) _ = _
        simp only [Act.put, List.setIfInBounds_toArray, List.set_cons_zero, List.set_cons_succ, i64_w, i32_w]
        rfl
      refine pure_ (i := 15) (N := some 26) (v := ?_) (a' := ?_) #[true, true, true, true, true, true, true, true, true, true, true, true, true, true, true, true, true, false] rfl rfl (by kernel_rfl) (fun _ _ _ h => h) (Or.inl ⟨by rfl, ?_⟩) ?_ ?_
      rotate_left
      · intro w'
        go_simp
        with_reducible rfl
      rotate_left
      · simp only [Act.put, List.setIfInBounds_toArray, List.set_cons_zero, List.set_cons_succ, i64_w, i32_w]
        rfl
      refine last_ (i := 17) (N := none) #[true, true, true, true, true, true, true, true, true, true, true, true, true, true, true, true, true, true] rfl rfl (by kernel_rfl) (by decide) (fun K hK => ?_)
      refine skip_ (by rfl) rfl (date_store (.tmp 5) (.tmp 26) rfl (by rfl) (by rfl) hz6) ?_
      refine hK.out _ _ ?_
      clear hK K
      refine done_ (by kernel_rfl) ?_
      have hqs := hq6.set hgb [.int .i64 y, .int .i64 m, .int .i64 d, .int .i64 h, .int .i64 n, .int .i64 c]
      try go_wp2
      go_meet
      case rel => exact ⟨_, rfl, ⟨hqs⟩, ⟨date_put hz6⟩⟩
    refine goesC_ Tryd.func36 (by kernel_rfl) rfl #[.int .i64 23, .int .i64 25] #[.pointer (some ⟨w.heap.size, 0, none⟩)] (by rfl) rfl rfl (by rfl) (by (try simp only [List.map_toArray, List.map_cons, List.map_nil]); first | done | rfl) ?_
    refine (A5.out _ hq5).mono ?_
    rintro e w6 ⟨rfl, hq6, hb6⟩
    refine ⟨_, rfl, ?_⟩
    refine hK.out _ _ ⟨hq6.cell, hq6⟩ (fun hHeld => ?_)
    clear hK K
    refine norm_ (a' := ?_) ?_ ?_
    rotate_left
    · show Act.put _ (some 25) _ = _
      simp only [Act.put, List.setIfInBounds_toArray, List.set_cons_zero, List.set_cons_succ, i64_w, i32_w]
      rfl
    refine pure_ (i := 15) (N := some 26) (v := ?_) (a' := ?_) #[true, true, true, true, true, true, true, true, true, true, true, true, true, true, true, true, false, false] rfl rfl (by kernel_rfl) (fun _ _ _ h => h) (Or.inl ⟨by rfl, ?_⟩) ?_ ?_
    rotate_left
    · intro w'
      go_simp
      with_reducible rfl
    rotate_left
    · simp only [Act.put, List.setIfInBounds_toArray, List.set_cons_zero, List.set_cons_succ, i64_w, i32_w]
      rfl
    refine one_ (i := 16) (N := some 5) #[true, true, true, true, true, true, true, true, true, true, true, true, true, true, true, true, true, false] rfl rfl (by kernel_rfl) (by decide) (fun K hK => ?_)
    refine value_ (w1 := w6.alloc (.cells #[.int .i64 0, .int .i64 0, .int .i64 0, .int .i64 0, .int .i64 0, .int .i64 0] 25)) (v := .pointer (some ⟨w6.heap.size, 0, none⟩)) (by rfl) rfl (by go_simp) ?_
    have hqa := hq6.alloc (.cells #[.int .i64 0, .int .i64 0, .int .i64 0, .int .i64 0, .int .i64 0, .int .i64 0] 25)
    have hgb := hq6.big
    have hz := blk_new w6 (.cells #[.int .i64 0, .int .i64 0, .int .i64 0, .int .i64 0, .int .i64 0, .int .i64 0] 25)
    refine hK.out _ _ ⟨hqa.cell, hqa⟩ (fun hHeld => ?_)
    clear hK K
    generalize w6.alloc (.cells #[.int .i64 0, .int .i64 0, .int .i64 0, .int .i64 0, .int .i64 0, .int .i64 0] 25) = wa at hqa hz hHeld ⊢
    generalize w6.heap.size = g at hz hgb ⊢
    refine norm_ (a' := ?_) ?_ ?_
    rotate_left
    · show Act.put _ (some 5) _ = _
      simp only [Act.put, List.setIfInBounds_toArray, List.set_cons_zero, List.set_cons_succ, i64_w, i32_w]
      rfl
    refine last_ (i := 17) (N := none) #[true, true, true, true, true, true, true, true, true, true, true, true, true, true, true, true, true, true] rfl rfl (by kernel_rfl) (by decide) (fun K hK => ?_)
    refine skip_ (by rfl) rfl (date_store (.tmp 5) (.tmp 26) rfl (by rfl) (by rfl) hz) ?_
    refine hK.out _ _ ?_
    clear hK K
    refine done_ (by kernel_rfl) ?_
    have hqs := hqa.set hgb [.int .i64 y, .int .i64 m, .int .i64 d, .int .i64 h, .int .i64 n, .int .i64 c]
    try go_wp2
    go_meet
    case rel => exact ⟨_, rfl, ⟨hqs⟩, ⟨date_put hz⟩⟩
  case rest =>
    obtain ⟨g, rfl, R, BK⟩ := hcut
    have D : RdD w s g y m d h n c wc.drew := ⟨R.out.drew, BK.out⟩
    clear R BK A1 A2 A3 A4 A5 A6
    go_wp2
    cases ok with
    | false =>
      have hout := HBo.out (fun q => Bool.noConfusion q.1)
      refine start_ (n := 9) (S := (fun W => W.cell? ⟨w.heap.size, 0, none⟩ = some (.string s) ∧ W.cell? ⟨g, 0, none⟩ = some (.int .i64 y) ∧ W.cell? ⟨g, 1, none⟩ = some (.int .i64 m) ∧ W.cell? ⟨g, 2, none⟩ = some (.int .i64 d) ∧ W.cell? ⟨g, 3, none⟩ = some (.int .i64 h) ∧ W.cell? ⟨g, 4, none⟩ = some (.int .i64 n) ∧ W.cell? ⟨g, 5, none⟩ = some (.int .i64 c) ∧ RdD w s g y m d h n c W)) (ds := []) #[false, false, false, false, false, false, false, false, false] (by kernel_rfl) rfl rfl (RdD.held D) (fun hHeld => ?_)
      generalize World.drew _ = w0 at D hHeld ⊢
      refine take_ (i := 0) (N := some 27) (v := ?_) (a' := ?_) #[true, false, false, false, false, false, false, false, false] rfl rfl (by kernel_rfl) (fun _ _ _ h => h) (Or.inl ⟨by rfl, ?_⟩) hHeld ?_ ?_
      rotate_left
      · rintro w' ⟨s0, s1, s2, s3, s4, s5, s6, s7⟩
        go_simp
        with_reducible rfl
      rotate_left
      · simp only [Act.put, List.setIfInBounds_toArray, List.set_cons_zero, List.set_cons_succ, i64_w, i32_w]
        rfl
      refine one_ (i := 1) (N := some 28) #[true, true, false, false, false, false, false, false, false] rfl rfl (by kernel_rfl) (by decide) (fun K hK => ?_)
      refine goes_ Tryd.func34 (by kernel_rfl) rfl #[.agg #[.int .i64 y, .int .i64 m, .int .i64 d, .int .i64 h, .int .i64 n, .int .i64 c]] (by rfl) rfl rfl (by (try simp only [List.map_toArray, List.map_cons, List.map_nil]); first | done | rfl) ?_
      refine (HOK.out _).mono ?_
      rintro e w7 ⟨rfl, hb7⟩
      refine ⟨_, rfl, ?_⟩
      have D7 := D.step hb7
      refine hK.out _ _ (RdD.held D7) (fun hHeld => ?_)
      clear hK K
      refine norm_ (a' := ?_) ?_ ?_
      rotate_left
      · show Act.put _ (some 28) _ = _
        simp only [Act.put, List.setIfInBounds_toArray, List.set_cons_zero, List.set_cons_succ, i64_w, i32_w]
        rfl
      refine pure_ (i := 2) (N := some 29) (v := ?_) (a' := ?_) #[true, true, true, false, false, false, false, false, false] rfl rfl (by kernel_rfl) (fun _ _ _ h => h) (Or.inl ⟨by rfl, ?_⟩) ?_ ?_
      rotate_left
      · intro w'
        go_simp
        with_reducible rfl
      rotate_left
      · simp only [Act.put, List.setIfInBounds_toArray, List.set_cons_zero, List.set_cons_succ, i64_w, i32_w]
        rfl
      refine pure_ (i := 3) (N := some 30) (v := ?_) (a' := ?_) #[true, true, true, true, false, false, false, false, false] rfl rfl (by kernel_rfl) (fun _ _ _ h => h) (Or.inl ⟨by rfl, ?_⟩) ?_ ?_
      rotate_left
      · intro w'
        go_simp
        with_reducible rfl
      rotate_left
      · simp only [Act.put, List.setIfInBounds_toArray, List.set_cons_zero, List.set_cons_succ, i64_w, i32_w]
        rfl
      refine pure_ (i := 4) (N := some 31) (v := undef) (a' := ?_) #[true, true, true, true, true, false, false, false, false] rfl rfl (by kernel_rfl) (fun _ _ _ h => h) (Or.inr ⟨by rfl, rfl⟩) ?_ ?_
      rotate_left
      · simp only [Act.put, List.setIfInBounds_toArray, List.set_cons_zero, List.set_cons_succ, i64_w, i32_w]
        rfl
      refine pure_ (i := 6) (N := some 33) (v := undef) (a' := ?_) #[true, true, true, true, true, false, true, false, false] rfl rfl (by kernel_rfl) (fun _ _ _ h => h) (Or.inr ⟨by rfl, rfl⟩) ?_ ?_
      rotate_left
      · simp only [Act.put, List.setIfInBounds_toArray, List.set_cons_zero, List.set_cons_succ, i64_w, i32_w]
        rfl
      refine pure_ (i := 5) (N := some 32) (v := undef) (a' := ?_) #[true, true, true, true, true, true, true, false, false] rfl rfl (by kernel_rfl) (fun _ _ _ h => h) (Or.inr ⟨by rfl, rfl⟩) ?_ ?_
      rotate_left
      · simp only [Act.put, List.setIfInBounds_toArray, List.set_cons_zero, List.set_cons_succ, i64_w, i32_w]
        rfl
      refine pure_ (i := 7) (N := some 34) (v := undef) (a' := ?_) #[true, true, true, true, true, true, true, true, false] rfl rfl (by kernel_rfl) (fun _ _ _ h => h) (Or.inr ⟨by rfl, rfl⟩) ?_ ?_
      rotate_left
      · simp only [Act.put, List.setIfInBounds_toArray, List.set_cons_zero, List.set_cons_succ, i64_w, i32_w]
        rfl
      refine pure_ (i := 8) (N := some 35) (v := ?_) (a' := ?_) #[true, true, true, true, true, true, true, true, true] rfl rfl (by kernel_rfl) (fun _ _ _ h => h) (Or.inl ⟨by rfl, ?_⟩) ?_ ?_
      rotate_left
      · intro w'
        go_simp
        with_reducible rfl
      rotate_left
      · simp only [Act.put, List.setIfInBounds_toArray, List.set_cons_zero, List.set_cons_succ, i64_w, i32_w]
        rfl
      refine done_ (by kernel_rfl) ?_
      have hbel := D7.r.bel
      have z0 : w7.cell? ⟨w.heap.size + 1, 0, none⟩ = some (.int .i64 0) := (blk_cell D7.r.res 0).trans rfl
      have f0 := blk_frozen D7.r.res 0
      have z1 : w7.cell? ⟨w.heap.size + 1, 1, none⟩ = some (.int .i64 0) := (blk_cell D7.r.res 1).trans rfl
      have f1 := blk_frozen D7.r.res 1
      have z2 : w7.cell? ⟨w.heap.size + 1, 2, none⟩ = some (.int .i64 0) := (blk_cell D7.r.res 2).trans rfl
      have f2 := blk_frozen D7.r.res 2
      have z3 : w7.cell? ⟨w.heap.size + 1, 3, none⟩ = some (.int .i64 0) := (blk_cell D7.r.res 3).trans rfl
      have f3 := blk_frozen D7.r.res 3
      have z4 : w7.cell? ⟨w.heap.size + 1, 4, none⟩ = some (.int .i64 0) := (blk_cell D7.r.res 4).trans rfl
      have f4 := blk_frozen D7.r.res 4
      have z5 : w7.cell? ⟨w.heap.size + 1, 5, none⟩ = some (.int .i64 0) := (blk_cell D7.r.res 5).trans rfl
      have f5 := blk_frozen D7.r.res 5
      go_wp2
      refine bodyPost_ret (results_ct rfl _ _ (w.heap.size + 1) 25 #[.int .i64 0, .int .i64 0, .int .i64 0, .int .i64 0, .int .i64 0, .int .i64 0] (0, 0) _ rfl (by refine blk_put (cs := #[.int .i64 0, .int .i64 0, .int .i64 0, .int .i64 0, .int .i64 0, .int .i64 0]) ?_ 5 _ rfl; refine blk_put (cs := #[.int .i64 0, .int .i64 0, .int .i64 0, .int .i64 0, .int .i64 0, .int .i64 0]) ?_ 4 _ rfl; refine blk_put (cs := #[.int .i64 0, .int .i64 0, .int .i64 0, .int .i64 0, .int .i64 0, .int .i64 0]) ?_ 3 _ rfl; refine blk_put (cs := #[.int .i64 0, .int .i64 0, .int .i64 0, .int .i64 0, .int .i64 0, .int .i64 0]) ?_ 2 _ rfl; refine blk_put (cs := #[.int .i64 0, .int .i64 0, .int .i64 0, .int .i64 0, .int .i64 0, .int .i64 0]) ?_ 1 _ rfl; refine blk_put (cs := #[.int .i64 0, .int .i64 0, .int .i64 0, .int .i64 0, .int .i64 0, .int .i64 0]) ?_ 0 _ rfl; exact D7.r.res) Tryd.underlying25 rfl (by kernel_rfl)) rfl ?_
      exact ⟨by rw [hout]; rfl, below_set (below_set (below_set (below_set (below_set (below_set hbel (Nat.le_succ _)) (Nat.le_succ _)) (Nat.le_succ _)) (Nat.le_succ _)) (Nat.le_succ _)) (Nat.le_succ _)⟩
    | true =>
      have HT2 := Aside0.mk (fun W hW => HT.out W hW rfl)
      clear HT
      by_cases htt : t.toList = s.toList
      · have hout := HA.out rfl htt
        have e0 : (t.toList == s.toList) = true := beq_iff_eq.mpr htt
        have e1 : (t.toList != s.toList) = false := bne_eq_false_iff_eq.mpr htt
        clear HA HBo htt
        go_region_held3 (fun W => W.cell? ⟨w.heap.size, 0, none⟩ = some (.string s) ∧ W.cell? ⟨g, 0, none⟩ = some (.int .i64 y) ∧ W.cell? ⟨g, 1, none⟩ = some (.int .i64 m) ∧ W.cell? ⟨g, 2, none⟩ = some (.int .i64 d) ∧ W.cell? ⟨g, 3, none⟩ = some (.int .i64 h) ∧ W.cell? ⟨g, 4, none⟩ = some (.int .i64 n) ∧ W.cell? ⟨g, 5, none⟩ = some (.int .i64 c) ∧ RdD w s g y m d h n c W) (exact RdD.held (by assumption)) (first | (go_at_call 34; refine (HOK.out _).mono ?_; rintro e w7 ⟨rfl, hb7⟩; have D7 := D.step hb7) | (go_at_call 10; refine (HT2.out _ ?_).mono ?_; (exact HX.out.stays D7.r.bel); rintro e w8 ⟨rfl, hb8⟩; have D8 := D7.step hb8))
        have hbel := D8.r.bel
        have z0 : w8.cell? ⟨w.heap.size + 1, 0, none⟩ = some (.int .i64 0) := (blk_cell D8.r.res 0).trans rfl
        have f0 := blk_frozen D8.r.res 0
        have z1 : w8.cell? ⟨w.heap.size + 1, 1, none⟩ = some (.int .i64 0) := (blk_cell D8.r.res 1).trans rfl
        have f1 := blk_frozen D8.r.res 1
        have z2 : w8.cell? ⟨w.heap.size + 1, 2, none⟩ = some (.int .i64 0) := (blk_cell D8.r.res 2).trans rfl
        have f2 := blk_frozen D8.r.res 2
        have z3 : w8.cell? ⟨w.heap.size + 1, 3, none⟩ = some (.int .i64 0) := (blk_cell D8.r.res 3).trans rfl
        have f3 := blk_frozen D8.r.res 3
        have z4 : w8.cell? ⟨w.heap.size + 1, 4, none⟩ = some (.int .i64 0) := (blk_cell D8.r.res 4).trans rfl
        have f4 := blk_frozen D8.r.res 4
        have z5 : w8.cell? ⟨w.heap.size + 1, 5, none⟩ = some (.int .i64 0) := (blk_cell D8.r.res 5).trans rfl
        have f5 := blk_frozen D8.r.res 5
        go_wp2
        refine bodyPost_ret (results_ct rfl _ _ (w.heap.size + 1) 25 #[.int .i64 y, .int .i64 m, .int .i64 d, .int .i64 h, .int .i64 n, .int .i64 c] (0, 0) _ rfl (by refine blk_put (cs := #[.int .i64 y, .int .i64 m, .int .i64 d, .int .i64 h, .int .i64 n, .int .i64 0]) ?_ 5 _ rfl; refine blk_put (cs := #[.int .i64 y, .int .i64 m, .int .i64 d, .int .i64 h, .int .i64 0, .int .i64 0]) ?_ 4 _ rfl; refine blk_put (cs := #[.int .i64 y, .int .i64 m, .int .i64 d, .int .i64 0, .int .i64 0, .int .i64 0]) ?_ 3 _ rfl; refine blk_put (cs := #[.int .i64 y, .int .i64 m, .int .i64 0, .int .i64 0, .int .i64 0, .int .i64 0]) ?_ 2 _ rfl; refine blk_put (cs := #[.int .i64 y, .int .i64 0, .int .i64 0, .int .i64 0, .int .i64 0, .int .i64 0]) ?_ 1 _ rfl; refine blk_put (cs := #[.int .i64 0, .int .i64 0, .int .i64 0, .int .i64 0, .int .i64 0, .int .i64 0]) ?_ 0 _ rfl; exact D8.r.res) Tryd.underlying25 rfl (by kernel_rfl)) rfl ?_
        exact ⟨by rw [hout]; rfl, below_set (below_set (below_set (below_set (below_set (below_set hbel (Nat.le_succ _)) (Nat.le_succ _)) (Nat.le_succ _)) (Nat.le_succ _)) (Nat.le_succ _)) (Nat.le_succ _)⟩
      · have hout := HBo.out (fun q => htt q.2)
        have e0 : (t.toList == s.toList) = false := beq_eq_false_iff_ne.mpr htt
        have e1 : (t.toList != s.toList) = true := bne_iff_ne.mpr htt
        clear HA HBo htt
        go_region_held3 (fun W => W.cell? ⟨w.heap.size, 0, none⟩ = some (.string s) ∧ W.cell? ⟨g, 0, none⟩ = some (.int .i64 y) ∧ W.cell? ⟨g, 1, none⟩ = some (.int .i64 m) ∧ W.cell? ⟨g, 2, none⟩ = some (.int .i64 d) ∧ W.cell? ⟨g, 3, none⟩ = some (.int .i64 h) ∧ W.cell? ⟨g, 4, none⟩ = some (.int .i64 n) ∧ W.cell? ⟨g, 5, none⟩ = some (.int .i64 c) ∧ RdD w s g y m d h n c W) (exact RdD.held (by assumption)) (first | (go_at_call 34; refine (HOK.out _).mono ?_; rintro e w7 ⟨rfl, hb7⟩; have D7 := D.step hb7) | (go_at_call 10; refine (HT2.out _ ?_).mono ?_; (exact HX.out.stays D7.r.bel); rintro e w8 ⟨rfl, hb8⟩; have D8 := D7.step hb8))
        have hbel := D8.r.bel
        have z0 : w8.cell? ⟨w.heap.size + 1, 0, none⟩ = some (.int .i64 0) := (blk_cell D8.r.res 0).trans rfl
        have f0 := blk_frozen D8.r.res 0
        have z1 : w8.cell? ⟨w.heap.size + 1, 1, none⟩ = some (.int .i64 0) := (blk_cell D8.r.res 1).trans rfl
        have f1 := blk_frozen D8.r.res 1
        have z2 : w8.cell? ⟨w.heap.size + 1, 2, none⟩ = some (.int .i64 0) := (blk_cell D8.r.res 2).trans rfl
        have f2 := blk_frozen D8.r.res 2
        have z3 : w8.cell? ⟨w.heap.size + 1, 3, none⟩ = some (.int .i64 0) := (blk_cell D8.r.res 3).trans rfl
        have f3 := blk_frozen D8.r.res 3
        have z4 : w8.cell? ⟨w.heap.size + 1, 4, none⟩ = some (.int .i64 0) := (blk_cell D8.r.res 4).trans rfl
        have f4 := blk_frozen D8.r.res 4
        have z5 : w8.cell? ⟨w.heap.size + 1, 5, none⟩ = some (.int .i64 0) := (blk_cell D8.r.res 5).trans rfl
        have f5 := blk_frozen D8.r.res 5
        go_wp2
        refine bodyPost_ret (results_ct rfl _ _ (w.heap.size + 1) 25 #[.int .i64 0, .int .i64 0, .int .i64 0, .int .i64 0, .int .i64 0, .int .i64 0] (0, 0) _ rfl (by refine blk_put (cs := #[.int .i64 0, .int .i64 0, .int .i64 0, .int .i64 0, .int .i64 0, .int .i64 0]) ?_ 5 _ rfl; refine blk_put (cs := #[.int .i64 0, .int .i64 0, .int .i64 0, .int .i64 0, .int .i64 0, .int .i64 0]) ?_ 4 _ rfl; refine blk_put (cs := #[.int .i64 0, .int .i64 0, .int .i64 0, .int .i64 0, .int .i64 0, .int .i64 0]) ?_ 3 _ rfl; refine blk_put (cs := #[.int .i64 0, .int .i64 0, .int .i64 0, .int .i64 0, .int .i64 0, .int .i64 0]) ?_ 2 _ rfl; refine blk_put (cs := #[.int .i64 0, .int .i64 0, .int .i64 0, .int .i64 0, .int .i64 0, .int .i64 0]) ?_ 1 _ rfl; refine blk_put (cs := #[.int .i64 0, .int .i64 0, .int .i64 0, .int .i64 0, .int .i64 0, .int .i64 0]) ?_ 0 _ rfl; exact D8.r.res) Tryd.underlying25 rfl (by kernel_rfl)) rfl ?_
        exact ⟨by rw [hout]; rfl, below_set (below_set (below_set (below_set (below_set (below_set hbel (Nat.le_succ _)) (Nat.le_succ _)) (Nat.le_succ _)) (Nat.le_succ _)) (Nat.le_succ _)) (Nat.le_succ _)⟩

set_option maxHeartbeats 4000000 in
set_option maxRecDepth 100000 in
theorem readDate_short (s : ByteArray) (w : World) (h29 : s.size ≠ 29) :
    Calls Tryd.prog 12 #[.string s] w fun e w' => e = .returned (.tuple #[.agg #[.int .i64 0, .int .i64 0, .int .i64 0, .int .i64 0, .int .i64 0, .int .i64 0], .bool false]) ∧ Below w.heap.size w w' := by
  have s2 : ((s.size : Int) != 29) = true := by
    rw [bne_iff_ne]
    omega
  have s3 : ¬ (s.size : Int) = 29 := by omega
  go_enter Tryd.func12, Tryd.ntmps12
  go_wp2
  refine bodyPost_ret (results_ct rfl _ _ (w.heap.size + 1) 25 #[.int .i64 0, .int .i64 0, .int .i64 0, .int .i64 0, .int .i64 0, .int .i64 0] (0, 0) _ rfl (by simpa using blk_new (w.alloc (.cells #[.string s] 9)) (.cells #[.int .i64 0, .int .i64 0, .int .i64 0, .int .i64 0, .int .i64 0, .int .i64 0] 25)) Tryd.underlying25 rfl (by kernel_rfl)) rfl ?_
  exact ⟨rfl, below_alloc (below_alloc (Below.refl _ _) _) _⟩

theorem impl_ReadDate.calls (a0 : ByteArray) (r1 : Int) (r2 : Int) (r3 : Int) (r4 : Int) (r5 : Int) (r6 : Int) (r7 : Bool) (w : World) (hX : XW 7 w) (h : impl_ReadDate.f a0 = some (r1, r2, r3, r4, r5, r6, r7)) :
    Calls Tryd.prog 12 #[.string a0] w fun e w' => e = .returned (.tuple #[.agg #[.int .i64 r1, .int .i64 r2, .int .i64 r3, .int .i64 r4, .int .i64 r5, .int .i64 r6], .bool r7]) ∧ Below w.heap.size w w' := by
  unfold impl_ReadDate.f at h
  by_cases h29 : a0.size = 29
  · rw [if_pos h29] at h
    obtain ⟨d, hd, h⟩ := Option.bind_eq_some_iff.mp h
    obtain ⟨y, hy, h⟩ := Option.bind_eq_some_iff.mp h
    obtain ⟨hh, hhh, h⟩ := Option.bind_eq_some_iff.mp h
    obtain ⟨n, hn, h⟩ := Option.bind_eq_some_iff.mp h
    obtain ⟨c, hc, h⟩ := Option.bind_eq_some_iff.mp h
    obtain ⟨ok, hok, h⟩ := Option.bind_eq_some_iff.mp h
    cases ok with
    | false =>
      rw [if_neg (by decide)] at h
      simp only [Option.some.injEq, Prod.mk.injEq] at h
      obtain ⟨rfl, rfl, rfl, rfl, rfl, rfl, rfl⟩ := h
      exact readDate_walk a0 w hX h29 y d hh n c hd hy hhh hn hc false hok ⟨#[]⟩ (fun q => Bool.noConfusion q) _ (fun q => Bool.noConfusion q) (fun _ => rfl)
    | true =>
      rw [if_pos rfl] at h
      obtain ⟨t, ht, h⟩ := Option.bind_eq_some_iff.mp h
      by_cases htt : t.toList = a0.toList
      · rw [if_pos htt] at h
        simp only [Option.some.injEq, Prod.mk.injEq] at h
        obtain ⟨rfl, rfl, rfl, rfl, rfl, rfl, rfl⟩ := h
        exact readDate_walk a0 w hX h29 y d hh n c hd hy hhh hn hc true hok t (fun _ => ht) _ (fun _ _ => rfl) (fun q => absurd ⟨rfl, htt⟩ q)
      · rw [if_neg htt] at h
        simp only [Option.some.injEq, Prod.mk.injEq] at h
        obtain ⟨rfl, rfl, rfl, rfl, rfl, rfl, rfl⟩ := h
        exact readDate_walk a0 w hX h29 y d hh n c hd hy hhh hn hc true hok t (fun _ => ht) _ (fun _ q => absurd q htt) (fun _ => rfl)
  · rw [if_neg h29] at h
    simp only [Option.some.injEq, Prod.mk.injEq] at h
    obtain ⟨rfl, rfl, rfl, rfl, rfl, rfl, rfl⟩ := h
    exact readDate_short a0 w h29
end Go.Proofs.YtpolkndhjcdheaaDoor.P
namespace Go.Proofs.YtpolkndhjcdheaaDoor.P
open Go.RowKit Go.Proofs.YtpolkndhjcdheaaDoorW.PrintWords Go.Proofs.YtpolkndhjcdheaaDoorW.PrintLast Go.Proofs.YtpolkndhjcdheaaDoorW.PrintMore
attribute [local go_sem] max2_int min2_int max_two min_two max_three min_three max_four min_four   -- for this text's walks alone
set_option linter.unusedVariables false
set_option linter.unusedSimpArgs false

/-! ### laws_eqDate: function 13 -/
def laws_eqDate.f (a0_0 : Int) (a0_1 : Int) (a0_2 : Int) (a0_3 : Int) (a0_4 : Int) (a0_5 : Int) (a1_0 : Int) (a1_1 : Int) (a1_2 : Int) (a1_3 : Int) (a1_4 : Int) (a1_5 : Int) : Option (Bool) := if a0_0 = a1_0 then (if a0_1 = a1_1 then (if a0_2 = a1_2 then (if a0_3 = a1_3 then (if a0_4 = a1_4 then (if a0_5 = a1_5 then (some true) else (some false)) else (some false)) else (some false)) else (some false)) else (some false)) else (some false)
set_option maxHeartbeats 8000000 in
set_option maxRecDepth 100000 in
theorem laws_eqDate.calls (a0_0 : Int) (a0_1 : Int) (a0_2 : Int) (a0_3 : Int) (a0_4 : Int) (a0_5 : Int) (a1_0 : Int) (a1_1 : Int) (a1_2 : Int) (a1_3 : Int) (a1_4 : Int) (a1_5 : Int) (r : Bool) (w : World) (h : laws_eqDate.f a0_0 a0_1 a0_2 a0_3 a0_4 a0_5 a1_0 a1_1 a1_2 a1_3 a1_4 a1_5 = some r) :
  Calls Tryd.prog 13 #[.agg #[.int .i64 a0_0, .int .i64 a0_1, .int .i64 a0_2, .int .i64 a0_3, .int .i64 a0_4, .int .i64 a0_5], .agg #[.int .i64 a1_0, .int .i64 a1_1, .int .i64 a1_2, .int .i64 a1_3, .int .i64 a1_4, .int .i64 a1_5]] w fun e w' => e = .returned (.bool r) ∧ Below w.heap.size w w' := by
 have hu25 := Tryd.underlying25
 have HB := Aside0.mk (Below.refl w.heap.size w)
 have H : (if a0_0 = a1_0 then (if a0_1 = a1_1 then (if a0_2 = a1_2 then (if a0_3 = a1_3 then (if a0_4 = a1_4 then (if a0_5 = a1_5 then (some true) else (some false)) else (some false)) else (some false)) else (some false)) else (some false)) else (some false)) = some r := h
 clear h
 by_cases c3 : a0_0 = a1_0
 ·
  rw [if_pos c3] at H
  have c3b0 : (a0_0 == a1_0) = true := beq_iff_eq.mpr c3
  have c3b1 : (a0_0 != a1_0) = false := bne_eq_false_iff_eq.mpr c3
  clear c3
  by_cases c4 : a0_1 = a1_1
  ·
   rw [if_pos c4] at H
   have c4b0 : (a0_1 == a1_1) = true := beq_iff_eq.mpr c4
   have c4b1 : (a0_1 != a1_1) = false := bne_eq_false_iff_eq.mpr c4
   clear c4
   by_cases c5 : a0_2 = a1_2
   ·
    rw [if_pos c5] at H
    have c5b0 : (a0_2 == a1_2) = true := beq_iff_eq.mpr c5
    have c5b1 : (a0_2 != a1_2) = false := bne_eq_false_iff_eq.mpr c5
    clear c5
    by_cases c6 : a0_3 = a1_3
    ·
     rw [if_pos c6] at H
     have c6b0 : (a0_3 == a1_3) = true := beq_iff_eq.mpr c6
     have c6b1 : (a0_3 != a1_3) = false := bne_eq_false_iff_eq.mpr c6
     clear c6
     by_cases c7 : a0_4 = a1_4
     ·
      rw [if_pos c7] at H
      have c7b0 : (a0_4 == a1_4) = true := beq_iff_eq.mpr c7
      have c7b1 : (a0_4 != a1_4) = false := bne_eq_false_iff_eq.mpr c7
      clear c7
      by_cases c8 : a0_5 = a1_5
      ·
       rw [if_pos c8] at H
       have c8b0 : (a0_5 == a1_5) = true := beq_iff_eq.mpr c8
       have c8b1 : (a0_5 != a1_5) = false := bne_eq_false_iff_eq.mpr c8
       clear c8
       obtain rfl := Option.some.inj H
       go_enter Tryd.func13, Tryd.ntmps13
       go_wp2_with (first | ((with_reducible refine gate_dst (N := 2) rfl ?_); refine bx 2 #[.int .i64 a0_0, .int .i64 a0_1, .int .i64 a0_2, .int .i64 a0_3, .int .i64 a0_4, .int .i64 a0_5] 25 ?_; intro gb101 hg w9 hbox hb; have BK101 := Aside0.mk (hbox); have GW101 := Aside0.mk (bz hg); have GE101 := Aside0.mk (bz hg); replace HB := Aside0.mk (below_step bh hb); clear hb hbox hg) | ((with_reducible refine gate_dst (N := 3) rfl ?_); refine bx 3 #[.int .i64 a1_0, .int .i64 a1_1, .int .i64 a1_2, .int .i64 a1_3, .int .i64 a1_4, .int .i64 a1_5] 25 ?_; intro gb102 hg w10 hbox hb; have BK102 := Aside0.mk (hbox); have GW102 := Aside0.mk (bz hg); have GE102 := Aside0.mk (bz hg); have NB101_102 := Aside0.mk ((nl (o := .cells #[.int .i64 a0_0, .int .i64 a0_1, .int .i64 a0_2, .int .i64 a0_3, .int .i64 a0_4, .int .i64 a0_5] 25 (0, 0)) hg bk : gb101 ≠ gb102)); have NB102_101 := Aside0.mk ((ng (o := .cells #[.int .i64 a0_0, .int .i64 a0_1, .int .i64 a0_2, .int .i64 a0_3, .int .i64 a0_4, .int .i64 a0_5] 25 (0, 0)) hg bk : gb102 ≠ gb101)); replace BK101 := Aside0.mk (blk_below (g := gb101) (o := .cells #[.int .i64 a0_0, .int .i64 a0_1, .int .i64 a0_2, .int .i64 a0_3, .int .i64 a0_4, .int .i64 a0_5] 25 (0, 0)) bk hb); replace HB := Aside0.mk (below_step bh hb); clear hb hbox hg; have hnb11 := NB101_102.out; have hnc11 := NB102_101.out; have hcz12_0 : w10.cell? ⟨gb101, 0, none⟩ = some (.int .i64 a0_0) := bc BK101 0; have hcz12_1 : w10.cell? ⟨gb101, 1, none⟩ = some (.int .i64 a0_1) := bc BK101 1; have hcz12_2 : w10.cell? ⟨gb101, 2, none⟩ = some (.int .i64 a0_2) := bc BK101 2; have hcz12_3 : w10.cell? ⟨gb101, 3, none⟩ = some (.int .i64 a0_3) := bc BK101 3; have hcz12_4 : w10.cell? ⟨gb101, 4, none⟩ = some (.int .i64 a0_4) := bc BK101 4; have hcz12_5 : w10.cell? ⟨gb101, 5, none⟩ = some (.int .i64 a0_5) := bc BK101 5; have hfz12_0 := blk_frozen BK101.out 0; have hfz12_1 := blk_frozen BK101.out 1; have hfz12_2 := blk_frozen BK101.out 2; have hfz12_3 := blk_frozen BK101.out 3; have hfz12_4 := blk_frozen BK101.out 4; have hfz12_5 := blk_frozen BK101.out 5; have hcz13_0 : w10.cell? ⟨gb102, 0, none⟩ = some (.int .i64 a1_0) := bc BK102 0; have hcz13_1 : w10.cell? ⟨gb102, 1, none⟩ = some (.int .i64 a1_1) := bc BK102 1; have hcz13_2 : w10.cell? ⟨gb102, 2, none⟩ = some (.int .i64 a1_2) := bc BK102 2; have hcz13_3 : w10.cell? ⟨gb102, 3, none⟩ = some (.int .i64 a1_3) := bc BK102 3; have hcz13_4 : w10.cell? ⟨gb102, 4, none⟩ = some (.int .i64 a1_4) := bc BK102 4; have hcz13_5 : w10.cell? ⟨gb102, 5, none⟩ = some (.int .i64 a1_5) := bc BK102 5; have hfz13_0 := blk_frozen BK102.out 0; have hfz13_1 := blk_frozen BK102.out 1; have hfz13_2 := blk_frozen BK102.out 2; have hfz13_3 := blk_frozen BK102.out 3; have hfz13_4 := blk_frozen BK102.out 4; have hfz13_5 := blk_frozen BK102.out 5))
       go_ret
       exact ⟨er, bh⟩
      ·
       rw [if_neg c8] at H
       have c8b0 : (a0_5 == a1_5) = false := beq_eq_false_iff_ne.mpr c8
       have c8b1 : (a0_5 != a1_5) = true := bne_iff_ne.mpr c8
       obtain rfl := Option.some.inj H
       go_enter Tryd.func13, Tryd.ntmps13
       go_wp2_with (first | ((with_reducible refine gate_dst (N := 2) rfl ?_); refine bx 2 #[.int .i64 a0_0, .int .i64 a0_1, .int .i64 a0_2, .int .i64 a0_3, .int .i64 a0_4, .int .i64 a0_5] 25 ?_; intro gb101 hg w14 hbox hb; have BK101 := Aside0.mk (hbox); have GW101 := Aside0.mk (bz hg); have GE101 := Aside0.mk (bz hg); replace HB := Aside0.mk (below_step bh hb); clear hb hbox hg) | ((with_reducible refine gate_dst (N := 3) rfl ?_); refine bx 3 #[.int .i64 a1_0, .int .i64 a1_1, .int .i64 a1_2, .int .i64 a1_3, .int .i64 a1_4, .int .i64 a1_5] 25 ?_; intro gb102 hg w15 hbox hb; have BK102 := Aside0.mk (hbox); have GW102 := Aside0.mk (bz hg); have GE102 := Aside0.mk (bz hg); have NB101_102 := Aside0.mk ((nl (o := .cells #[.int .i64 a0_0, .int .i64 a0_1, .int .i64 a0_2, .int .i64 a0_3, .int .i64 a0_4, .int .i64 a0_5] 25 (0, 0)) hg bk : gb101 ≠ gb102)); have NB102_101 := Aside0.mk ((ng (o := .cells #[.int .i64 a0_0, .int .i64 a0_1, .int .i64 a0_2, .int .i64 a0_3, .int .i64 a0_4, .int .i64 a0_5] 25 (0, 0)) hg bk : gb102 ≠ gb101)); replace BK101 := Aside0.mk (blk_below (g := gb101) (o := .cells #[.int .i64 a0_0, .int .i64 a0_1, .int .i64 a0_2, .int .i64 a0_3, .int .i64 a0_4, .int .i64 a0_5] 25 (0, 0)) bk hb); replace HB := Aside0.mk (below_step bh hb); clear hb hbox hg; have hnb16 := NB101_102.out; have hnc16 := NB102_101.out; have hcz17_0 : w15.cell? ⟨gb101, 0, none⟩ = some (.int .i64 a0_0) := bc BK101 0; have hcz17_1 : w15.cell? ⟨gb101, 1, none⟩ = some (.int .i64 a0_1) := bc BK101 1; have hcz17_2 : w15.cell? ⟨gb101, 2, none⟩ = some (.int .i64 a0_2) := bc BK101 2; have hcz17_3 : w15.cell? ⟨gb101, 3, none⟩ = some (.int .i64 a0_3) := bc BK101 3; have hcz17_4 : w15.cell? ⟨gb101, 4, none⟩ = some (.int .i64 a0_4) := bc BK101 4; have hcz17_5 : w15.cell? ⟨gb101, 5, none⟩ = some (.int .i64 a0_5) := bc BK101 5; have hfz17_0 := blk_frozen BK101.out 0; have hfz17_1 := blk_frozen BK101.out 1; have hfz17_2 := blk_frozen BK101.out 2; have hfz17_3 := blk_frozen BK101.out 3; have hfz17_4 := blk_frozen BK101.out 4; have hfz17_5 := blk_frozen BK101.out 5; have hcz18_0 : w15.cell? ⟨gb102, 0, none⟩ = some (.int .i64 a1_0) := bc BK102 0; have hcz18_1 : w15.cell? ⟨gb102, 1, none⟩ = some (.int .i64 a1_1) := bc BK102 1; have hcz18_2 : w15.cell? ⟨gb102, 2, none⟩ = some (.int .i64 a1_2) := bc BK102 2; have hcz18_3 : w15.cell? ⟨gb102, 3, none⟩ = some (.int .i64 a1_3) := bc BK102 3; have hcz18_4 : w15.cell? ⟨gb102, 4, none⟩ = some (.int .i64 a1_4) := bc BK102 4; have hcz18_5 : w15.cell? ⟨gb102, 5, none⟩ = some (.int .i64 a1_5) := bc BK102 5; have hfz18_0 := blk_frozen BK102.out 0; have hfz18_1 := blk_frozen BK102.out 1; have hfz18_2 := blk_frozen BK102.out 2; have hfz18_3 := blk_frozen BK102.out 3; have hfz18_4 := blk_frozen BK102.out 4; have hfz18_5 := blk_frozen BK102.out 5))
       go_ret
       exact ⟨er, bh⟩
     ·
      rw [if_neg c7] at H
      have c7b0 : (a0_4 == a1_4) = false := beq_eq_false_iff_ne.mpr c7
      have c7b1 : (a0_4 != a1_4) = true := bne_iff_ne.mpr c7
      obtain rfl := Option.some.inj H
      go_enter Tryd.func13, Tryd.ntmps13
      go_wp2_with (first | ((with_reducible refine gate_dst (N := 2) rfl ?_); refine bx 2 #[.int .i64 a0_0, .int .i64 a0_1, .int .i64 a0_2, .int .i64 a0_3, .int .i64 a0_4, .int .i64 a0_5] 25 ?_; intro gb101 hg w19 hbox hb; have BK101 := Aside0.mk (hbox); have GW101 := Aside0.mk (bz hg); have GE101 := Aside0.mk (bz hg); replace HB := Aside0.mk (below_step bh hb); clear hb hbox hg) | ((with_reducible refine gate_dst (N := 3) rfl ?_); refine bx 3 #[.int .i64 a1_0, .int .i64 a1_1, .int .i64 a1_2, .int .i64 a1_3, .int .i64 a1_4, .int .i64 a1_5] 25 ?_; intro gb102 hg w20 hbox hb; have BK102 := Aside0.mk (hbox); have GW102 := Aside0.mk (bz hg); have GE102 := Aside0.mk (bz hg); have NB101_102 := Aside0.mk ((nl (o := .cells #[.int .i64 a0_0, .int .i64 a0_1, .int .i64 a0_2, .int .i64 a0_3, .int .i64 a0_4, .int .i64 a0_5] 25 (0, 0)) hg bk : gb101 ≠ gb102)); have NB102_101 := Aside0.mk ((ng (o := .cells #[.int .i64 a0_0, .int .i64 a0_1, .int .i64 a0_2, .int .i64 a0_3, .int .i64 a0_4, .int .i64 a0_5] 25 (0, 0)) hg bk : gb102 ≠ gb101)); replace BK101 := Aside0.mk (blk_below (g := gb101) (o := .cells #[.int .i64 a0_0, .int .i64 a0_1, .int .i64 a0_2, .int .i64 a0_3, .int .i64 a0_4, .int .i64 a0_5] 25 (0, 0)) bk hb); replace HB := Aside0.mk (below_step bh hb); clear hb hbox hg; have hnb21 := NB101_102.out; have hnc21 := NB102_101.out; have hcz22_0 : w20.cell? ⟨gb101, 0, none⟩ = some (.int .i64 a0_0) := bc BK101 0; have hcz22_1 : w20.cell? ⟨gb101, 1, none⟩ = some (.int .i64 a0_1) := bc BK101 1; have hcz22_2 : w20.cell? ⟨gb101, 2, none⟩ = some (.int .i64 a0_2) := bc BK101 2; have hcz22_3 : w20.cell? ⟨gb101, 3, none⟩ = some (.int .i64 a0_3) := bc BK101 3; have hcz22_4 : w20.cell? ⟨gb101, 4, none⟩ = some (.int .i64 a0_4) := bc BK101 4; have hcz22_5 : w20.cell? ⟨gb101, 5, none⟩ = some (.int .i64 a0_5) := bc BK101 5; have hfz22_0 := blk_frozen BK101.out 0; have hfz22_1 := blk_frozen BK101.out 1; have hfz22_2 := blk_frozen BK101.out 2; have hfz22_3 := blk_frozen BK101.out 3; have hfz22_4 := blk_frozen BK101.out 4; have hfz22_5 := blk_frozen BK101.out 5; have hcz23_0 : w20.cell? ⟨gb102, 0, none⟩ = some (.int .i64 a1_0) := bc BK102 0; have hcz23_1 : w20.cell? ⟨gb102, 1, none⟩ = some (.int .i64 a1_1) := bc BK102 1; have hcz23_2 : w20.cell? ⟨gb102, 2, none⟩ = some (.int .i64 a1_2) := bc BK102 2; have hcz23_3 : w20.cell? ⟨gb102, 3, none⟩ = some (.int .i64 a1_3) := bc BK102 3; have hcz23_4 : w20.cell? ⟨gb102, 4, none⟩ = some (.int .i64 a1_4) := bc BK102 4; have hcz23_5 : w20.cell? ⟨gb102, 5, none⟩ = some (.int .i64 a1_5) := bc BK102 5; have hfz23_0 := blk_frozen BK102.out 0; have hfz23_1 := blk_frozen BK102.out 1; have hfz23_2 := blk_frozen BK102.out 2; have hfz23_3 := blk_frozen BK102.out 3; have hfz23_4 := blk_frozen BK102.out 4; have hfz23_5 := blk_frozen BK102.out 5))
      go_ret
      exact ⟨er, bh⟩
    ·
     rw [if_neg c6] at H
     have c6b0 : (a0_3 == a1_3) = false := beq_eq_false_iff_ne.mpr c6
     have c6b1 : (a0_3 != a1_3) = true := bne_iff_ne.mpr c6
     obtain rfl := Option.some.inj H
     go_enter Tryd.func13, Tryd.ntmps13
     go_wp2_with (first | ((with_reducible refine gate_dst (N := 2) rfl ?_); refine bx 2 #[.int .i64 a0_0, .int .i64 a0_1, .int .i64 a0_2, .int .i64 a0_3, .int .i64 a0_4, .int .i64 a0_5] 25 ?_; intro gb101 hg w24 hbox hb; have BK101 := Aside0.mk (hbox); have GW101 := Aside0.mk (bz hg); have GE101 := Aside0.mk (bz hg); replace HB := Aside0.mk (below_step bh hb); clear hb hbox hg) | ((with_reducible refine gate_dst (N := 3) rfl ?_); refine bx 3 #[.int .i64 a1_0, .int .i64 a1_1, .int .i64 a1_2, .int .i64 a1_3, .int .i64 a1_4, .int .i64 a1_5] 25 ?_; intro gb102 hg w25 hbox hb; have BK102 := Aside0.mk (hbox); have GW102 := Aside0.mk (bz hg); have GE102 := Aside0.mk (bz hg); have NB101_102 := Aside0.mk ((nl (o := .cells #[.int .i64 a0_0, .int .i64 a0_1, .int .i64 a0_2, .int .i64 a0_3, .int .i64 a0_4, .int .i64 a0_5] 25 (0, 0)) hg bk : gb101 ≠ gb102)); have NB102_101 := Aside0.mk ((ng (o := .cells #[.int .i64 a0_0, .int .i64 a0_1, .int .i64 a0_2, .int .i64 a0_3, .int .i64 a0_4, .int .i64 a0_5] 25 (0, 0)) hg bk : gb102 ≠ gb101)); replace BK101 := Aside0.mk (blk_below (g := gb101) (o := .cells #[.int .i64 a0_0, .int .i64 a0_1, .int .i64 a0_2, .int .i64 a0_3, .int .i64 a0_4, .int .i64 a0_5] 25 (0, 0)) bk hb); replace HB := Aside0.mk (below_step bh hb); clear hb hbox hg; have hnb26 := NB101_102.out; have hnc26 := NB102_101.out; have hcz27_0 : w25.cell? ⟨gb101, 0, none⟩ = some (.int .i64 a0_0) := bc BK101 0; have hcz27_1 : w25.cell? ⟨gb101, 1, none⟩ = some (.int .i64 a0_1) := bc BK101 1; have hcz27_2 : w25.cell? ⟨gb101, 2, none⟩ = some (.int .i64 a0_2) := bc BK101 2; have hcz27_3 : w25.cell? ⟨gb101, 3, none⟩ = some (.int .i64 a0_3) := bc BK101 3; have hcz27_4 : w25.cell? ⟨gb101, 4, none⟩ = some (.int .i64 a0_4) := bc BK101 4; have hcz27_5 : w25.cell? ⟨gb101, 5, none⟩ = some (.int .i64 a0_5) := bc BK101 5; have hfz27_0 := blk_frozen BK101.out 0; have hfz27_1 := blk_frozen BK101.out 1; have hfz27_2 := blk_frozen BK101.out 2; have hfz27_3 := blk_frozen BK101.out 3; have hfz27_4 := blk_frozen BK101.out 4; have hfz27_5 := blk_frozen BK101.out 5; have hcz28_0 : w25.cell? ⟨gb102, 0, none⟩ = some (.int .i64 a1_0) := bc BK102 0; have hcz28_1 : w25.cell? ⟨gb102, 1, none⟩ = some (.int .i64 a1_1) := bc BK102 1; have hcz28_2 : w25.cell? ⟨gb102, 2, none⟩ = some (.int .i64 a1_2) := bc BK102 2; have hcz28_3 : w25.cell? ⟨gb102, 3, none⟩ = some (.int .i64 a1_3) := bc BK102 3; have hcz28_4 : w25.cell? ⟨gb102, 4, none⟩ = some (.int .i64 a1_4) := bc BK102 4; have hcz28_5 : w25.cell? ⟨gb102, 5, none⟩ = some (.int .i64 a1_5) := bc BK102 5; have hfz28_0 := blk_frozen BK102.out 0; have hfz28_1 := blk_frozen BK102.out 1; have hfz28_2 := blk_frozen BK102.out 2; have hfz28_3 := blk_frozen BK102.out 3; have hfz28_4 := blk_frozen BK102.out 4; have hfz28_5 := blk_frozen BK102.out 5))
     go_ret
     exact ⟨er, bh⟩
   ·
    rw [if_neg c5] at H
    have c5b0 : (a0_2 == a1_2) = false := beq_eq_false_iff_ne.mpr c5
    have c5b1 : (a0_2 != a1_2) = true := bne_iff_ne.mpr c5
    obtain rfl := Option.some.inj H
    go_enter Tryd.func13, Tryd.ntmps13
    go_wp2_with (first | ((with_reducible refine gate_dst (N := 2) rfl ?_); refine bx 2 #[.int .i64 a0_0, .int .i64 a0_1, .int .i64 a0_2, .int .i64 a0_3, .int .i64 a0_4, .int .i64 a0_5] 25 ?_; intro gb101 hg w29 hbox hb; have BK101 := Aside0.mk (hbox); have GW101 := Aside0.mk (bz hg); have GE101 := Aside0.mk (bz hg); replace HB := Aside0.mk (below_step bh hb); clear hb hbox hg) | ((with_reducible refine gate_dst (N := 3) rfl ?_); refine bx 3 #[.int .i64 a1_0, .int .i64 a1_1, .int .i64 a1_2, .int .i64 a1_3, .int .i64 a1_4, .int .i64 a1_5] 25 ?_; intro gb102 hg w30 hbox hb; have BK102 := Aside0.mk (hbox); have GW102 := Aside0.mk (bz hg); have GE102 := Aside0.mk (bz hg); have NB101_102 := Aside0.mk ((nl (o := .cells #[.int .i64 a0_0, .int .i64 a0_1, .int .i64 a0_2, .int .i64 a0_3, .int .i64 a0_4, .int .i64 a0_5] 25 (0, 0)) hg bk : gb101 ≠ gb102)); have NB102_101 := Aside0.mk ((ng (o := .cells #[.int .i64 a0_0, .int .i64 a0_1, .int .i64 a0_2, .int .i64 a0_3, .int .i64 a0_4, .int .i64 a0_5] 25 (0, 0)) hg bk : gb102 ≠ gb101)); replace BK101 := Aside0.mk (blk_below (g := gb101) (o := .cells #[.int .i64 a0_0, .int .i64 a0_1, .int .i64 a0_2, .int .i64 a0_3, .int .i64 a0_4, .int .i64 a0_5] 25 (0, 0)) bk hb); replace HB := Aside0.mk (below_step bh hb); clear hb hbox hg; have hnb31 := NB101_102.out; have hnc31 := NB102_101.out; have hcz32_0 : w30.cell? ⟨gb101, 0, none⟩ = some (.int .i64 a0_0) := bc BK101 0; have hcz32_1 : w30.cell? ⟨gb101, 1, none⟩ = some (.int .i64 a0_1) := bc BK101 1; have hcz32_2 : w30.cell? ⟨gb101, 2, none⟩ = some (.int .i64 a0_2) := bc BK101 2; have hcz32_3 : w30.cell? ⟨gb101, 3, none⟩ = some (.int .i64 a0_3) := bc BK101 3; have hcz32_4 : w30.cell? ⟨gb101, 4, none⟩ = some (.int .i64 a0_4) := bc BK101 4; have hcz32_5 : w30.cell? ⟨gb101, 5, none⟩ = some (.int .i64 a0_5) := bc BK101 5; have hfz32_0 := blk_frozen BK101.out 0; have hfz32_1 := blk_frozen BK101.out 1; have hfz32_2 := blk_frozen BK101.out 2; have hfz32_3 := blk_frozen BK101.out 3; have hfz32_4 := blk_frozen BK101.out 4; have hfz32_5 := blk_frozen BK101.out 5; have hcz33_0 : w30.cell? ⟨gb102, 0, none⟩ = some (.int .i64 a1_0) := bc BK102 0; have hcz33_1 : w30.cell? ⟨gb102, 1, none⟩ = some (.int .i64 a1_1) := bc BK102 1; have hcz33_2 : w30.cell? ⟨gb102, 2, none⟩ = some (.int .i64 a1_2) := bc BK102 2; have hcz33_3 : w30.cell? ⟨gb102, 3, none⟩ = some (.int .i64 a1_3) := bc BK102 3; have hcz33_4 : w30.cell? ⟨gb102, 4, none⟩ = some (.int .i64 a1_4) := bc BK102 4; have hcz33_5 : w30.cell? ⟨gb102, 5, none⟩ = some (.int .i64 a1_5) := bc BK102 5; have hfz33_0 := blk_frozen BK102.out 0; have hfz33_1 := blk_frozen BK102.out 1; have hfz33_2 := blk_frozen BK102.out 2; have hfz33_3 := blk_frozen BK102.out 3; have hfz33_4 := blk_frozen BK102.out 4; have hfz33_5 := blk_frozen BK102.out 5))
    go_ret
    exact ⟨er, bh⟩
  ·
   rw [if_neg c4] at H
   have c4b0 : (a0_1 == a1_1) = false := beq_eq_false_iff_ne.mpr c4
   have c4b1 : (a0_1 != a1_1) = true := bne_iff_ne.mpr c4
   obtain rfl := Option.some.inj H
   go_enter Tryd.func13, Tryd.ntmps13
   go_wp2_with (first | ((with_reducible refine gate_dst (N := 2) rfl ?_); refine bx 2 #[.int .i64 a0_0, .int .i64 a0_1, .int .i64 a0_2, .int .i64 a0_3, .int .i64 a0_4, .int .i64 a0_5] 25 ?_; intro gb101 hg w34 hbox hb; have BK101 := Aside0.mk (hbox); have GW101 := Aside0.mk (bz hg); have GE101 := Aside0.mk (bz hg); replace HB := Aside0.mk (below_step bh hb); clear hb hbox hg) | ((with_reducible refine gate_dst (N := 3) rfl ?_); refine bx 3 #[.int .i64 a1_0, .int .i64 a1_1, .int .i64 a1_2, .int .i64 a1_3, .int .i64 a1_4, .int .i64 a1_5] 25 ?_; intro gb102 hg w35 hbox hb; have BK102 := Aside0.mk (hbox); have GW102 := Aside0.mk (bz hg); have GE102 := Aside0.mk (bz hg); have NB101_102 := Aside0.mk ((nl (o := .cells #[.int .i64 a0_0, .int .i64 a0_1, .int .i64 a0_2, .int .i64 a0_3, .int .i64 a0_4, .int .i64 a0_5] 25 (0, 0)) hg bk : gb101 ≠ gb102)); have NB102_101 := Aside0.mk ((ng (o := .cells #[.int .i64 a0_0, .int .i64 a0_1, .int .i64 a0_2, .int .i64 a0_3, .int .i64 a0_4, .int .i64 a0_5] 25 (0, 0)) hg bk : gb102 ≠ gb101)); replace BK101 := Aside0.mk (blk_below (g := gb101) (o := .cells #[.int .i64 a0_0, .int .i64 a0_1, .int .i64 a0_2, .int .i64 a0_3, .int .i64 a0_4, .int .i64 a0_5] 25 (0, 0)) bk hb); replace HB := Aside0.mk (below_step bh hb); clear hb hbox hg; have hnb36 := NB101_102.out; have hnc36 := NB102_101.out; have hcz37_0 : w35.cell? ⟨gb101, 0, none⟩ = some (.int .i64 a0_0) := bc BK101 0; have hcz37_1 : w35.cell? ⟨gb101, 1, none⟩ = some (.int .i64 a0_1) := bc BK101 1; have hcz37_2 : w35.cell? ⟨gb101, 2, none⟩ = some (.int .i64 a0_2) := bc BK101 2; have hcz37_3 : w35.cell? ⟨gb101, 3, none⟩ = some (.int .i64 a0_3) := bc BK101 3; have hcz37_4 : w35.cell? ⟨gb101, 4, none⟩ = some (.int .i64 a0_4) := bc BK101 4; have hcz37_5 : w35.cell? ⟨gb101, 5, none⟩ = some (.int .i64 a0_5) := bc BK101 5; have hfz37_0 := blk_frozen BK101.out 0; have hfz37_1 := blk_frozen BK101.out 1; have hfz37_2 := blk_frozen BK101.out 2; have hfz37_3 := blk_frozen BK101.out 3; have hfz37_4 := blk_frozen BK101.out 4; have hfz37_5 := blk_frozen BK101.out 5; have hcz38_0 : w35.cell? ⟨gb102, 0, none⟩ = some (.int .i64 a1_0) := bc BK102 0; have hcz38_1 : w35.cell? ⟨gb102, 1, none⟩ = some (.int .i64 a1_1) := bc BK102 1; have hcz38_2 : w35.cell? ⟨gb102, 2, none⟩ = some (.int .i64 a1_2) := bc BK102 2; have hcz38_3 : w35.cell? ⟨gb102, 3, none⟩ = some (.int .i64 a1_3) := bc BK102 3; have hcz38_4 : w35.cell? ⟨gb102, 4, none⟩ = some (.int .i64 a1_4) := bc BK102 4; have hcz38_5 : w35.cell? ⟨gb102, 5, none⟩ = some (.int .i64 a1_5) := bc BK102 5; have hfz38_0 := blk_frozen BK102.out 0; have hfz38_1 := blk_frozen BK102.out 1; have hfz38_2 := blk_frozen BK102.out 2; have hfz38_3 := blk_frozen BK102.out 3; have hfz38_4 := blk_frozen BK102.out 4; have hfz38_5 := blk_frozen BK102.out 5))
   go_ret
   exact ⟨er, bh⟩
 ·
  rw [if_neg c3] at H
  have c3b0 : (a0_0 == a1_0) = false := beq_eq_false_iff_ne.mpr c3
  have c3b1 : (a0_0 != a1_0) = true := bne_iff_ne.mpr c3
  obtain rfl := Option.some.inj H
  go_enter Tryd.func13, Tryd.ntmps13
  go_wp2_with (first | ((with_reducible refine gate_dst (N := 2) rfl ?_); refine bx 2 #[.int .i64 a0_0, .int .i64 a0_1, .int .i64 a0_2, .int .i64 a0_3, .int .i64 a0_4, .int .i64 a0_5] 25 ?_; intro gb101 hg w39 hbox hb; have BK101 := Aside0.mk (hbox); have GW101 := Aside0.mk (bz hg); have GE101 := Aside0.mk (bz hg); replace HB := Aside0.mk (below_step bh hb); clear hb hbox hg) | ((with_reducible refine gate_dst (N := 3) rfl ?_); refine bx 3 #[.int .i64 a1_0, .int .i64 a1_1, .int .i64 a1_2, .int .i64 a1_3, .int .i64 a1_4, .int .i64 a1_5] 25 ?_; intro gb102 hg w40 hbox hb; have BK102 := Aside0.mk (hbox); have GW102 := Aside0.mk (bz hg); have GE102 := Aside0.mk (bz hg); have NB101_102 := Aside0.mk ((nl (o := .cells #[.int .i64 a0_0, .int .i64 a0_1, .int .i64 a0_2, .int .i64 a0_3, .int .i64 a0_4, .int .i64 a0_5] 25 (0, 0)) hg bk : gb101 ≠ gb102)); have NB102_101 := Aside0.mk ((ng (o := .cells #[.int .i64 a0_0, .int .i64 a0_1, .int .i64 a0_2, .int .i64 a0_3, .int .i64 a0_4, .int .i64 a0_5] 25 (0, 0)) hg bk : gb102 ≠ gb101)); replace BK101 := Aside0.mk (blk_below (g := gb101) (o := .cells #[.int .i64 a0_0, .int .i64 a0_1, .int .i64 a0_2, .int .i64 a0_3, .int .i64 a0_4, .int .i64 a0_5] 25 (0, 0)) bk hb); replace HB := Aside0.mk (below_step bh hb); clear hb hbox hg; have hnb41 := NB101_102.out; have hnc41 := NB102_101.out; have hcz42_0 : w40.cell? ⟨gb101, 0, none⟩ = some (.int .i64 a0_0) := bc BK101 0; have hcz42_1 : w40.cell? ⟨gb101, 1, none⟩ = some (.int .i64 a0_1) := bc BK101 1; have hcz42_2 : w40.cell? ⟨gb101, 2, none⟩ = some (.int .i64 a0_2) := bc BK101 2; have hcz42_3 : w40.cell? ⟨gb101, 3, none⟩ = some (.int .i64 a0_3) := bc BK101 3; have hcz42_4 : w40.cell? ⟨gb101, 4, none⟩ = some (.int .i64 a0_4) := bc BK101 4; have hcz42_5 : w40.cell? ⟨gb101, 5, none⟩ = some (.int .i64 a0_5) := bc BK101 5; have hfz42_0 := blk_frozen BK101.out 0; have hfz42_1 := blk_frozen BK101.out 1; have hfz42_2 := blk_frozen BK101.out 2; have hfz42_3 := blk_frozen BK101.out 3; have hfz42_4 := blk_frozen BK101.out 4; have hfz42_5 := blk_frozen BK101.out 5; have hcz43_0 : w40.cell? ⟨gb102, 0, none⟩ = some (.int .i64 a1_0) := bc BK102 0; have hcz43_1 : w40.cell? ⟨gb102, 1, none⟩ = some (.int .i64 a1_1) := bc BK102 1; have hcz43_2 : w40.cell? ⟨gb102, 2, none⟩ = some (.int .i64 a1_2) := bc BK102 2; have hcz43_3 : w40.cell? ⟨gb102, 3, none⟩ = some (.int .i64 a1_3) := bc BK102 3; have hcz43_4 : w40.cell? ⟨gb102, 4, none⟩ = some (.int .i64 a1_4) := bc BK102 4; have hcz43_5 : w40.cell? ⟨gb102, 5, none⟩ = some (.int .i64 a1_5) := bc BK102 5; have hfz43_0 := blk_frozen BK102.out 0; have hfz43_1 := blk_frozen BK102.out 1; have hfz43_2 := blk_frozen BK102.out 2; have hfz43_3 := blk_frozen BK102.out 3; have hfz43_4 := blk_frozen BK102.out 4; have hfz43_5 := blk_frozen BK102.out 5))
  go_ret
  exact ⟨er, bh⟩
/-! ### spec_Digits: function 27 -/
mutual
def spec_Digits.j0 : Nat → ByteArray → Bool → Option (Int × Bool)
 | 0, _, _ => none
 | k + 1, x0, x13 => if x13 = true then (some (0, false)) else (spec_Digits.l0 k x0 0 0)
def spec_Digits.l0 : Nat → ByteArray → Int → Int → Option (Int × Bool)
 | 0, _, _, _ => none
 | k + 1, x0, x4, x5 => if x5 < (x0.size : Int) then (if 0 ≤ x5 then (if (bt x0 x5) < 48 then (some (0, false)) else (if (bt x0 x5) > 57 then (some (0, false)) else (spec_Digits.l0 k x0 (wrap64 ((wrap64 (x4 * 10)) + (((bt x0 x5) - 48) % 256))) (wrap64 (x5 + 1))))) else (none)) else (some (x4, true))
end
def spec_Digits.f (k : Nat) (a0 : ByteArray) : Option (Int × Bool) := if (a0.size : Int) < 1 then (spec_Digits.j0 k a0 true) else (spec_Digits.j0 k a0 (decide ((a0.size : Int) > 15)))
theorem spec_Digits.mono_l : ∀ k, (∀ y0 y1, LeO (spec_Digits.j0 k y0 y1) (spec_Digits.j0 (k + 1) y0 y1)) ∧ (∀ y0 y1 y2, LeO (spec_Digits.l0 k y0 y1 y2) (spec_Digits.l0 (k + 1) y0 y1 y2))
 | 0 => ⟨fun _ _ r h => by simp [spec_Digits.j0] at h, fun _ _ _ r h => by simp [spec_Digits.l0] at h⟩
 | k + 1 => by
  obtain ⟨ih0, ih1⟩ := spec_Digits.mono_l k
  refine ⟨?_, ?_⟩
  ·
   intro y0 y1
   unfold spec_Digits.j0
   repeat' first
   | (with_reducible exact ih0 _ _)
   | (with_reducible exact ih1 _ _ _)
   | (with_reducible exact LeO.refl _)
   | (with_reducible exact LeO.none _)
   | (with_reducible refine LeO.ite ?_ ?_)
   | (with_reducible refine LeO.bind ?_ (fun _ => ?_))
   | exact ih0 _ _
   | exact ih1 _ _ _
   | exact LeO.none _
   | refine LeO.ite ?_ ?_
   | refine LeO.bind ?_ (fun _ => ?_)
  ·
   intro y0 y1 y2
   unfold spec_Digits.l0
   repeat' first
   | (with_reducible exact ih0 _ _)
   | (with_reducible exact ih1 _ _ _)
   | (with_reducible exact LeO.refl _)
   | (with_reducible exact LeO.none _)
   | (with_reducible refine LeO.ite ?_ ?_)
   | (with_reducible refine LeO.bind ?_ (fun _ => ?_))
   | exact ih0 _ _
   | exact ih1 _ _ _
   | exact LeO.none _
   | refine LeO.ite ?_ ?_
   | refine LeO.bind ?_ (fun _ => ?_)
theorem spec_Digits.mono : ∀ a0 k, LeO (spec_Digits.f k a0) (spec_Digits.f (k + 1) a0) := by
 intro a0 k
 obtain ⟨ih0, ih1⟩ := spec_Digits.mono_l k
 unfold spec_Digits.f
 repeat' first
   | (with_reducible exact ih0 _ _)
   | (with_reducible exact ih1 _ _ _)
   | (with_reducible exact LeO.refl _)
   | (with_reducible exact LeO.none _)
   | (with_reducible refine LeO.ite ?_ ?_)
   | (with_reducible refine LeO.bind ?_ (fun _ => ?_))
   | exact ih0 _ _
   | exact ih1 _ _ _
   | exact LeO.none _
   | refine LeO.ite ?_ ?_
   | refine LeO.bind ?_ (fun _ => ?_)
set_option maxHeartbeats 8000000 in
set_option maxRecDepth 100000 in
theorem spec_Digits.calls (k : Nat) (a0 : ByteArray) (r1 : Int) (r2 : Bool) (w : World) (h : spec_Digits.f k a0 = some (r1, r2)) :
  Calls Tryd.prog 27 #[.string a0] w fun e w' => e = .returned (.tuple #[.int .i64 r1, .bool r2]) ∧ Drawn0 w w' := by
 have H : (if (a0.size : Int) < 1 then (spec_Digits.j0 k a0 true) else (spec_Digits.j0 k a0 (decide ((a0.size : Int) > 15)))) = some (r1, r2) := h
 clear h
 have HC2 := Aside0.mk H
 clear H
 go_enter Tryd.func27, Tryd.ntmps27
 go_upto_region 1 with (fail)
 go_cut [13] (fun v13 wc => ∃ (kq : Nat) (x13_1 : Bool), v13 = .bool x13_1 ∧ Aside0 (spec_Digits.j0 kq a0 x13_1 = some (r1, r2)) ∧ Aside0 (kq ≤ k) ∧ Drawn0 w wc)
 case first =>
  have H := HC2.out
  clear HC2
  by_cases c3 : (a0.size : Int) < 1
  ·
   rw [if_pos c3] at H
   have c3b0 : decide ((a0.size : Int) < 1) = true := decide_eq_true c3
   have c3b1 : decide (a0.size < 1) = true := decide_eq_true (by omega)
   clear c3
   (first | rw [c3b0] | (simp only [i64_w, i32_w]; rw [c3b0]) | skip)
   have H' := Aside0.mk H
   clear H
   go_wp2
   go_meet
   case rel => exact ⟨_, (true), (by first | rfl | (simp; done) | (simp [*]; done)), H', ⟨by first | omega | exact Nat.le_refl _⟩, by repeat (first | exact Drawn0.refl _ | apply Drawn0.step)⟩
  ·
   rw [if_neg c3] at H
   have c3b0 : decide ((a0.size : Int) < 1) = false := decide_eq_false c3
   have c3b1 : decide (a0.size < 1) = false := decide_eq_false (by omega)
   clear c3
   (first | rw [c3b0] | (simp only [i64_w, i32_w]; rw [c3b0]) | skip)
   have H' := Aside0.mk H
   clear H
   go_wp2
   go_meet
   case rel => exact ⟨_, (decide ((a0.size : Int) > 15)), (by first | rfl | (simp; done) | (simp [*]; done)), H', ⟨by first | omega | exact Nat.le_refl _⟩, by repeat (first | exact Drawn0.refl _ | apply Drawn0.step)⟩
 case rest =>
  clear HC2
  try clear c2
  try clear p2
  try clear c3
  try clear c3b0
  try clear c3b1
  obtain ⟨kq, x13_1, rfl, HA, HJ1, ⟨mc1, rfl⟩⟩ := hcut
  cases kq with
  | zero => exact absurd HA.out (by simp [spec_Digits.j0])
  | succ kj1 =>
   have H := HA.out
   clear HA
   simp only [spec_Digits.j0] at H
   by_cases c4 : x13_1 = true
   ·
    subst c4
    have H1 : (some (0, false)) = some (r1, r2) := by rw [if_pos rfl] at H; exact H
    clear H
    have H := H1
    clear H1
    simp only [Option.some.injEq, Prod.mk.injEq] at H
    obtain ⟨rfl, rfl⟩ := H
    go_wp2
    go_ret2
    exact ⟨by first | rfl | (simp; done) | (simp [*]; done), by repeat (first | exact Drawn0.refl _ | apply Drawn0.step)⟩
   ·
    replace c4 := Bool.eq_false_iff.mpr c4
    subst c4
    have H1 : (spec_Digits.l0 kj1 a0 0 0) = some (r1, r2) := by rw [if_neg (show ¬ (false = true) by decide)] at H; exact H
    clear H
    have H := H1
    clear H1
    have H' := Aside0.mk H
    clear H
    go_wp2
    go_loopg [4, 5] kj1 (fun kq v4 v5 w' => ∃ (x4_2 : Int) (x5_2 : Int), v4 = .int .i64 x4_2 ∧ v5 = .int .i64 x5_2 ∧ Aside0 (spec_Digits.l0 kq a0 x4_2 x5_2 = some (r1, r2)) ∧ Aside0 (kq ≤ kj1) ∧ Drawn0 w w')
    case atStart => exact ⟨(0), (0), (by first | rfl | (simp; done) | (simp [*]; done)), (by first | rfl | (simp; done) | (simp [*]; done)), H', ⟨Nat.le_refl _⟩, by repeat (first | exact Drawn0.refl _ | apply Drawn0.step)⟩
    case round =>
     clear H'
     try clear c1
     try clear c2
     try clear p2
     try clear c3
     try clear c3b0
     try clear c3b1
     try clear c4
     try clear p2
     obtain ⟨x4_2, x5_2, rfl, rfl, HA, HK2, ⟨m2, rfl⟩⟩ := hrel
     cases gk with
     | zero => exact absurd HA.out (by simp [spec_Digits.l0])
     | succ k2 =>
      have H := HA.out
      clear HA
      simp only [spec_Digits.l0] at H
      by_cases c5 : x5_2 < (a0.size : Int)
      ·
       rw [if_pos c5] at H
       have c5b0 : decide (x5_2 < (a0.size : Int)) = true := decide_eq_true c5
       clear c5
       by_cases c6 : 0 ≤ x5_2
       ·
        rw [if_pos c6] at H
        have c6b0 : decide (0 ≤ x5_2) = true := decide_eq_true c6
        clear c6
        by_cases c8 : (bt a0 x5_2) < 48
        ·
         rw [if_pos c8] at H
         have c8b0 : decide ((bt a0 x5_2) < 48) = true := decide_eq_true c8
         clear c8
         simp only [Option.some.injEq, Prod.mk.injEq] at H
         obtain ⟨rfl, rfl⟩ := H
         have p7 : 0 ≤ (x5_2 : Int) := of_decide_eq_true (by first | (with_reducible assumption) | assumption)
         have q7 : x5_2 < (a0.size : Int) := of_decide_eq_true (by first | (with_reducible assumption) | assumption)
         have hx7 := bt_at a0 x5_2
         replace p7 := eq_true p7
         replace q7 := eq_true q7
         go_wp2
         go_ret2
         exact ⟨by first | rfl | (simp; done) | (simp [*]; done), by repeat (first | exact Drawn0.refl _ | apply Drawn0.step)⟩
        ·
         rw [if_neg c8] at H
         have c8b0 : decide ((bt a0 x5_2) < 48) = false := decide_eq_false c8
         clear c8
         by_cases c10 : (bt a0 x5_2) > 57
         ·
          rw [if_pos c10] at H
          have c10b0 : decide (57 < (bt a0 x5_2)) = true := decide_eq_true c10
          clear c10
          simp only [Option.some.injEq, Prod.mk.injEq] at H
          obtain ⟨rfl, rfl⟩ := H
          have p7 : 0 ≤ (x5_2 : Int) := of_decide_eq_true (by first | (with_reducible assumption) | assumption)
          have q7 : x5_2 < (a0.size : Int) := of_decide_eq_true (by first | (with_reducible assumption) | assumption)
          have hx7 := bt_at a0 x5_2
          replace p7 := eq_true p7
          replace q7 := eq_true q7
          have p9 : 0 ≤ (x5_2 : Int) := of_decide_eq_true (by first | (with_reducible assumption) | assumption)
          have q9 : x5_2 < (a0.size : Int) := of_decide_eq_true (by first | (with_reducible assumption) | assumption)
          have hx9 := bt_at a0 x5_2
          replace p9 := eq_true p9
          replace q9 := eq_true q9
          go_wp2
          go_ret2
          exact ⟨by first | rfl | (simp; done) | (simp [*]; done), by repeat (first | exact Drawn0.refl _ | apply Drawn0.step)⟩
         ·
          rw [if_neg c10] at H
          have c10b0 : decide (57 < (bt a0 x5_2)) = false := decide_eq_false c10
          clear c10
          have H' := Aside0.mk H
          clear H
          have p7 : 0 ≤ (x5_2 : Int) := of_decide_eq_true (by first | (with_reducible assumption) | assumption)
          have q7 : x5_2 < (a0.size : Int) := of_decide_eq_true (by first | (with_reducible assumption) | assumption)
          have hx7 := bt_at a0 x5_2
          replace p7 := eq_true p7
          replace q7 := eq_true q7
          have p9 : 0 ≤ (x5_2 : Int) := of_decide_eq_true (by first | (with_reducible assumption) | assumption)
          have q9 : x5_2 < (a0.size : Int) := of_decide_eq_true (by first | (with_reducible assumption) | assumption)
          have hx9 := bt_at a0 x5_2
          replace p9 := eq_true p9
          replace q9 := eq_true q9
          have p11 : 0 ≤ (x5_2 : Int) := of_decide_eq_true (by first | (with_reducible assumption) | assumption)
          have q11 : x5_2 < (a0.size : Int) := of_decide_eq_true (by first | (with_reducible assumption) | assumption)
          have hx11 := bt_at a0 x5_2
          replace p11 := eq_true p11
          replace q11 := eq_true q11
          go_wp2
          go_roundg k2
          case measure => have := HJ1.out; have := HK2.out; omega
          case rel => exact ⟨(wrap64 ((wrap64 (x4_2 * 10)) + (((bt a0 x5_2) - 48) % 256))), (wrap64 (x5_2 + 1)), (by first | rfl | (simp; done) | (simp [*]; done)), (by first | rfl | (simp; done) | (simp [*]; done)), H', ⟨by have := HJ1.out; have := HK2.out; omega⟩, by repeat (first | exact Drawn0.refl _ | apply Drawn0.step)⟩
       ·
        rw [if_neg c6] at H
        exact absurd H (by simp)
      ·
       rw [if_neg c5] at H
       have c5b0 : decide (x5_2 < (a0.size : Int)) = false := decide_eq_false c5
       clear c5
       simp only [Option.some.injEq, Prod.mk.injEq] at H
       obtain ⟨rfl, rfl⟩ := H
       go_wp2
       go_ret2
       exact ⟨by first | rfl | (simp; done) | (simp [*]; done), by repeat (first | exact Drawn0.refl _ | apply Drawn0.step)⟩
/-! ### spec_ReadDate: function 11 -/
abbrev spec_ReadDate.d0 : Array Bool := #[false, false, false, false, false, false, false, false, false, false]
abbrev spec_ReadDate.d1 : Array Bool := #[true, false, false, false, false, false, false, false, false, false]
abbrev spec_ReadDate.d2 : Array Bool := #[true, true, false, false, false, false, false, false, false, false]
abbrev spec_ReadDate.d3 : Array Bool := #[true, true, false, false, true, false, false, false, false, false]
abbrev spec_ReadDate.d4 : Array Bool := #[true, true, false, false, true, true, false, false, false, false]
abbrev spec_ReadDate.d5 : Array Bool := #[true, true, true, false, true, true, false, false, false, false]
abbrev spec_ReadDate.d6 : Array Bool := #[true, true, true, true, true, true, false, false, false, false]
abbrev spec_ReadDate.d7 : Array Bool := #[true, true, true, true, true, true, true, false, false, false]
abbrev spec_ReadDate.d8 : Array Bool := #[true, true, true, true, true, true, true, true, false, false]
abbrev spec_ReadDate.d9 : Array Bool := #[true, true, true, true, true, true, true, true, true, false]
abbrev spec_ReadDate.d10 : Array Bool := #[true, true, true, true, true, true, true, true, true, true]
mutual
def spec_ReadDate.l0 : Nat → ByteArray → Int → Int → Int → Int → Int → Int → Int → Option (Int × Int × Int × Int × Int × Int × Bool)
 | 0, _, _, _, _, _, _, _, _ => none
 | k + 1, x0, x5, x103000, x103001, x103002, x103003, x103004, x103005 => if x5 < 13 then ((spec_l2MonthName.f x5).bind fun t103 => (if 8 ≤ 11 then (if 11 ≤ (x0.size : Int) then (if t103.toList = (x0.extract 8 11).toList then (spec_ReadDate.l0 k x0 (wrap64 (x5 + 1)) x103000 x5 x103002 x103003 x103004 x103005) else (spec_ReadDate.l0 k x0 (wrap64 (x5 + 1)) x103000 x103001 x103002 x103003 x103004 x103005)) else (none)) else (none))) else ((some (([5, 12, 14, 17, 20, 23] : List Int) : List Int)).bind fun y107 => (spec_ReadDate.l1 k x0 (([] : List Int)) y107 (y107.length : Int) 0 x103000 x103001 x103002 x103003 x103004 x103005))
def spec_ReadDate.l1 : Nat → ByteArray → List Int → List Int → Int → Int → Int → Int → Int → Int → Int → Int → Option (Int × Int × Int × Int × Int × Int × Bool)
 | 0, _, _, _, _, _, _, _, _, _, _, _ => none
 | k + 1, x0, x6, x28, x29, x30, x103000, x103001, x103002, x103003, x103004, x103005 => if x30 < x29 then (if 0 ≤ x30 then (if x30 < (x28.length : Int) then (if 0 ≤ (rd x28 x30) then (if (rd x28 x30) ≤ (wrap64 ((rd x28 x30) + 2)) then (if (wrap64 ((rd x28 x30) + 2)) ≤ (x0.size : Int) then ((spec_Digits.f k (x0.extract ((rd x28 x30) : Int).toNat ((wrap64 ((rd x28 x30) + 2)) : Int).toNat)).bind fun bt111 => (if x6.length < 17592186044416 then (spec_ReadDate.l1 k x0 (x6 ++ [bt111.1]) x28 x29 (wrap64 (x30 + 1)) x103000 x103001 x103002 x103003 x103004 x103005) else (none))) else (none)) else (none)) else (none)) else (none)) else (none)) else (if 0 < (x6.length : Int) then (if 1 < (x6.length : Int) then (if 2 < (x6.length : Int) then (if 3 < (x6.length : Int) then (if 4 < (x6.length : Int) then (if 5 < (x6.length : Int) then ((spec_ShowDate.f k (wrap64 ((wrap64 (100 * (rd x6 1))) + (rd x6 2))) x103001 (rd x6 0) (rd x6 3) (rd x6 4) (rd x6 5)).bind fun t122 => (if t122.toList = x0.toList then (some (wrap64 ((wrap64 (100 * (rd x6 1))) + (rd x6 2)), x103001, rd x6 0, rd x6 3, rd x6 4, rd x6 5, true)) else (some (0, 0, 0, 0, 0, 0, false)))) else (none)) else (none)) else (none)) else (none)) else (none)) else (none))
end
def spec_ReadDate.f (k : Nat) (a0 : ByteArray) : Option (Int × Int × Int × Int × Int × Int × Bool) := if (a0.size : Int) = 29 then (spec_ReadDate.l0 k a0 1 0 0 0 0 0 0) else (some (0, 0, 0, 0, 0, 0, false))
theorem spec_ReadDate.mono_l : ∀ k, (∀ y0 y1 y2 y3 y4 y5 y6 y7, LeO (spec_ReadDate.l0 k y0 y1 y2 y3 y4 y5 y6 y7) (spec_ReadDate.l0 (k + 1) y0 y1 y2 y3 y4 y5 y6 y7)) ∧ (∀ y0 y1 y2 y3 y4 y5 y6 y7 y8 y9 y10, LeO (spec_ReadDate.l1 k y0 y1 y2 y3 y4 y5 y6 y7 y8 y9 y10) (spec_ReadDate.l1 (k + 1) y0 y1 y2 y3 y4 y5 y6 y7 y8 y9 y10))
 | 0 => ⟨fun _ _ _ _ _ _ _ _ r h => by simp [spec_ReadDate.l0] at h, fun _ _ _ _ _ _ _ _ _ _ _ r h => by simp [spec_ReadDate.l1] at h⟩
 | k + 1 => by
  obtain ⟨ih0, ih1⟩ := spec_ReadDate.mono_l k
  refine ⟨?_, ?_⟩
  ·
   intro y0 y1 y2 y3 y4 y5 y6 y7
   unfold spec_ReadDate.l0
   repeat' first
   | (with_reducible exact ih0 _ _ _ _ _ _ _ _)
   | (with_reducible exact ih1 _ _ _ _ _ _ _ _ _ _ _)
   | (with_reducible exact spec_Digits.mono _ _)
   | (with_reducible exact spec_ShowDate.mono _ _ _ _ _ _ _)
   | (with_reducible exact LeO.refl _)
   | (with_reducible exact LeO.none _)
   | (with_reducible refine LeO.ite ?_ ?_)
   | (with_reducible refine LeO.bind ?_ (fun _ => ?_))
   | exact ih0 _ _ _ _ _ _ _ _
   | exact ih1 _ _ _ _ _ _ _ _ _ _ _
   | exact spec_Digits.mono _ _
   | exact spec_ShowDate.mono _ _ _ _ _ _ _
   | exact LeO.none _
   | refine LeO.ite ?_ ?_
   | refine LeO.bind ?_ (fun _ => ?_)
  ·
   intro y0 y1 y2 y3 y4 y5 y6 y7 y8 y9 y10
   unfold spec_ReadDate.l1
   repeat' first
   | (with_reducible exact ih0 _ _ _ _ _ _ _ _)
   | (with_reducible exact ih1 _ _ _ _ _ _ _ _ _ _ _)
   | (with_reducible exact spec_Digits.mono _ _)
   | (with_reducible exact spec_ShowDate.mono _ _ _ _ _ _ _)
   | (with_reducible exact LeO.refl _)
   | (with_reducible exact LeO.none _)
   | (with_reducible refine LeO.ite ?_ ?_)
   | (with_reducible refine LeO.bind ?_ (fun _ => ?_))
   | exact ih0 _ _ _ _ _ _ _ _
   | exact ih1 _ _ _ _ _ _ _ _ _ _ _
   | exact spec_Digits.mono _ _
   | exact spec_ShowDate.mono _ _ _ _ _ _ _
   | exact LeO.none _
   | refine LeO.ite ?_ ?_
   | refine LeO.bind ?_ (fun _ => ?_)
theorem spec_ReadDate.mono : ∀ a0 k, LeO (spec_ReadDate.f k a0) (spec_ReadDate.f (k + 1) a0) := by
 intro a0 k
 obtain ⟨ih0, ih1⟩ := spec_ReadDate.mono_l k
 unfold spec_ReadDate.f
 repeat' first
   | (with_reducible exact ih0 _ _ _ _ _ _ _ _)
   | (with_reducible exact ih1 _ _ _ _ _ _ _ _ _ _ _)
   | (with_reducible exact spec_Digits.mono _ _)
   | (with_reducible exact spec_ShowDate.mono _ _ _ _ _ _ _)
   | (with_reducible exact LeO.refl _)
   | (with_reducible exact LeO.none _)
   | (with_reducible refine LeO.ite ?_ ?_)
   | (with_reducible refine LeO.bind ?_ (fun _ => ?_))
   | exact ih0 _ _ _ _ _ _ _ _
   | exact ih1 _ _ _ _ _ _ _ _ _ _ _
   | exact spec_Digits.mono _ _
   | exact spec_ShowDate.mono _ _ _ _ _ _ _
   | exact LeO.none _
   | refine LeO.ite ?_ ?_
   | refine LeO.bind ?_ (fun _ => ?_)
def spec_ReadDate.T17 : Bool × List (List Nat × List Nat) := (true, [([], []), ([0], [0]), ([1], [1]), ([2], [2]), ([], []), ([4], [4]), ([5], [5]), ([3, 6], [3, 6]), ([0, 1, 2, 3, 4, 5, 6, 7], []), ([8, 7, 0, 1, 2, 3, 4, 5, 6, 7], [7, 8])])
def spec_ReadDate.B17 : List Nat := [0, 1, 3, 7, 0, 16, 48, 127, 255, 511]
theorem spec_ReadDate.tab17 : rtab .any (opsOf Tryd.f11 17) = spec_ReadDate.T17 := by kernel_rfl
theorem spec_ReadDate.bits17 : waitsOk spec_ReadDate.T17.2 spec_ReadDate.B17 = true := by kernel_rfl
set_option maxHeartbeats 8000000 in
set_option maxRecDepth 100000 in
theorem spec_ReadDate.calls (k : Nat) (a0 : ByteArray) (r1 : Int) (r2 : Int) (r3 : Int) (r4 : Int) (r5 : Int) (r6 : Int) (r7 : Bool) (w : World) (h : spec_ReadDate.f k a0 = some (r1, r2, r3, r4, r5, r6, r7)) :
  Calls Tryd.prog 11 #[.string a0] w fun e w' => e = .returned (.tuple #[.agg #[.int .i64 r1, .int .i64 r2, .int .i64 r3, .int .i64 r4, .int .i64 r5, .int .i64 r6], .bool r7]) ∧ Below w.heap.size w w' := by
 have hu25 := Tryd.underlying25
 have HB := Aside0.mk (Below.refl w.heap.size w)
 have H : (if (a0.size : Int) = 29 then (spec_ReadDate.l0 k a0 1 0 0 0 0 0 0) else (some (0, 0, 0, 0, 0, 0, false))) = some (r1, r2, r3, r4, r5, r6, r7) := h
 clear h
 by_cases c2 : (a0.size : Int) = 29
 ·
  rw [if_pos c2] at H
  have c2b0 : ((a0.size : Int) == 29) = true := beq_iff_eq.mpr c2
  have c2b1 : ((a0.size : Int) != 29) = false := bne_eq_false_iff_eq.mpr c2
  clear c2
  have H' := Aside0.mk H
  clear H
  go_enter Tryd.func11, Tryd.ntmps11
  go_wp2_with (first | ((with_reducible refine gate_dst (N := 2) rfl ?_); refine bx 2 #[.int .i64 0, .int .i64 0, .int .i64 0, .int .i64 0, .int .i64 0, .int .i64 0] 25 ?_; intro gb101 hg w3 hbox hb; have BK101 := Aside0.mk (hbox); have GW101 := Aside0.mk (bz hg); have GE101 := Aside0.mk (bz hg); replace HB := Aside0.mk (below_step bh hb); clear hb hbox hg) | ((with_reducible refine gate_dst (N := 4) rfl ?_); refine bx 4 #[.int .i64 0, .int .i64 0, .int .i64 0, .int .i64 0, .int .i64 0, .int .i64 0] 25 ?_; intro gb102 hg w4 hbox hb; have BK102 := Aside0.mk (hbox); have GW102 := Aside0.mk (bz hg); have GE102 := Aside0.mk (bz hg); have NB101_102 := Aside0.mk ((nl (o := .cells #[.int .i64 0, .int .i64 0, .int .i64 0, .int .i64 0, .int .i64 0, .int .i64 0] 25 (0, 0)) hg bk : gb101 ≠ gb102)); have NB102_101 := Aside0.mk ((ng (o := .cells #[.int .i64 0, .int .i64 0, .int .i64 0, .int .i64 0, .int .i64 0, .int .i64 0] 25 (0, 0)) hg bk : gb102 ≠ gb101)); replace BK101 := Aside0.mk (blk_below (g := gb101) (o := .cells #[.int .i64 0, .int .i64 0, .int .i64 0, .int .i64 0, .int .i64 0, .int .i64 0] 25 (0, 0)) bk hb); replace HB := Aside0.mk (below_step bh hb); clear hb hbox hg; have hnb5 := NB102_101.out; have hnc5 := NB101_102.out; have hcz6_0 : w4.cell? ⟨gb102, 0, none⟩ = some (.int .i64 0) := bc BK102 0; have hcz6_1 : w4.cell? ⟨gb102, 1, none⟩ = some (.int .i64 0) := bc BK102 1; have hcz6_2 : w4.cell? ⟨gb102, 2, none⟩ = some (.int .i64 0) := bc BK102 2; have hcz6_3 : w4.cell? ⟨gb102, 3, none⟩ = some (.int .i64 0) := bc BK102 3; have hcz6_4 : w4.cell? ⟨gb102, 4, none⟩ = some (.int .i64 0) := bc BK102 4; have hcz6_5 : w4.cell? ⟨gb102, 5, none⟩ = some (.int .i64 0) := bc BK102 5; have hfz6_0 := blk_frozen BK102.out 0; have hfz6_1 := blk_frozen BK102.out 1; have hfz6_2 := blk_frozen BK102.out 2; have hfz6_3 := blk_frozen BK102.out 3; have hfz6_4 := blk_frozen BK102.out 4; have hfz6_5 := blk_frozen BK102.out 5))
  go_loopg [5] k (fun kq v5 w' => ∃ (x5_1 : Int) (x103001_1 : Int), v5 = .int .i64 x5_1 ∧ Aside0 (spec_ReadDate.l0 kq a0 x5_1 0 x103001_1 0 0 0 0 = some (r1, r2, r3, r4, r5, r6, r7)) ∧ Aside0 (kq ≤ k) ∧ Aside0 (w'.heap[gb101]? = some (.cells #[.int .i64 0, .int .i64 0, .int .i64 0, .int .i64 0, .int .i64 0, .int .i64 0] 25 (0, 0))) ∧ Aside0 (w'.heap[gb102]? = some (.cells #[.int .i64 0, .int .i64 x103001_1, .int .i64 0, .int .i64 0, .int .i64 0, .int .i64 0] 25 (0, 0))) ∧ Aside0 (Below w.heap.size w w'))
  case atStart => exact ⟨(1), (0), (by first | rfl | (simp; done) | (simp [*]; done)), H', ⟨Nat.le_refl _⟩, ⟨by (with_reducible repeat (first | refine blk_drewN ?_ _ | refine blk_drew ?_ | refine blk_alloc ?_ _)); refine blk_far ?_ NB101_102.out _; (with_reducible repeat (first | refine blk_drewN ?_ _ | refine blk_drew ?_ | refine blk_alloc ?_ _)); refine blk_far ?_ NB101_102.out _; (with_reducible repeat (first | refine blk_drewN ?_ _ | refine blk_drew ?_ | refine blk_alloc ?_ _)); refine blk_far ?_ NB101_102.out _; (with_reducible repeat (first | refine blk_drewN ?_ _ | refine blk_drew ?_ | refine blk_alloc ?_ _)); refine blk_far ?_ NB101_102.out _; (with_reducible repeat (first | refine blk_drewN ?_ _ | refine blk_drew ?_ | refine blk_alloc ?_ _)); refine blk_far ?_ NB101_102.out _; (with_reducible repeat (first | refine blk_drewN ?_ _ | refine blk_drew ?_ | refine blk_alloc ?_ _)); refine blk_far ?_ NB101_102.out _; (with_reducible repeat (first | refine blk_drewN ?_ _ | refine blk_drew ?_ | refine blk_alloc ?_ _)); exact BK101.out⟩, ⟨by (with_reducible repeat (first | refine blk_drewN ?_ _ | refine blk_drew ?_ | refine blk_alloc ?_ _)); refine blk_put (cs := #[.int .i64 0, .int .i64 0, .int .i64 0, .int .i64 0, .int .i64 0, .int .i64 0]) ?_ 5 _ rfl; (with_reducible repeat (first | refine blk_drewN ?_ _ | refine blk_drew ?_ | refine blk_alloc ?_ _)); refine blk_put (cs := #[.int .i64 0, .int .i64 0, .int .i64 0, .int .i64 0, .int .i64 0, .int .i64 0]) ?_ 4 _ rfl; (with_reducible repeat (first | refine blk_drewN ?_ _ | refine blk_drew ?_ | refine blk_alloc ?_ _)); refine blk_put (cs := #[.int .i64 0, .int .i64 0, .int .i64 0, .int .i64 0, .int .i64 0, .int .i64 0]) ?_ 3 _ rfl; (with_reducible repeat (first | refine blk_drewN ?_ _ | refine blk_drew ?_ | refine blk_alloc ?_ _)); refine blk_put (cs := #[.int .i64 0, .int .i64 0, .int .i64 0, .int .i64 0, .int .i64 0, .int .i64 0]) ?_ 2 _ rfl; (with_reducible repeat (first | refine blk_drewN ?_ _ | refine blk_drew ?_ | refine blk_alloc ?_ _)); refine blk_put (cs := #[.int .i64 0, .int .i64 0, .int .i64 0, .int .i64 0, .int .i64 0, .int .i64 0]) ?_ 1 _ rfl; (with_reducible repeat (first | refine blk_drewN ?_ _ | refine blk_drew ?_ | refine blk_alloc ?_ _)); refine blk_put (cs := #[.int .i64 0, .int .i64 0, .int .i64 0, .int .i64 0, .int .i64 0, .int .i64 0]) ?_ 0 _ rfl; (with_reducible repeat (first | refine blk_drewN ?_ _ | refine blk_drew ?_ | refine blk_alloc ?_ _)); exact BK102.out⟩, ⟨bh⟩⟩
  case round =>
   clear H'
   try clear c1
   try clear c2
   try clear c2b0
   try clear c2b1
   try clear p2
   try clear c5
   try clear hcz6_0
   try clear hcz6_1
   try clear hcz6_2
   try clear hcz6_3
   try clear hcz6_4
   try clear hcz6_5
   try clear hfz6_0
   try clear hfz6_1
   try clear hfz6_2
   try clear hfz6_3
   try clear hfz6_4
   try clear hfz6_5
   obtain ⟨x5_1, x103001_1, rfl, HA, HK1, BK101, BK102, HB⟩ := hrel
   cases gk with
   | zero => exact absurd HA.out (by simp [spec_ReadDate.l0])
   | succ k1 =>
    have H := HA.out
    clear HA
    simp only [spec_ReadDate.l0] at H
    by_cases c7 : x5_1 < 13
    ·
     rw [if_pos c7] at H
     have c7b0 : decide (x5_1 < 13) = true := decide_eq_true c7
     clear c7
     obtain ⟨t103, A80, H⟩ := Option.bind_eq_some_iff.mp H
     try dsimp only at H
     have A8 := Aside0.mk A80
     clear A80
     by_cases c9 : 8 ≤ 11
     ·
      rw [if_pos c9] at H
      have c9b0 := eq_true c9
      have c9b1 : decide (8 ≤ 11) = true := decide_eq_true c9
      clear c9
      by_cases c10 : 11 ≤ (a0.size : Int)
      ·
       rw [if_pos c10] at H
       have c10b0 := eq_true c10
       have c10b1 : decide (11 ≤ (a0.size : Int)) = true := decide_eq_true c10
       clear c10
       by_cases c11 : t103.toList = (a0.extract 8 11).toList
       ·
        rw [if_pos c11] at H
        have c11b0 : (t103.toList == (a0.extract 8 11).toList) = true := beq_iff_eq.mpr c11
        have c11b1 : (t103.toList != (a0.extract 8 11).toList) = false := bne_eq_false_iff_eq.mpr c11
        clear c11
        have H' := Aside0.mk H
        clear H
        try go_wp2
        replace BK101 := Aside0.mk (blk_drew BK101.out)
        replace BK102 := Aside0.mk (blk_drew BK102.out)
        replace HB := Aside0.mk (below_drew1 HB.out)
        refine start_ (n := 5) (S := fun w' => True) (ds := []) #[false, false, false, false, false] (by kernel_rfl) rfl rfl trivial (fun hHeld => ?_)
        generalize wr.drew = w12 at BK101 BK102 HB hHeld ⊢
        refine pure_ (i := 0) (N := some 20) (v := ?_) (a' := ?_) #[true, false, false, false, false] rfl rfl (by kernel_rfl) (fun _ _ _ h => h) (Or.inl ⟨by rfl, ?_⟩) ?_ ?_
        rotate_left
        ·
         intro w'
         go_simp
         with_reducible rfl
        rotate_left
        ·
         simp only [Act.put, List.setIfInBounds_toArray, List.set_cons_zero, List.set_cons_succ, i64_w, i32_w]
         rfl
        refine pure_ (i := 2) (N := some 22) (v := ?_) (a' := ?_) #[true, false, true, false, false] rfl rfl (by kernel_rfl) (fun _ _ _ h => h) (Or.inl ⟨by rfl, ?_⟩) ?_ ?_
        rotate_left
        ·
         intro w'
         go_simp
         with_reducible rfl
        rotate_left
        ·
         simp only [Act.put, List.setIfInBounds_toArray, List.set_cons_zero, List.set_cons_succ, i64_w, i32_w]
         rfl
        refine pure_ (i := 3) (N := some 23) (v := ?_) (a' := ?_) #[true, false, true, true, false] rfl rfl (by kernel_rfl) (fun _ _ _ h => h) (Or.inl ⟨by rfl, ?_⟩) ?_ ?_
        rotate_left
        ·
         intro w'
         go_simp
         with_reducible rfl
        rotate_left
        ·
         simp only [Act.put, List.setIfInBounds_toArray, List.set_cons_zero, List.set_cons_succ, i64_w, i32_w]
         rfl
        refine one_ (i := 1) (N := some 21) #[true, true, true, true, false] rfl rfl (by kernel_rfl) (by decide) (fun K hK => ?_)
        refine gs Tryd.func33 #[.int .i64 x5_1] ?_
        with_reducible refine (spec_l2MonthName.calls x5_1 t103 _ A8.out).mono ?_
        rintro e w' ⟨rfl, ⟨nd, rfl⟩⟩
        refine ⟨_, rfl, ?_⟩
        refine hK.out _ _ trivial (fun hHeld => ?_)
        clear hK K
        refine nm 21 ?_
        refine pure_ (i := 4) (N := some 24) (v := ?_) (a' := ?_) #[true, true, true, true, true] rfl rfl (by kernel_rfl) (fun _ _ _ h => h) (Or.inl ⟨by rfl, ?_⟩) ?_ ?_
        rotate_left
        ·
         intro w'
         go_simp
         with_reducible rfl
        rotate_left
        ·
         simp only [Act.put, List.setIfInBounds_toArray, List.set_cons_zero, List.set_cons_succ, i64_w, i32_w]
         rfl
        refine done_ (by kernel_rfl) ?_
        have hnb13 := NB102_101.out
        have hnc13 := NB101_102.out
        have hcz14_0 : w12.cell? ⟨gb102, 0, none⟩ = some (.int .i64 0) := bc BK102 0
        have hcz14_1 : w12.cell? ⟨gb102, 1, none⟩ = some (.int .i64 x103001_1) := bc BK102 1
        have hcz14_2 : w12.cell? ⟨gb102, 2, none⟩ = some (.int .i64 0) := bc BK102 2
        have hcz14_3 : w12.cell? ⟨gb102, 3, none⟩ = some (.int .i64 0) := bc BK102 3
        have hcz14_4 : w12.cell? ⟨gb102, 4, none⟩ = some (.int .i64 0) := bc BK102 4
        have hcz14_5 : w12.cell? ⟨gb102, 5, none⟩ = some (.int .i64 0) := bc BK102 5
        have hfz14_0 := blk_frozen BK102.out 0
        have hfz14_1 := blk_frozen BK102.out 1
        have hfz14_2 := blk_frozen BK102.out 2
        have hfz14_3 := blk_frozen BK102.out 3
        have hfz14_4 := blk_frozen BK102.out 4
        have hfz14_5 := blk_frozen BK102.out 5
        try go_wp2
        go_roundg k1
        case measure => have := HK1.out; omega
        case rel => exact ⟨(wrap64 (x5_1 + 1)), (x5_1), (by first | rfl | (simp; done) | (simp [*]; done)), H', ⟨by have := HK1.out; omega⟩, ⟨by (with_reducible repeat (first | refine blk_drewN ?_ _ | refine blk_drew ?_ | refine blk_alloc ?_ _)); refine blk_far ?_ NB101_102.out _; (with_reducible repeat (first | refine blk_drewN ?_ _ | refine blk_drew ?_ | refine blk_alloc ?_ _)); exact BK101.out⟩, ⟨by (with_reducible repeat (first | refine blk_drewN ?_ _ | refine blk_drew ?_ | refine blk_alloc ?_ _)); refine blk_put (cs := #[.int .i64 0, .int .i64 x103001_1, .int .i64 0, .int .i64 0, .int .i64 0, .int .i64 0]) ?_ 1 _ rfl; (with_reducible repeat (first | refine blk_drewN ?_ _ | refine blk_drew ?_ | refine blk_alloc ?_ _)); exact BK102.out⟩, ⟨bh⟩⟩
       ·
        rw [if_neg c11] at H
        have c11b0 : (t103.toList == (a0.extract 8 11).toList) = false := beq_eq_false_iff_ne.mpr c11
        have c11b1 : (t103.toList != (a0.extract 8 11).toList) = true := bne_iff_ne.mpr c11
        have H' := Aside0.mk H
        clear H
        try go_wp2
        replace BK101 := Aside0.mk (blk_drew BK101.out)
        replace BK102 := Aside0.mk (blk_drew BK102.out)
        replace HB := Aside0.mk (below_drew1 HB.out)
        refine start_ (n := 5) (S := fun w' => True) (ds := []) #[false, false, false, false, false] (by kernel_rfl) rfl rfl trivial (fun hHeld => ?_)
        generalize wr.drew = w15 at BK101 BK102 HB hHeld ⊢
        refine pure_ (i := 0) (N := some 20) (v := ?_) (a' := ?_) #[true, false, false, false, false] rfl rfl (by kernel_rfl) (fun _ _ _ h => h) (Or.inl ⟨by rfl, ?_⟩) ?_ ?_
        rotate_left
        ·
         intro w'
         go_simp
         with_reducible rfl
        rotate_left
        ·
         simp only [Act.put, List.setIfInBounds_toArray, List.set_cons_zero, List.set_cons_succ, i64_w, i32_w]
         rfl
        refine pure_ (i := 2) (N := some 22) (v := ?_) (a' := ?_) #[true, false, true, false, false] rfl rfl (by kernel_rfl) (fun _ _ _ h => h) (Or.inl ⟨by rfl, ?_⟩) ?_ ?_
        rotate_left
        ·
         intro w'
         go_simp
         with_reducible rfl
        rotate_left
        ·
         simp only [Act.put, List.setIfInBounds_toArray, List.set_cons_zero, List.set_cons_succ, i64_w, i32_w]
         rfl
        refine pure_ (i := 3) (N := some 23) (v := ?_) (a' := ?_) #[true, false, true, true, false] rfl rfl (by kernel_rfl) (fun _ _ _ h => h) (Or.inl ⟨by rfl, ?_⟩) ?_ ?_
        rotate_left
        ·
         intro w'
         go_simp
         with_reducible rfl
        rotate_left
        ·
         simp only [Act.put, List.setIfInBounds_toArray, List.set_cons_zero, List.set_cons_succ, i64_w, i32_w]
         rfl
        refine one_ (i := 1) (N := some 21) #[true, true, true, true, false] rfl rfl (by kernel_rfl) (by decide) (fun K hK => ?_)
        refine gs Tryd.func33 #[.int .i64 x5_1] ?_
        with_reducible refine (spec_l2MonthName.calls x5_1 t103 _ A8.out).mono ?_
        rintro e w' ⟨rfl, ⟨nd, rfl⟩⟩
        refine ⟨_, rfl, ?_⟩
        refine hK.out _ _ trivial (fun hHeld => ?_)
        clear hK K
        refine nm 21 ?_
        refine pure_ (i := 4) (N := some 24) (v := ?_) (a' := ?_) #[true, true, true, true, true] rfl rfl (by kernel_rfl) (fun _ _ _ h => h) (Or.inl ⟨by rfl, ?_⟩) ?_ ?_
        rotate_left
        ·
         intro w'
         go_simp
         with_reducible rfl
        rotate_left
        ·
         simp only [Act.put, List.setIfInBounds_toArray, List.set_cons_zero, List.set_cons_succ, i64_w, i32_w]
         rfl
        refine done_ (by kernel_rfl) ?_
        try go_wp2
        go_roundg k1
        case measure => have := HK1.out; omega
        case rel => exact ⟨(wrap64 (x5_1 + 1)), (x103001_1), (by first | rfl | (simp; done) | (simp [*]; done)), H', ⟨by have := HK1.out; omega⟩, ⟨by (with_reducible repeat (first | refine blk_drewN ?_ _ | refine blk_drew ?_ | refine blk_alloc ?_ _)); exact BK101.out⟩, ⟨by (with_reducible repeat (first | refine blk_drewN ?_ _ | refine blk_drew ?_ | refine blk_alloc ?_ _)); exact BK102.out⟩, ⟨bh⟩⟩
      ·
       rw [if_neg c10] at H
       exact absurd H (by simp)
     ·
      rw [if_neg c9] at H
      exact absurd H (by simp)
    ·
     rw [if_neg c7] at H
     have c7b0 : decide (x5_1 < 13) = false := decide_eq_false c7
     clear c7
     obtain ⟨y104, hy104⟩ : ∃ y_ : List Int, y_ = (([] : List Int)) := ⟨_, rfl⟩
     replace H : ((some (([5, 12, 14, 17, 20, 23] : List Int) : List Int)).bind fun y107 => (spec_ReadDate.l1 k1 a0 y104 y107 (y107.length : Int) 0 0 x103001_1 0 0 0 0)) = some (r1, r2, r3, r4, r5, r6, r7) := by first | (rw [hy104]; with_reducible exact H) | (have H2_ := (Option.bind_some _ _).symm.trans H; rw [hy104]; with_reducible exact H2_) | (have H2_ := (Option.bind_some _ _).symm.trans H; with_reducible exact H2_) | with_reducible exact H | (rw [hy104]; exact H) | exact H
     have Ny104 := Aside0.mk hy104
     clear hy104
     obtain ⟨y107, hy107⟩ : ∃ y_ : List Int, y_ = (([5, 12, 14, 17, 20, 23] : List Int)) := ⟨_, rfl⟩
     replace H : (spec_ReadDate.l1 k1 a0 y104 y107 (y107.length : Int) 0 0 x103001_1 0 0 0 0) = some (r1, r2, r3, r4, r5, r6, r7) := by first | (rw [hy107]; with_reducible exact H) | (have H2_ := (Option.bind_some _ _).symm.trans H; rw [hy107]; with_reducible exact H2_) | (have H2_ := (Option.bind_some _ _).symm.trans H; with_reducible exact H2_) | with_reducible exact H | (rw [hy107]; exact H) | exact H
     have Ny107 := Aside0.mk hy107
     clear hy107
     have H' := Aside0.mk H
     clear H
     go_wp2_with (first | ((with_reducible refine gate_dst (N := 27) rfl ?_); refine Kd.R_lit (Kd.int .i64) _ 2 ?hg (N := 27) ?hd (xs := ([] : List Int)) (inner := []) (ok := fun _ => True) (okp := fun _ => True) ?hr ?hp (fun _ hk => hk) trivial (Below.refl _ _) (Nat.le_refl _) (by simp) ?_; (case hd => rfl); (case hg => rfl); (case hr => first | (go_simp; done) | (go_simp; rfl)); (case hp => exact (Reps.none _ _)); intro v105 w16 ho17 hb hg_ hnew_; clear hg_ hnew_; (first | rw [← Ny104.out] at ho17 | (simp only [Int.reduceToNat] at ho17; rw [← Ny104.out] at ho17)); have HO106 := Aside0.mk (Kd.R_lower ho17 (below_size bh)); replace BK101 := Aside0.mk (blk_below (g := gb101) (o := .cells #[.int .i64 0, .int .i64 0, .int .i64 0, .int .i64 0, .int .i64 0, .int .i64 0] 25 (0, 0)) bk hb); replace BK102 := Aside0.mk (blk_below (g := gb102) (o := .cells #[.int .i64 0, .int .i64 x103001_1, .int .i64 0, .int .i64 0, .int .i64 0, .int .i64 0] 25 (0, 0)) bk hb); replace HB := Aside0.mk (below_step bh hb); clear hb ho17) | ((with_reducible refine gate_dst (N := 28) rfl ?_); refine Kd.R_lit (Kd.int .i64) _ 3 ?hg (N := 28) ?hd (xs := ([5, 12, 14, 17, 20, 23] : List Int)) (inner := [.int .i64 5, .int .i64 12, .int .i64 14, .int .i64 17, .int .i64 20, .int .i64 23]) (ok := fun _ => True) (okp := fun _ => True) ?hr ?hp (fun _ hk => hk) trivial (Below.refl _ _) (Nat.le_refl _) (by simp) ?_; (case hd => rfl); (case hg => rfl); (case hr => first | (go_simp; done) | (go_simp; rfl)); (case hp => exact (Reps.one (show Kd.M (Kd.int .i64) _ _ _ 5 [.int .i64 5] from rfl) (Reps.one (show Kd.M (Kd.int .i64) _ _ _ 12 [.int .i64 12] from rfl) (Reps.one (show Kd.M (Kd.int .i64) _ _ _ 14 [.int .i64 14] from rfl) (Reps.one (show Kd.M (Kd.int .i64) _ _ _ 17 [.int .i64 17] from rfl) (Reps.one (show Kd.M (Kd.int .i64) _ _ _ 20 [.int .i64 20] from rfl) (Reps.one (show Kd.M (Kd.int .i64) _ _ _ 23 [.int .i64 23] from rfl) (Reps.none _ _)))))))); intro v108 w18 ho19 hb hg_ hnew_; clear hg_ hnew_; (first | rw [← Ny107.out] at ho19 | (simp only [Int.reduceToNat] at ho19; rw [← Ny107.out] at ho19)); have HO109 := Aside0.mk (Kd.R_lower ho19 (below_size bh)); replace HO106 := Aside0.mk (Kd.R_below (by (with_reducible repeat (first | apply Kd.R_alloc | apply Kd.R_drewN | apply Kd.R_drew)); exact HO106.out) hb); replace BK101 := Aside0.mk (blk_below (g := gb101) (o := .cells #[.int .i64 0, .int .i64 0, .int .i64 0, .int .i64 0, .int .i64 0, .int .i64 0] 25 (0, 0)) bk hb); replace BK102 := Aside0.mk (blk_below (g := gb102) (o := .cells #[.int .i64 0, .int .i64 x103001_1, .int .i64 0, .int .i64 0, .int .i64 0, .int .i64 0] 25 (0, 0)) bk hb); replace HB := Aside0.mk (below_step bh hb); clear hb ho19; obtain ⟨Ao20, co20, eo20⟩ := Kd.R_slice HO109.out; subst eo20))
     go_loopg [6, 30] k1 (fun kq v6 v30 w' => ∃ (x6_2 : List Int) (x30_2 : Int), v30 = .int .i64 x30_2 ∧ Aside0 (spec_ReadDate.l1 kq a0 x6_2 y107 (y107.length : Int) x30_2 0 x103001_1 0 0 0 0 = some (r1, r2, r3, r4, r5, r6, r7)) ∧ Aside0 (kq ≤ k1) ∧ Aside0 (Kd.R (Kd.int .i64) 2 w' w.heap.size (fun _ => True) v6 x6_2) ∧ Aside0 (Kd.R (Kd.int .i64) 3 w' w.heap.size (fun _ => True) (.slice Ao20 y107.length co20) y107) ∧ Aside0 (w'.heap[gb101]? = some (.cells #[.int .i64 0, .int .i64 0, .int .i64 0, .int .i64 0, .int .i64 0, .int .i64 0] 25 (0, 0))) ∧ Aside0 (w'.heap[gb102]? = some (.cells #[.int .i64 0, .int .i64 x103001_1, .int .i64 0, .int .i64 0, .int .i64 0, .int .i64 0] 25 (0, 0))) ∧ Aside0 (Below w.heap.size w w'))
     case atStart => exact ⟨(y104), (0), (by first | rfl | (simp; done) | (simp [*]; done)), H', ⟨Nat.le_refl _⟩, ⟨by (with_reducible repeat (first | apply Kd.R_alloc | apply Kd.R_drewN | apply Kd.R_drew)); exact HO106.out⟩, ⟨by (with_reducible repeat (first | apply Kd.R_alloc | apply Kd.R_drewN | apply Kd.R_drew)); exact HO109.out⟩, ⟨by (with_reducible repeat (first | refine blk_drewN ?_ _ | refine blk_drew ?_ | refine blk_alloc ?_ _)); exact BK101.out⟩, ⟨by (with_reducible repeat (first | refine blk_drewN ?_ _ | refine blk_drew ?_ | refine blk_alloc ?_ _)); exact BK102.out⟩, ⟨bh⟩⟩
     case round =>
      clear H'
      try clear c1
      try clear c2
      try clear c2b0
      try clear c2b1
      try clear p2
      try clear c3
      try clear c5
      try clear p6
      try clear c7
      try clear c7b0
      try clear c9
      try clear c9b0
      try clear c9b1
      try clear c10
      try clear c10b0
      try clear c10b1
      try clear c11
      try clear c11b0
      try clear c11b1
      try clear c13
      try clear hcz14_0
      try clear hcz14_1
      try clear hcz14_2
      try clear hcz14_3
      try clear hcz14_4
      try clear hcz14_5
      try clear hcz6_0
      try clear hcz6_1
      try clear hcz6_2
      try clear hcz6_3
      try clear hcz6_4
      try clear hcz6_5
      try clear hfz14_0
      try clear hfz14_1
      try clear hfz14_2
      try clear hfz14_3
      try clear hfz14_4
      try clear hfz14_5
      try clear hfz6_0
      try clear hfz6_1
      try clear hfz6_2
      try clear hfz6_3
      try clear hfz6_4
      try clear hfz6_5
      try clear p2
      obtain ⟨x6_2, x30_2, rfl, HA, HK2, HO_6, HO_28, BK101, BK102, HB⟩ := hrel
      cases gk with
      | zero => exact absurd HA.out (by simp [spec_ReadDate.l1])
      | succ k2 =>
       have H := HA.out
       clear HA
       simp only [spec_ReadDate.l1] at H
       by_cases c21 : x30_2 < (y107.length : Int)
       ·
        rw [if_pos c21] at H
        have c21b0 : decide (x30_2 < (y107.length : Int)) = true := decide_eq_true c21
        clear c21
        by_cases c22 : 0 ≤ x30_2
        ·
         rw [if_pos c22] at H
         have c22b0 : decide (0 ≤ x30_2) = true := decide_eq_true c22
         clear c22
         by_cases c23 : x30_2 < (y107.length : Int)
         ·
          rw [if_pos c23] at H
          have c23b0 : decide (x30_2 < (y107.length : Int)) = true := decide_eq_true c23
          clear c23
          by_cases c24 : 0 ≤ (rd y107 x30_2)
          ·
           rw [if_pos c24] at H
           have c24b0 := eq_true c24
           have c24b1 : decide (0 ≤ (rd y107 x30_2)) = true := decide_eq_true c24
           clear c24
           by_cases c25 : (rd y107 x30_2) ≤ (wrap64 ((rd y107 x30_2) + 2))
           ·
            rw [if_pos c25] at H
            have c25b0 := eq_true c25
            have c25b1 : decide ((rd y107 x30_2) ≤ (wrap64 ((rd y107 x30_2) + 2))) = true := decide_eq_true c25
            by_cases c26 : (wrap64 ((rd y107 x30_2) + 2)) ≤ (a0.size : Int)
            ·
             rw [if_pos c26] at H
             have c26b0 := eq_true c26
             have c26b1 : decide ((wrap64 ((rd y107 x30_2) + 2)) ≤ (a0.size : Int)) = true := decide_eq_true c26
             obtain ⟨⟨t111, t112⟩, A270, H⟩ := Option.bind_eq_some_iff.mp H
             try dsimp only at H
             have A27 := Aside0.mk A270
             clear A270
             by_cases c28 : x6_2.length < 17592186044416
             ·
              rw [if_pos c28] at H
              have LMc28 := Aside0.mk c28
              clear c28
              obtain ⟨y113, hy113⟩ : ∃ y_ : List Int, y_ = (x6_2 ++ [t111]) := ⟨_, rfl⟩
              replace H : (spec_ReadDate.l1 k2 a0 y113 y107 (y107.length : Int) (wrap64 (x30_2 + 1)) 0 x103001_1 0 0 0 0) = some (r1, r2, r3, r4, r5, r6, r7) := by first | (rw [hy113]; with_reducible exact H) | (have H2_ := (Option.bind_some _ _).symm.trans H; rw [hy113]; with_reducible exact H2_) | (have H2_ := (Option.bind_some _ _).symm.trans H; with_reducible exact H2_) | with_reducible exact H | (rw [hy113]; exact H) | exact H
              have Ny113 := Aside0.mk hy113
              clear hy113
              have H' := Aside0.mk H
              clear H
              have p110 : 0 ≤ (x30_2 : Int) := of_decide_eq_true (by first | (with_reducible assumption) | assumption)
              have q110 : x30_2 < (y107.length : Int) := of_decide_eq_true (by first | (with_reducible assumption) | assumption)
              obtain ⟨ad110, e110, hx110_0⟩ := Kd.at_int (Kd.R_reads' HO_28.out).2.2 x30_2 p110 q110
              cases e110
              replace p110 := eq_true p110
              replace q110 := eq_true q110
              go_wp2_with (first | ((with_reducible refine gate_callee (f := 27) rfl ?_); refine goesL_ (some 40) rfl rfl Tryd.func27 (by kernel_rfl) rfl #[.string (a0.extract ((rd y107 x30_2) : Int).toNat ((wrap64 ((rd y107 x30_2) + 2)) : Int).toNat)] rfl mc ?_; (with_reducible refine (spec_Digits.calls k2 (a0.extract ((rd y107 x30_2) : Int).toNat ((wrap64 ((rd y107 x30_2) + 2)) : Int).toNat) t111 t112 _ A27.out).mono ?_); rintro e w' ⟨rfl, ⟨nd, rfl⟩⟩; refine ⟨_, rfl, ?_⟩) | ((with_reducible refine gate_builtin (b := .append) (xs := #[.tmp 43, .tmp 45]) rfl ?_); at_builtin; refine Kd.R_append (Kd.int .i64) (w0 := w) w.heap.size rfl (.tmp 43) (.tmp 45) 45 2 (.int .i64 0) 8 rfl Tryd.underlying45 info2 rfl (by decide) (by omega) u6 x6_2 t111 [.int .i64 t111] (fun _ => True) (fun _ => False) rfl rfl ?aP (fun _ hk => hk.elim) ?aF ?aO ?aB ?aS ?aL ?_; (case aP => exact rfl); (case aB => exact bh); (case aF => exact (fun _ _ => trivial)); (case aO => exact (by (with_reducible repeat (first | apply Kd.R_alloc | apply Kd.R_drewN | apply Kd.R_drew)); exact HO_6.out)); (case aS => exact (below_size bh)); (case aL => have := LMc28.out; omega); intro v114 w29 ho hb hg hat; rw [← Ny113.out] at ho; have n0_ := Aside0.mk (Kd.R_over' (by (with_reducible repeat (first | apply Kd.R_alloc | apply Kd.R_drewN | apply Kd.R_drew)); exact HO_28.out) (Kd.R_typed (by (with_reducible repeat (first | apply Kd.R_alloc | apply Kd.R_drewN | apply Kd.R_drew)); exact HO_6.out)) (by decide) hg); have n1_ := Aside0.mk (blk_grown (g := gb101) (o := .cells #[.int .i64 0, .int .i64 0, .int .i64 0, .int .i64 0, .int .i64 0, .int .i64 0] 25 (0, 0)) bk hg (Kd.R_ne HO_6.out BK101.out (by decide))); have n2_ := Aside0.mk (blk_grown (g := gb102) (o := .cells #[.int .i64 0, .int .i64 x103001_1, .int .i64 0, .int .i64 0, .int .i64 0, .int .i64 0] 25 (0, 0)) bk hg (Kd.R_ne HO_6.out BK102.out (by decide))); have n3_ := Aside0.mk (hb); have n4_ := Aside0.mk (ho); clear HO_28; clear BK101; clear BK102; clear HB; clear HO_6; have HO_28 := n0_; have BK101 := n1_; have BK102 := n2_; have HB := n3_; have HO115 := n4_; clear n0_ n1_ n2_ n3_ n4_; clear ho hb hg hat))
              go_roundg k2
              case measure => have := HK1.out; have := HK2.out; omega
              case rel => exact ⟨(y113), (wrap64 (x30_2 + 1)), (by first | rfl | (simp; done) | (simp [*]; done)), H', ⟨by have := HK1.out; have := HK2.out; omega⟩, ⟨by (with_reducible repeat (first | apply Kd.R_alloc | apply Kd.R_drewN | apply Kd.R_drew)); exact HO115.out⟩, ⟨by (with_reducible repeat (first | apply Kd.R_alloc | apply Kd.R_drewN | apply Kd.R_drew)); exact HO_28.out⟩, ⟨by (with_reducible repeat (first | refine blk_drewN ?_ _ | refine blk_drew ?_ | refine blk_alloc ?_ _)); exact BK101.out⟩, ⟨by (with_reducible repeat (first | refine blk_drewN ?_ _ | refine blk_drew ?_ | refine blk_alloc ?_ _)); exact BK102.out⟩, ⟨bh⟩⟩
             ·
              rw [if_neg c28] at H
              exact absurd H (by simp)
            ·
             rw [if_neg c26] at H
             exact absurd H (by simp)
           ·
            rw [if_neg c25] at H
            exact absurd H (by simp)
          ·
           rw [if_neg c24] at H
           exact absurd H (by simp)
         ·
          rw [if_neg c23] at H
          exact absurd H (by simp)
        ·
         rw [if_neg c22] at H
         exact absurd H (by simp)
       ·
        rw [if_neg c21] at H
        have c21b0 : decide (x30_2 < (y107.length : Int)) = false := decide_eq_false c21
        clear c21
        by_cases c30 : 0 < (x6_2.length : Int)
        ·
         rw [if_pos c30] at H
         have c30b0 : decide (0 < (x6_2.length : Int)) = true := decide_eq_true c30
         have c30b1 : decide (0 < x6_2.length) = true := decide_eq_true (by omega)
         clear c30
         by_cases c31 : 1 < (x6_2.length : Int)
         ·
          rw [if_pos c31] at H
          have c31b0 : decide (1 < (x6_2.length : Int)) = true := decide_eq_true c31
          have c31b1 : decide (1 < x6_2.length) = true := decide_eq_true (by omega)
          clear c31
          by_cases c32 : 2 < (x6_2.length : Int)
          ·
           rw [if_pos c32] at H
           have c32b0 : decide (2 < (x6_2.length : Int)) = true := decide_eq_true c32
           have c32b1 : decide (2 < x6_2.length) = true := decide_eq_true (by omega)
           clear c32
           by_cases c33 : 3 < (x6_2.length : Int)
           ·
            rw [if_pos c33] at H
            have c33b0 : decide (3 < (x6_2.length : Int)) = true := decide_eq_true c33
            have c33b1 : decide (3 < x6_2.length) = true := decide_eq_true (by omega)
            clear c33
            by_cases c34 : 4 < (x6_2.length : Int)
            ·
             rw [if_pos c34] at H
             have c34b0 : decide (4 < (x6_2.length : Int)) = true := decide_eq_true c34
             have c34b1 : decide (4 < x6_2.length) = true := decide_eq_true (by omega)
             clear c34
             by_cases c35 : 5 < (x6_2.length : Int)
             ·
              rw [if_pos c35] at H
              have c35b0 : decide (5 < (x6_2.length : Int)) = true := decide_eq_true c35
              have c35b1 : decide (5 < x6_2.length) = true := decide_eq_true (by omega)
              clear c35
              obtain ⟨t122, A360, H⟩ := Option.bind_eq_some_iff.mp H
              try dsimp only at H
              have A36 := Aside0.mk A360
              clear A360
              by_cases c37 : t122.toList = a0.toList
              ·
               rw [if_pos c37] at H
               have c37b0 : (t122.toList == a0.toList) = true := beq_iff_eq.mpr c37
               have c37b1 : (t122.toList != a0.toList) = false := bne_eq_false_iff_eq.mpr c37
               clear c37
               simp only [Option.some.injEq, Prod.mk.injEq] at H
               obtain ⟨rfl, rfl, rfl, rfl, rfl, rfl, rfl⟩ := H
               obtain ⟨Ao38, co38, eo38⟩ := Kd.R_slice HO_6.out
               subst eo38
               have p116 : 0 ≤ (0 : Int) := (by omega)
               have q116 : 0 < (x6_2.length : Int) := of_decide_eq_true (by first | (with_reducible assumption) | assumption)
               obtain ⟨ad116, e116, hx116_0⟩ := Kd.at_int (Kd.R_reads' HO_6.out).2.2 0 p116 q116
               cases e116
               have qi116 : (0 < x6_2.length) = True := eq_true (by omega)
               (try rw [show ((0 : Int)).toNat = 0 from rfl] at hx116_0)
               (try rw [Addr.add_zero'] at hx116_0)
               replace p116 := eq_true p116
               replace q116 := eq_true q116
               have hnb39 := NB102_101.out
               have hnc39 := NB101_102.out
               have hcz40_0 : wr.cell? ⟨gb102, 0, none⟩ = some (.int .i64 0) := bc BK102 0
               have hcz40_1 : wr.cell? ⟨gb102, 1, none⟩ = some (.int .i64 x103001_1) := bc BK102 1
               have hcz40_2 : wr.cell? ⟨gb102, 2, none⟩ = some (.int .i64 0) := bc BK102 2
               have hcz40_3 : wr.cell? ⟨gb102, 3, none⟩ = some (.int .i64 0) := bc BK102 3
               have hcz40_4 : wr.cell? ⟨gb102, 4, none⟩ = some (.int .i64 0) := bc BK102 4
               have hcz40_5 : wr.cell? ⟨gb102, 5, none⟩ = some (.int .i64 0) := bc BK102 5
               have hfz40_0 := blk_frozen BK102.out 0
               have hfz40_1 := blk_frozen BK102.out 1
               have hfz40_2 := blk_frozen BK102.out 2
               have hfz40_3 := blk_frozen BK102.out 3
               have hfz40_4 := blk_frozen BK102.out 4
               have hfz40_5 := blk_frozen BK102.out 5
               try go_wp2
               have n0_ : Aside0 (Kd.R (Kd.int .i64) 2 (wr.setCell ⟨gb102, 2, none⟩ (.int .i64 (rd x6_2 0))) w.heap.size (fun _ => True) (.slice (some ad116) x6_2.length co38) x6_2) := ⟨by (with_reducible repeat (first | apply Kd.R_alloc | apply Kd.R_drewN | apply Kd.R_drew)); exact Kd.R_mono (Kd.R_far (p := ⟨gb102, 2, none⟩) (Kd.R_types HO_6.out BK102.out (by decide)) (fun _ hk => hk.2) (.int .i64 (rd x6_2 0))) (fun _ hk => trivial)⟩
               have n1_ : Aside0 (Kd.R (Kd.int .i64) 3 (wr.setCell ⟨gb102, 2, none⟩ (.int .i64 (rd x6_2 0))) w.heap.size (fun _ => True) (.slice Ao20 y107.length co20) y107) := ⟨by (with_reducible repeat (first | apply Kd.R_alloc | apply Kd.R_drewN | apply Kd.R_drew)); exact Kd.R_mono (Kd.R_far (p := ⟨gb102, 2, none⟩) (Kd.R_types HO_28.out BK102.out (by decide)) (fun _ hk => hk.2) (.int .i64 (rd x6_2 0))) (fun _ hk => trivial)⟩
               have n2_ : Aside0 ((wr.setCell ⟨gb102, 2, none⟩ (.int .i64 (rd x6_2 0))).heap[gb101]? = some (.cells #[.int .i64 0, .int .i64 0, .int .i64 0, .int .i64 0, .int .i64 0, .int .i64 0] 25 (0, 0))) := ⟨by (with_reducible repeat (first | refine blk_drewN ?_ _ | refine blk_drew ?_ | refine blk_alloc ?_ _)); refine blk_far ?_ NB101_102.out _; (with_reducible repeat (first | refine blk_drewN ?_ _ | refine blk_drew ?_ | refine blk_alloc ?_ _)); exact BK101.out⟩
               have n3_ : Aside0 ((wr.setCell ⟨gb102, 2, none⟩ (.int .i64 (rd x6_2 0))).heap[gb102]? = some (.cells #[.int .i64 0, .int .i64 x103001_1, .int .i64 (rd x6_2 0), .int .i64 0, .int .i64 0, .int .i64 0] 25 (0, 0))) := ⟨by (with_reducible repeat (first | refine blk_drewN ?_ _ | refine blk_drew ?_ | refine blk_alloc ?_ _)); refine blk_put (cs := #[.int .i64 0, .int .i64 x103001_1, .int .i64 0, .int .i64 0, .int .i64 0, .int .i64 0]) ?_ 2 _ rfl; (with_reducible repeat (first | refine blk_drewN ?_ _ | refine blk_drew ?_ | refine blk_alloc ?_ _)); exact BK102.out⟩
               have n4_ : Aside0 (Below w.heap.size w (wr.setCell ⟨gb102, 2, none⟩ (.int .i64 (rd x6_2 0)))) := ⟨bh⟩
               (try clear HO_6)
               (try clear HO_28)
               (try clear BK101)
               (try clear BK102)
               (try clear HB)
               generalize (wr.setCell ⟨gb102, 2, none⟩ (.int .i64 (rd x6_2 0))) = w41 at n0_ n1_ n2_ n3_ n4_ ⊢
               have HO_6 := n0_
               have HO_28 := n1_
               have BK101 := n2_
               have BK102 := n3_
               have HB := n4_
               clear n0_ n1_ n2_ n3_ n4_
               replace HO_6 := Aside0.mk (Kd.R_drew HO_6.out)
               replace HO_28 := Aside0.mk (Kd.R_drew HO_28.out)
               replace BK101 := Aside0.mk (blk_drew BK101.out)
               replace BK102 := Aside0.mk (blk_drew BK102.out)
               replace HB := Aside0.mk (below_drew1 HB.out)
               have p117 : 0 ≤ (1 : Int) := (by omega)
               have q117 : 1 < (x6_2.length : Int) := of_decide_eq_true (by first | (with_reducible assumption) | assumption)
               obtain ⟨ad117, e117, hx117_0⟩ := Kd.at_int (Kd.R_reads' HO_6.out).2.2 1 p117 q117
               obtain rfl : ad116 = ad117 := (by injection e117)
               (try simp only [show (1 : Int).toNat = 1 from rfl, Nat.reduceMul, Nat.reduceEqDiff, Go.Addr.add, ↓reduceIte] at hx117_0)
               have qi117 : (1 < x6_2.length) = True := eq_true (by omega)
               (try rw [show ((1 : Int)).toNat = 1 from rfl] at hx117_0)
               replace p117 := eq_true p117
               replace q117 := eq_true q117
               have p118 : 0 ≤ (2 : Int) := (by omega)
               have q118 : 2 < (x6_2.length : Int) := of_decide_eq_true (by first | (with_reducible assumption) | assumption)
               obtain ⟨ad118, e118, hx118_0⟩ := Kd.at_int (Kd.R_reads' HO_6.out).2.2 2 p118 q118
               obtain rfl : ad116 = ad118 := (by injection e118)
               (try simp only [show (2 : Int).toNat = 2 from rfl, Nat.reduceMul, Nat.reduceEqDiff, Go.Addr.add, ↓reduceIte] at hx118_0)
               have qi118 : (2 < x6_2.length) = True := eq_true (by omega)
               (try rw [show ((2 : Int)).toNat = 2 from rfl] at hx118_0)
               replace p118 := eq_true p118
               replace q118 := eq_true q118
               refine start_ (n := 10) (S := fun w' => w'.cell? ⟨ad116.block, ad116.off + 1, none⟩ = some (.int .i64 (rd x6_2 1)) ∧ w'.cell? ⟨ad116.block, ad116.off + 2, none⟩ = some (.int .i64 (rd x6_2 2))) (ds := []) spec_ReadDate.d0 (by kernel_rfl) rfl rfl ⟨hx117_0, hx118_0⟩ (fun hHeld => ?_); refine with_tabW spec_ReadDate.tab17 spec_ReadDate.bits17 (fun HT_ HW_ => ?_)
               generalize w41.drew = w42 at HO_6 HO_28 BK101 BK102 HB hx117_0 hx118_0 hHeld ⊢
               refine pu 0 52 spec_ReadDate.d1 HT_ ?_
               refine pu 1 53 spec_ReadDate.d2 HT_ ?_
               refine pu 4 56 spec_ReadDate.d3 HT_ ?_
               refine pu 5 57 spec_ReadDate.d4 HT_ ?_
               refine tk 2 54 spec_ReadDate.d5 HT_ HW_ hHeld ?_
               refine pu 3 55 spec_ReadDate.d6 HT_ ?_
               refine tk 6 58 spec_ReadDate.d7 HT_ HW_ hHeld ?_
               refine pu 7 59 spec_ReadDate.d8 HT_ ?_
               refine pu 8 60 spec_ReadDate.d9 HT_ ?_
               refine one_ (i := 9) (N := none) spec_ReadDate.d10 rfl rfl (one_of HT_.out (by kernel_rfl)) (by decide) (fun K hK => ?_)
               have hs43 : w42.cell? ⟨gb102, 0, none⟩ = some (.int .i64 0) := bc BK102 0
               have hfs43 := blk_frozen BK102.out 0
               have hns43_0 := NB101_102.out
               have hms43_0 := NB102_101.out
               refine skip_ (w1 := ?_) (by rfl) rfl ?_ ?_
               rotate_left
               ·
                go_simp
                rfl
               refine hK.out _ _ ⟨((cell_far (p := ⟨gb102, _, none⟩) (by first | exact Kd.own_blk (Kd.R_ne HO_6.out BK102.out (by decide)) | (rw [add_block]; exact Kd.own_blk (Kd.R_ne HO_6.out BK102.out (by decide))) | (show (Addr.add _ _).block ≠ _; rw [add_block]; exact Kd.own_blk (Kd.R_ne HO_6.out BK102.out (by decide))) | (dsimp only; exact Kd.own_blk (Kd.R_ne HO_6.out BK102.out (by decide)))) _).trans (hHeld.1)), ((cell_far (p := ⟨gb102, _, none⟩) (by first | exact Kd.own_blk (Kd.R_ne HO_6.out BK102.out (by decide)) | (rw [add_block]; exact Kd.own_blk (Kd.R_ne HO_6.out BK102.out (by decide))) | (show (Addr.add _ _).block ≠ _; rw [add_block]; exact Kd.own_blk (Kd.R_ne HO_6.out BK102.out (by decide))) | (dsimp only; exact Kd.own_blk (Kd.R_ne HO_6.out BK102.out (by decide)))) _).trans (hHeld.2))⟩ (fun hHeld => ?_)
               clear hK K
               refine dn HT_ ?_
               have p119 : 0 ≤ (3 : Int) := (by omega)
               have q119 : 3 < (x6_2.length : Int) := of_decide_eq_true (by first | (with_reducible assumption) | assumption)
               obtain ⟨ad119, e119, hx119_0⟩ := Kd.at_int (Kd.R_reads' HO_6.out).2.2 3 p119 q119
               obtain rfl : ad116 = ad119 := (by injection e119)
               (try simp only [show (3 : Int).toNat = 3 from rfl, Nat.reduceMul, Nat.reduceEqDiff, Go.Addr.add, ↓reduceIte] at hx119_0)
               have qi119 : (3 < x6_2.length) = True := eq_true (by omega)
               (try rw [show ((3 : Int)).toNat = 3 from rfl] at hx119_0)
               have hn119_0 : ad116.block ≠ gb102 := Kd.own_blk (Kd.R_ne HO_6.out BK102.out (by decide))
               replace hx119_0 := (cell_far (p := ⟨gb102, 0, none⟩) (by first | (rw [add_block]; exact hn119_0) | (show (Addr.add _ _).block ≠ _; rw [add_block]; exact hn119_0) | exact hn119_0) (.int .i64 (wrap64 ((wrap64 (100 * (rd x6_2 1))) + (rd x6_2 2))))).trans hx119_0
               clear hn119_0
               replace p119 := eq_true p119
               replace q119 := eq_true q119
               have hcz44_0 : w42.cell? ⟨gb102, 0, none⟩ = some (.int .i64 0) := bc BK102 0
               have hcz44_1 : w42.cell? ⟨gb102, 1, none⟩ = some (.int .i64 x103001_1) := bc BK102 1
               have hcz44_2 : w42.cell? ⟨gb102, 2, none⟩ = some (.int .i64 (rd x6_2 0)) := bc BK102 2
               have hcz44_3 : w42.cell? ⟨gb102, 3, none⟩ = some (.int .i64 0) := bc BK102 3
               have hcz44_4 : w42.cell? ⟨gb102, 4, none⟩ = some (.int .i64 0) := bc BK102 4
               have hcz44_5 : w42.cell? ⟨gb102, 5, none⟩ = some (.int .i64 0) := bc BK102 5
               have hfz44_0 := blk_frozen BK102.out 0
               have hfz44_1 := blk_frozen BK102.out 1
               have hfz44_2 := blk_frozen BK102.out 2
               have hfz44_3 := blk_frozen BK102.out 3
               have hfz44_4 := blk_frozen BK102.out 4
               have hfz44_5 := blk_frozen BK102.out 5
               have p120 : 0 ≤ (4 : Int) := (by omega)
               have q120 : 4 < (x6_2.length : Int) := of_decide_eq_true (by first | (with_reducible assumption) | assumption)
               obtain ⟨ad120, e120, hx120_0⟩ := Kd.at_int (Kd.R_reads' HO_6.out).2.2 4 p120 q120
               obtain rfl : ad116 = ad120 := (by injection e120)
               (try simp only [show (4 : Int).toNat = 4 from rfl, Nat.reduceMul, Nat.reduceEqDiff, Go.Addr.add, ↓reduceIte] at hx120_0)
               have qi120 : (4 < x6_2.length) = True := eq_true (by omega)
               (try rw [show ((4 : Int)).toNat = 4 from rfl] at hx120_0)
               have hn120_0 : ad116.block ≠ gb102 := Kd.own_blk (Kd.R_ne HO_6.out BK102.out (by decide))
               have hn120_1 : ad116.block ≠ gb102 := Kd.own_blk (Kd.R_ne HO_6.out BK102.out (by decide))
               replace hx120_0 := (cell_far (p := ⟨gb102, 0, none⟩) (by first | (rw [add_block]; exact hn120_0) | (show (Addr.add _ _).block ≠ _; rw [add_block]; exact hn120_0) | exact hn120_0) (.int .i64 (wrap64 ((wrap64 (100 * (rd x6_2 1))) + (rd x6_2 2))))).trans hx120_0
               replace hx120_0 := (cell_far (p := ⟨gb102, 3, none⟩) (by first | (rw [add_block]; exact hn120_1) | (show (Addr.add _ _).block ≠ _; rw [add_block]; exact hn120_1) | exact hn120_1) (.int .i64 (rd x6_2 3))).trans hx120_0
               clear hn120_0
               clear hn120_1
               replace p120 := eq_true p120
               replace q120 := eq_true q120
               have p121 : 0 ≤ (5 : Int) := (by omega)
               have q121 : 5 < (x6_2.length : Int) := of_decide_eq_true (by first | (with_reducible assumption) | assumption)
               obtain ⟨ad121, e121, hx121_0⟩ := Kd.at_int (Kd.R_reads' HO_6.out).2.2 5 p121 q121
               obtain rfl : ad116 = ad121 := (by injection e121)
               (try simp only [show (5 : Int).toNat = 5 from rfl, Nat.reduceMul, Nat.reduceEqDiff, Go.Addr.add, ↓reduceIte] at hx121_0)
               have qi121 : (5 < x6_2.length) = True := eq_true (by omega)
               (try rw [show ((5 : Int)).toNat = 5 from rfl] at hx121_0)
               have hn121_0 : ad116.block ≠ gb102 := Kd.own_blk (Kd.R_ne HO_6.out BK102.out (by decide))
               have hn121_1 : ad116.block ≠ gb102 := Kd.own_blk (Kd.R_ne HO_6.out BK102.out (by decide))
               have hn121_2 : ad116.block ≠ gb102 := Kd.own_blk (Kd.R_ne HO_6.out BK102.out (by decide))
               replace hx121_0 := (cell_far (p := ⟨gb102, 0, none⟩) (by first | (rw [add_block]; exact hn121_0) | (show (Addr.add _ _).block ≠ _; rw [add_block]; exact hn121_0) | exact hn121_0) (.int .i64 (wrap64 ((wrap64 (100 * (rd x6_2 1))) + (rd x6_2 2))))).trans hx121_0
               replace hx121_0 := (cell_far (p := ⟨gb102, 3, none⟩) (by first | (rw [add_block]; exact hn121_1) | (show (Addr.add _ _).block ≠ _; rw [add_block]; exact hn121_1) | exact hn121_1) (.int .i64 (rd x6_2 3))).trans hx121_0
               replace hx121_0 := (cell_far (p := ⟨gb102, 4, none⟩) (by first | (rw [add_block]; exact hn121_2) | (show (Addr.add _ _).block ≠ _; rw [add_block]; exact hn121_2) | exact hn121_2) (.int .i64 (rd x6_2 4))).trans hx121_0
               clear hn121_0
               clear hn121_1
               clear hn121_2
               replace p121 := eq_true p121
               replace q121 := eq_true q121
               try go_wp2_with (first | ((with_reducible refine gate_callee (f := 8) rfl ?_); refine goesL_ (some 74) rfl rfl Tryd.func8 (by kernel_rfl) rfl #[.agg #[.int .i64 (wrap64 ((wrap64 (100 * (rd x6_2 1))) + (rd x6_2 2))), .int .i64 x103001_1, .int .i64 (rd x6_2 0), .int .i64 (rd x6_2 3), .int .i64 (rd x6_2 4), .int .i64 (rd x6_2 5)]] rfl mc ?_; (with_reducible refine (spec_ShowDate.calls k2 (wrap64 ((wrap64 (100 * (rd x6_2 1))) + (rd x6_2 2))) x103001_1 (rd x6_2 0) (rd x6_2 3) (rd x6_2 4) (rd x6_2 5) t122 _ A36.out).mono ?_); rintro e w45 ⟨rfl, hb⟩; refine ⟨_, rfl, ?_⟩; replace HO_6 := Aside0.mk (Kd.R_below (by (with_reducible repeat (first | apply Kd.R_alloc | apply Kd.R_drewN | apply Kd.R_drew)); exact (Kd.R_mono (Kd.R_far (p := ⟨gb102, 5, none⟩) (Kd.R_far (p := ⟨gb102, 4, none⟩) (Kd.R_far (p := ⟨gb102, 3, none⟩) (Kd.R_far (p := ⟨gb102, 0, none⟩) (Kd.R_types HO_6.out BK102.out (by decide)) (fun _ hk => hk.2) (.int .i64 (wrap64 ((wrap64 (100 * (rd x6_2 1))) + (rd x6_2 2))))) (fun _ hk => hk.2) (.int .i64 (rd x6_2 3))) (fun _ hk => hk.2) (.int .i64 (rd x6_2 4))) (fun _ hk => hk.2) (.int .i64 (rd x6_2 5))) (fun _ h_ => h_.1))) hb); replace HO_28 := Aside0.mk (Kd.R_below (by (with_reducible repeat (first | apply Kd.R_alloc | apply Kd.R_drewN | apply Kd.R_drew)); exact (Kd.R_mono (Kd.R_far (p := ⟨gb102, 5, none⟩) (Kd.R_far (p := ⟨gb102, 4, none⟩) (Kd.R_far (p := ⟨gb102, 3, none⟩) (Kd.R_far (p := ⟨gb102, 0, none⟩) (Kd.R_types HO_28.out BK102.out (by decide)) (fun _ hk => hk.2) (.int .i64 (wrap64 ((wrap64 (100 * (rd x6_2 1))) + (rd x6_2 2))))) (fun _ hk => hk.2) (.int .i64 (rd x6_2 3))) (fun _ hk => hk.2) (.int .i64 (rd x6_2 4))) (fun _ hk => hk.2) (.int .i64 (rd x6_2 5))) (fun _ h_ => h_.1))) hb); replace BK101 := Aside0.mk (blk_below (g := gb101) (o := .cells #[.int .i64 0, .int .i64 0, .int .i64 0, .int .i64 0, .int .i64 0, .int .i64 0] 25 (0, 0)) bkp hb); replace BK102 := Aside0.mk (blk_below (g := gb102) (o := .cells #[.int .i64 (wrap64 ((wrap64 (100 * (rd x6_2 1))) + (rd x6_2 2))), .int .i64 x103001_1, .int .i64 (rd x6_2 0), .int .i64 (rd x6_2 3), .int .i64 (rd x6_2 4), .int .i64 (rd x6_2 5)] 25 (0, 0)) bkp hb); replace HB := Aside0.mk (below_step bh hb); (try clear hb); (try clear hb2); (try clear hk); (try clear hi); have hcz46_0 : w45.cell? ⟨gb102, 0, none⟩ = some (.int .i64 (wrap64 ((wrap64 (100 * (rd x6_2 1))) + (rd x6_2 2)))) := bc BK102 0; have hcz46_1 : w45.cell? ⟨gb102, 1, none⟩ = some (.int .i64 x103001_1) := bc BK102 1; have hcz46_2 : w45.cell? ⟨gb102, 2, none⟩ = some (.int .i64 (rd x6_2 0)) := bc BK102 2; have hcz46_3 : w45.cell? ⟨gb102, 3, none⟩ = some (.int .i64 (rd x6_2 3)) := bc BK102 3; have hcz46_4 : w45.cell? ⟨gb102, 4, none⟩ = some (.int .i64 (rd x6_2 4)) := bc BK102 4; have hcz46_5 : w45.cell? ⟨gb102, 5, none⟩ = some (.int .i64 (rd x6_2 5)) := bc BK102 5; have hfz46_0 := blk_frozen BK102.out 0; have hfz46_1 := blk_frozen BK102.out 1; have hfz46_2 := blk_frozen BK102.out 2; have hfz46_3 := blk_frozen BK102.out 3; have hfz46_4 := blk_frozen BK102.out 4; have hfz46_5 := blk_frozen BK102.out 5; have hcz47_0 : w45.cell? ⟨gb101, 0, none⟩ = some (.int .i64 0) := bc BK101 0; have hcz47_1 : w45.cell? ⟨gb101, 1, none⟩ = some (.int .i64 0) := bc BK101 1; have hcz47_2 : w45.cell? ⟨gb101, 2, none⟩ = some (.int .i64 0) := bc BK101 2; have hcz47_3 : w45.cell? ⟨gb101, 3, none⟩ = some (.int .i64 0) := bc BK101 3; have hcz47_4 : w45.cell? ⟨gb101, 4, none⟩ = some (.int .i64 0) := bc BK101 4; have hcz47_5 : w45.cell? ⟨gb101, 5, none⟩ = some (.int .i64 0) := bc BK101 5; have hfz47_0 := blk_frozen BK101.out 0; have hfz47_1 := blk_frozen BK101.out 1; have hfz47_2 := blk_frozen BK101.out 2; have hfz47_3 := blk_frozen BK101.out 3; have hfz47_4 := blk_frozen BK101.out 4; have hfz47_5 := blk_frozen BK101.out 5))
               refine bodyPost_ret (results_ct rfl _ _ gb101 25 #[.int .i64 (wrap64 ((wrap64 (100 * (rd x6_2 1))) + (rd x6_2 2))), .int .i64 x103001_1, .int .i64 (rd x6_2 0), .int .i64 (rd x6_2 3), .int .i64 (rd x6_2 4), .int .i64 (rd x6_2 5)] (0, 0) _ rfl bkp Tryd.underlying25 rfl (by kernel_rfl)) rfl ?_
               exact ⟨er, bh⟩
              ·
               rw [if_neg c37] at H
               have c37b0 : (t122.toList == a0.toList) = false := beq_eq_false_iff_ne.mpr c37
               have c37b1 : (t122.toList != a0.toList) = true := bne_iff_ne.mpr c37
               simp only [Option.some.injEq, Prod.mk.injEq] at H
               obtain ⟨rfl, rfl, rfl, rfl, rfl, rfl, rfl⟩ := H
               obtain ⟨Ao48, co48, eo48⟩ := Kd.R_slice HO_6.out
               subst eo48
               have p116 : 0 ≤ (0 : Int) := (by omega)
               have q116 : 0 < (x6_2.length : Int) := of_decide_eq_true (by first | (with_reducible assumption) | assumption)
               obtain ⟨ad116, e116, hx116_0⟩ := Kd.at_int (Kd.R_reads' HO_6.out).2.2 0 p116 q116
               cases e116
               have qi116 : (0 < x6_2.length) = True := eq_true (by omega)
               (try rw [show ((0 : Int)).toNat = 0 from rfl] at hx116_0)
               (try rw [Addr.add_zero'] at hx116_0)
               replace p116 := eq_true p116
               replace q116 := eq_true q116
               have hnb49 := NB102_101.out
               have hnc49 := NB101_102.out
               have hcz50_0 : wr.cell? ⟨gb102, 0, none⟩ = some (.int .i64 0) := bc BK102 0
               have hcz50_1 : wr.cell? ⟨gb102, 1, none⟩ = some (.int .i64 x103001_1) := bc BK102 1
               have hcz50_2 : wr.cell? ⟨gb102, 2, none⟩ = some (.int .i64 0) := bc BK102 2
               have hcz50_3 : wr.cell? ⟨gb102, 3, none⟩ = some (.int .i64 0) := bc BK102 3
               have hcz50_4 : wr.cell? ⟨gb102, 4, none⟩ = some (.int .i64 0) := bc BK102 4
               have hcz50_5 : wr.cell? ⟨gb102, 5, none⟩ = some (.int .i64 0) := bc BK102 5
               have hfz50_0 := blk_frozen BK102.out 0
               have hfz50_1 := blk_frozen BK102.out 1
               have hfz50_2 := blk_frozen BK102.out 2
               have hfz50_3 := blk_frozen BK102.out 3
               have hfz50_4 := blk_frozen BK102.out 4
               have hfz50_5 := blk_frozen BK102.out 5
               try go_wp2
               have n0_ : Aside0 (Kd.R (Kd.int .i64) 2 (wr.setCell ⟨gb102, 2, none⟩ (.int .i64 (rd x6_2 0))) w.heap.size (fun _ => True) (.slice (some ad116) x6_2.length co48) x6_2) := ⟨by (with_reducible repeat (first | apply Kd.R_alloc | apply Kd.R_drewN | apply Kd.R_drew)); exact Kd.R_mono (Kd.R_far (p := ⟨gb102, 2, none⟩) (Kd.R_types HO_6.out BK102.out (by decide)) (fun _ hk => hk.2) (.int .i64 (rd x6_2 0))) (fun _ hk => trivial)⟩
               have n1_ : Aside0 (Kd.R (Kd.int .i64) 3 (wr.setCell ⟨gb102, 2, none⟩ (.int .i64 (rd x6_2 0))) w.heap.size (fun _ => True) (.slice Ao20 y107.length co20) y107) := ⟨by (with_reducible repeat (first | apply Kd.R_alloc | apply Kd.R_drewN | apply Kd.R_drew)); exact Kd.R_mono (Kd.R_far (p := ⟨gb102, 2, none⟩) (Kd.R_types HO_28.out BK102.out (by decide)) (fun _ hk => hk.2) (.int .i64 (rd x6_2 0))) (fun _ hk => trivial)⟩
               have n2_ : Aside0 ((wr.setCell ⟨gb102, 2, none⟩ (.int .i64 (rd x6_2 0))).heap[gb101]? = some (.cells #[.int .i64 0, .int .i64 0, .int .i64 0, .int .i64 0, .int .i64 0, .int .i64 0] 25 (0, 0))) := ⟨by (with_reducible repeat (first | refine blk_drewN ?_ _ | refine blk_drew ?_ | refine blk_alloc ?_ _)); refine blk_far ?_ NB101_102.out _; (with_reducible repeat (first | refine blk_drewN ?_ _ | refine blk_drew ?_ | refine blk_alloc ?_ _)); exact BK101.out⟩
               have n3_ : Aside0 ((wr.setCell ⟨gb102, 2, none⟩ (.int .i64 (rd x6_2 0))).heap[gb102]? = some (.cells #[.int .i64 0, .int .i64 x103001_1, .int .i64 (rd x6_2 0), .int .i64 0, .int .i64 0, .int .i64 0] 25 (0, 0))) := ⟨by (with_reducible repeat (first | refine blk_drewN ?_ _ | refine blk_drew ?_ | refine blk_alloc ?_ _)); refine blk_put (cs := #[.int .i64 0, .int .i64 x103001_1, .int .i64 0, .int .i64 0, .int .i64 0, .int .i64 0]) ?_ 2 _ rfl; (with_reducible repeat (first | refine blk_drewN ?_ _ | refine blk_drew ?_ | refine blk_alloc ?_ _)); exact BK102.out⟩
               have n4_ : Aside0 (Below w.heap.size w (wr.setCell ⟨gb102, 2, none⟩ (.int .i64 (rd x6_2 0)))) := ⟨bh⟩
               (try clear HO_6)
               (try clear HO_28)
               (try clear BK101)
               (try clear BK102)
               (try clear HB)
               generalize (wr.setCell ⟨gb102, 2, none⟩ (.int .i64 (rd x6_2 0))) = w51 at n0_ n1_ n2_ n3_ n4_ ⊢
               have HO_6 := n0_
               have HO_28 := n1_
               have BK101 := n2_
               have BK102 := n3_
               have HB := n4_
               clear n0_ n1_ n2_ n3_ n4_
               replace HO_6 := Aside0.mk (Kd.R_drew HO_6.out)
               replace HO_28 := Aside0.mk (Kd.R_drew HO_28.out)
               replace BK101 := Aside0.mk (blk_drew BK101.out)
               replace BK102 := Aside0.mk (blk_drew BK102.out)
               replace HB := Aside0.mk (below_drew1 HB.out)
               have p117 : 0 ≤ (1 : Int) := (by omega)
               have q117 : 1 < (x6_2.length : Int) := of_decide_eq_true (by first | (with_reducible assumption) | assumption)
               obtain ⟨ad117, e117, hx117_0⟩ := Kd.at_int (Kd.R_reads' HO_6.out).2.2 1 p117 q117
               obtain rfl : ad116 = ad117 := (by injection e117)
               (try simp only [show (1 : Int).toNat = 1 from rfl, Nat.reduceMul, Nat.reduceEqDiff, Go.Addr.add, ↓reduceIte] at hx117_0)
               have qi117 : (1 < x6_2.length) = True := eq_true (by omega)
               (try rw [show ((1 : Int)).toNat = 1 from rfl] at hx117_0)
               replace p117 := eq_true p117
               replace q117 := eq_true q117
               have p118 : 0 ≤ (2 : Int) := (by omega)
               have q118 : 2 < (x6_2.length : Int) := of_decide_eq_true (by first | (with_reducible assumption) | assumption)
               obtain ⟨ad118, e118, hx118_0⟩ := Kd.at_int (Kd.R_reads' HO_6.out).2.2 2 p118 q118
               obtain rfl : ad116 = ad118 := (by injection e118)
               (try simp only [show (2 : Int).toNat = 2 from rfl, Nat.reduceMul, Nat.reduceEqDiff, Go.Addr.add, ↓reduceIte] at hx118_0)
               have qi118 : (2 < x6_2.length) = True := eq_true (by omega)
               (try rw [show ((2 : Int)).toNat = 2 from rfl] at hx118_0)
               replace p118 := eq_true p118
               replace q118 := eq_true q118
               refine start_ (n := 10) (S := fun w' => w'.cell? ⟨ad116.block, ad116.off + 1, none⟩ = some (.int .i64 (rd x6_2 1)) ∧ w'.cell? ⟨ad116.block, ad116.off + 2, none⟩ = some (.int .i64 (rd x6_2 2))) (ds := []) spec_ReadDate.d0 (by kernel_rfl) rfl rfl ⟨hx117_0, hx118_0⟩ (fun hHeld => ?_); refine with_tabW spec_ReadDate.tab17 spec_ReadDate.bits17 (fun HT_ HW_ => ?_)
               generalize w51.drew = w52 at HO_6 HO_28 BK101 BK102 HB hx117_0 hx118_0 hHeld ⊢
               refine pu 0 52 spec_ReadDate.d1 HT_ ?_
               refine pu 1 53 spec_ReadDate.d2 HT_ ?_
               refine pu 4 56 spec_ReadDate.d3 HT_ ?_
               refine pu 5 57 spec_ReadDate.d4 HT_ ?_
               refine tk 2 54 spec_ReadDate.d5 HT_ HW_ hHeld ?_
               refine pu 3 55 spec_ReadDate.d6 HT_ ?_
               refine tk 6 58 spec_ReadDate.d7 HT_ HW_ hHeld ?_
               refine pu 7 59 spec_ReadDate.d8 HT_ ?_
               refine pu 8 60 spec_ReadDate.d9 HT_ ?_
               refine one_ (i := 9) (N := none) spec_ReadDate.d10 rfl rfl (one_of HT_.out (by kernel_rfl)) (by decide) (fun K hK => ?_)
               have hs53 : w52.cell? ⟨gb102, 0, none⟩ = some (.int .i64 0) := bc BK102 0
               have hfs53 := blk_frozen BK102.out 0
               have hns53_0 := NB101_102.out
               have hms53_0 := NB102_101.out
               refine skip_ (w1 := ?_) (by rfl) rfl ?_ ?_
               rotate_left
               ·
                go_simp
                rfl
               refine hK.out _ _ ⟨((cell_far (p := ⟨gb102, _, none⟩) (by first | exact Kd.own_blk (Kd.R_ne HO_6.out BK102.out (by decide)) | (rw [add_block]; exact Kd.own_blk (Kd.R_ne HO_6.out BK102.out (by decide))) | (show (Addr.add _ _).block ≠ _; rw [add_block]; exact Kd.own_blk (Kd.R_ne HO_6.out BK102.out (by decide))) | (dsimp only; exact Kd.own_blk (Kd.R_ne HO_6.out BK102.out (by decide)))) _).trans (hHeld.1)), ((cell_far (p := ⟨gb102, _, none⟩) (by first | exact Kd.own_blk (Kd.R_ne HO_6.out BK102.out (by decide)) | (rw [add_block]; exact Kd.own_blk (Kd.R_ne HO_6.out BK102.out (by decide))) | (show (Addr.add _ _).block ≠ _; rw [add_block]; exact Kd.own_blk (Kd.R_ne HO_6.out BK102.out (by decide))) | (dsimp only; exact Kd.own_blk (Kd.R_ne HO_6.out BK102.out (by decide)))) _).trans (hHeld.2))⟩ (fun hHeld => ?_)
               clear hK K
               refine dn HT_ ?_
               have p119 : 0 ≤ (3 : Int) := (by omega)
               have q119 : 3 < (x6_2.length : Int) := of_decide_eq_true (by first | (with_reducible assumption) | assumption)
               obtain ⟨ad119, e119, hx119_0⟩ := Kd.at_int (Kd.R_reads' HO_6.out).2.2 3 p119 q119
               obtain rfl : ad116 = ad119 := (by injection e119)
               (try simp only [show (3 : Int).toNat = 3 from rfl, Nat.reduceMul, Nat.reduceEqDiff, Go.Addr.add, ↓reduceIte] at hx119_0)
               have qi119 : (3 < x6_2.length) = True := eq_true (by omega)
               (try rw [show ((3 : Int)).toNat = 3 from rfl] at hx119_0)
               have hn119_0 : ad116.block ≠ gb102 := Kd.own_blk (Kd.R_ne HO_6.out BK102.out (by decide))
               replace hx119_0 := (cell_far (p := ⟨gb102, 0, none⟩) (by first | (rw [add_block]; exact hn119_0) | (show (Addr.add _ _).block ≠ _; rw [add_block]; exact hn119_0) | exact hn119_0) (.int .i64 (wrap64 ((wrap64 (100 * (rd x6_2 1))) + (rd x6_2 2))))).trans hx119_0
               clear hn119_0
               replace p119 := eq_true p119
               replace q119 := eq_true q119
               have hcz54_0 : w52.cell? ⟨gb102, 0, none⟩ = some (.int .i64 0) := bc BK102 0
               have hcz54_1 : w52.cell? ⟨gb102, 1, none⟩ = some (.int .i64 x103001_1) := bc BK102 1
               have hcz54_2 : w52.cell? ⟨gb102, 2, none⟩ = some (.int .i64 (rd x6_2 0)) := bc BK102 2
               have hcz54_3 : w52.cell? ⟨gb102, 3, none⟩ = some (.int .i64 0) := bc BK102 3
               have hcz54_4 : w52.cell? ⟨gb102, 4, none⟩ = some (.int .i64 0) := bc BK102 4
               have hcz54_5 : w52.cell? ⟨gb102, 5, none⟩ = some (.int .i64 0) := bc BK102 5
               have hfz54_0 := blk_frozen BK102.out 0
               have hfz54_1 := blk_frozen BK102.out 1
               have hfz54_2 := blk_frozen BK102.out 2
               have hfz54_3 := blk_frozen BK102.out 3
               have hfz54_4 := blk_frozen BK102.out 4
               have hfz54_5 := blk_frozen BK102.out 5
               have p120 : 0 ≤ (4 : Int) := (by omega)
               have q120 : 4 < (x6_2.length : Int) := of_decide_eq_true (by first | (with_reducible assumption) | assumption)
               obtain ⟨ad120, e120, hx120_0⟩ := Kd.at_int (Kd.R_reads' HO_6.out).2.2 4 p120 q120
               obtain rfl : ad116 = ad120 := (by injection e120)
               (try simp only [show (4 : Int).toNat = 4 from rfl, Nat.reduceMul, Nat.reduceEqDiff, Go.Addr.add, ↓reduceIte] at hx120_0)
               have qi120 : (4 < x6_2.length) = True := eq_true (by omega)
               (try rw [show ((4 : Int)).toNat = 4 from rfl] at hx120_0)
               have hn120_0 : ad116.block ≠ gb102 := Kd.own_blk (Kd.R_ne HO_6.out BK102.out (by decide))
               have hn120_1 : ad116.block ≠ gb102 := Kd.own_blk (Kd.R_ne HO_6.out BK102.out (by decide))
               replace hx120_0 := (cell_far (p := ⟨gb102, 0, none⟩) (by first | (rw [add_block]; exact hn120_0) | (show (Addr.add _ _).block ≠ _; rw [add_block]; exact hn120_0) | exact hn120_0) (.int .i64 (wrap64 ((wrap64 (100 * (rd x6_2 1))) + (rd x6_2 2))))).trans hx120_0
               replace hx120_0 := (cell_far (p := ⟨gb102, 3, none⟩) (by first | (rw [add_block]; exact hn120_1) | (show (Addr.add _ _).block ≠ _; rw [add_block]; exact hn120_1) | exact hn120_1) (.int .i64 (rd x6_2 3))).trans hx120_0
               clear hn120_0
               clear hn120_1
               replace p120 := eq_true p120
               replace q120 := eq_true q120
               have p121 : 0 ≤ (5 : Int) := (by omega)
               have q121 : 5 < (x6_2.length : Int) := of_decide_eq_true (by first | (with_reducible assumption) | assumption)
               obtain ⟨ad121, e121, hx121_0⟩ := Kd.at_int (Kd.R_reads' HO_6.out).2.2 5 p121 q121
               obtain rfl : ad116 = ad121 := (by injection e121)
               (try simp only [show (5 : Int).toNat = 5 from rfl, Nat.reduceMul, Nat.reduceEqDiff, Go.Addr.add, ↓reduceIte] at hx121_0)
               have qi121 : (5 < x6_2.length) = True := eq_true (by omega)
               (try rw [show ((5 : Int)).toNat = 5 from rfl] at hx121_0)
               have hn121_0 : ad116.block ≠ gb102 := Kd.own_blk (Kd.R_ne HO_6.out BK102.out (by decide))
               have hn121_1 : ad116.block ≠ gb102 := Kd.own_blk (Kd.R_ne HO_6.out BK102.out (by decide))
               have hn121_2 : ad116.block ≠ gb102 := Kd.own_blk (Kd.R_ne HO_6.out BK102.out (by decide))
               replace hx121_0 := (cell_far (p := ⟨gb102, 0, none⟩) (by first | (rw [add_block]; exact hn121_0) | (show (Addr.add _ _).block ≠ _; rw [add_block]; exact hn121_0) | exact hn121_0) (.int .i64 (wrap64 ((wrap64 (100 * (rd x6_2 1))) + (rd x6_2 2))))).trans hx121_0
               replace hx121_0 := (cell_far (p := ⟨gb102, 3, none⟩) (by first | (rw [add_block]; exact hn121_1) | (show (Addr.add _ _).block ≠ _; rw [add_block]; exact hn121_1) | exact hn121_1) (.int .i64 (rd x6_2 3))).trans hx121_0
               replace hx121_0 := (cell_far (p := ⟨gb102, 4, none⟩) (by first | (rw [add_block]; exact hn121_2) | (show (Addr.add _ _).block ≠ _; rw [add_block]; exact hn121_2) | exact hn121_2) (.int .i64 (rd x6_2 4))).trans hx121_0
               clear hn121_0
               clear hn121_1
               clear hn121_2
               replace p121 := eq_true p121
               replace q121 := eq_true q121
               try go_wp2_with (first | ((with_reducible refine gate_callee (f := 8) rfl ?_); refine goesL_ (some 74) rfl rfl Tryd.func8 (by kernel_rfl) rfl #[.agg #[.int .i64 (wrap64 ((wrap64 (100 * (rd x6_2 1))) + (rd x6_2 2))), .int .i64 x103001_1, .int .i64 (rd x6_2 0), .int .i64 (rd x6_2 3), .int .i64 (rd x6_2 4), .int .i64 (rd x6_2 5)]] rfl mc ?_; (with_reducible refine (spec_ShowDate.calls k2 (wrap64 ((wrap64 (100 * (rd x6_2 1))) + (rd x6_2 2))) x103001_1 (rd x6_2 0) (rd x6_2 3) (rd x6_2 4) (rd x6_2 5) t122 _ A36.out).mono ?_); rintro e w55 ⟨rfl, hb⟩; refine ⟨_, rfl, ?_⟩; replace HO_6 := Aside0.mk (Kd.R_below (by (with_reducible repeat (first | apply Kd.R_alloc | apply Kd.R_drewN | apply Kd.R_drew)); exact (Kd.R_mono (Kd.R_far (p := ⟨gb102, 5, none⟩) (Kd.R_far (p := ⟨gb102, 4, none⟩) (Kd.R_far (p := ⟨gb102, 3, none⟩) (Kd.R_far (p := ⟨gb102, 0, none⟩) (Kd.R_types HO_6.out BK102.out (by decide)) (fun _ hk => hk.2) (.int .i64 (wrap64 ((wrap64 (100 * (rd x6_2 1))) + (rd x6_2 2))))) (fun _ hk => hk.2) (.int .i64 (rd x6_2 3))) (fun _ hk => hk.2) (.int .i64 (rd x6_2 4))) (fun _ hk => hk.2) (.int .i64 (rd x6_2 5))) (fun _ h_ => h_.1))) hb); replace HO_28 := Aside0.mk (Kd.R_below (by (with_reducible repeat (first | apply Kd.R_alloc | apply Kd.R_drewN | apply Kd.R_drew)); exact (Kd.R_mono (Kd.R_far (p := ⟨gb102, 5, none⟩) (Kd.R_far (p := ⟨gb102, 4, none⟩) (Kd.R_far (p := ⟨gb102, 3, none⟩) (Kd.R_far (p := ⟨gb102, 0, none⟩) (Kd.R_types HO_28.out BK102.out (by decide)) (fun _ hk => hk.2) (.int .i64 (wrap64 ((wrap64 (100 * (rd x6_2 1))) + (rd x6_2 2))))) (fun _ hk => hk.2) (.int .i64 (rd x6_2 3))) (fun _ hk => hk.2) (.int .i64 (rd x6_2 4))) (fun _ hk => hk.2) (.int .i64 (rd x6_2 5))) (fun _ h_ => h_.1))) hb); replace BK101 := Aside0.mk (blk_below (g := gb101) (o := .cells #[.int .i64 0, .int .i64 0, .int .i64 0, .int .i64 0, .int .i64 0, .int .i64 0] 25 (0, 0)) bkp hb); replace BK102 := Aside0.mk (blk_below (g := gb102) (o := .cells #[.int .i64 (wrap64 ((wrap64 (100 * (rd x6_2 1))) + (rd x6_2 2))), .int .i64 x103001_1, .int .i64 (rd x6_2 0), .int .i64 (rd x6_2 3), .int .i64 (rd x6_2 4), .int .i64 (rd x6_2 5)] 25 (0, 0)) bkp hb); replace HB := Aside0.mk (below_step bh hb); (try clear hb); (try clear hb2); (try clear hk); (try clear hi); have hcz56_0 : w55.cell? ⟨gb101, 0, none⟩ = some (.int .i64 0) := bc BK101 0; have hcz56_1 : w55.cell? ⟨gb101, 1, none⟩ = some (.int .i64 0) := bc BK101 1; have hcz56_2 : w55.cell? ⟨gb101, 2, none⟩ = some (.int .i64 0) := bc BK101 2; have hcz56_3 : w55.cell? ⟨gb101, 3, none⟩ = some (.int .i64 0) := bc BK101 3; have hcz56_4 : w55.cell? ⟨gb101, 4, none⟩ = some (.int .i64 0) := bc BK101 4; have hcz56_5 : w55.cell? ⟨gb101, 5, none⟩ = some (.int .i64 0) := bc BK101 5; have hfz56_0 := blk_frozen BK101.out 0; have hfz56_1 := blk_frozen BK101.out 1; have hfz56_2 := blk_frozen BK101.out 2; have hfz56_3 := blk_frozen BK101.out 3; have hfz56_4 := blk_frozen BK101.out 4; have hfz56_5 := blk_frozen BK101.out 5))
               refine bodyPost_ret (results_ct rfl _ _ gb101 25 #[.int .i64 0, .int .i64 0, .int .i64 0, .int .i64 0, .int .i64 0, .int .i64 0] (0, 0) _ rfl bkp Tryd.underlying25 rfl (by kernel_rfl)) rfl ?_
               exact ⟨er, bh⟩
             ·
              rw [if_neg c35] at H
              exact absurd H (by simp)
            ·
             rw [if_neg c34] at H
             exact absurd H (by simp)
           ·
            rw [if_neg c33] at H
            exact absurd H (by simp)
          ·
           rw [if_neg c32] at H
           exact absurd H (by simp)
         ·
          rw [if_neg c31] at H
          exact absurd H (by simp)
        ·
         rw [if_neg c30] at H
         exact absurd H (by simp)
 ·
  rw [if_neg c2] at H
  have c2b0 : ((a0.size : Int) == 29) = false := beq_eq_false_iff_ne.mpr c2
  have c2b1 : ((a0.size : Int) != 29) = true := bne_iff_ne.mpr c2
  simp only [Option.some.injEq, Prod.mk.injEq] at H
  obtain ⟨rfl, rfl, rfl, rfl, rfl, rfl, rfl⟩ := H
  go_enter Tryd.func11, Tryd.ntmps11
  go_wp2_with (first | ((with_reducible refine gate_dst (N := 2) rfl ?_); refine bx 2 #[.int .i64 0, .int .i64 0, .int .i64 0, .int .i64 0, .int .i64 0, .int .i64 0] 25 ?_; intro gb101 hg w57 hbox hb; have BK101 := Aside0.mk (hbox); have GW101 := Aside0.mk (bz hg); have GE101 := Aside0.mk (bz hg); replace HB := Aside0.mk (below_step bh hb); clear hb hbox hg; have hcz58_0 : w57.cell? ⟨gb101, 0, none⟩ = some (.int .i64 0) := bc BK101 0; have hcz58_1 : w57.cell? ⟨gb101, 1, none⟩ = some (.int .i64 0) := bc BK101 1; have hcz58_2 : w57.cell? ⟨gb101, 2, none⟩ = some (.int .i64 0) := bc BK101 2; have hcz58_3 : w57.cell? ⟨gb101, 3, none⟩ = some (.int .i64 0) := bc BK101 3; have hcz58_4 : w57.cell? ⟨gb101, 4, none⟩ = some (.int .i64 0) := bc BK101 4; have hcz58_5 : w57.cell? ⟨gb101, 5, none⟩ = some (.int .i64 0) := bc BK101 5; have hfz58_0 := blk_frozen BK101.out 0; have hfz58_1 := blk_frozen BK101.out 1; have hfz58_2 := blk_frozen BK101.out 2; have hfz58_3 := blk_frozen BK101.out 3; have hfz58_4 := blk_frozen BK101.out 4; have hfz58_5 := blk_frozen BK101.out 5))
  refine bodyPost_ret (results_ct rfl _ _ gb101 25 #[.int .i64 0, .int .i64 0, .int .i64 0, .int .i64 0, .int .i64 0, .int .i64 0] (0, 0) _ rfl bkp Tryd.underlying25 rfl (by kernel_rfl)) rfl ?_
  exact ⟨er, bh⟩
/-! ### laws_FnExactReadDate: function 4 -/
def laws_FnExactReadDate.f (k : Nat) (a0 : ByteArray) : Option (Bool) := if (a0.size : Int) > 1048576 then (some true) else ((spec_ReadDate.f k a0).bind fun bt101 => ((impl_ReadDate.f a0).bind fun bt109 => ((laws_eqDate.f bt109.1 bt109.2.1 bt109.2.2.1 bt109.2.2.2.1 bt109.2.2.2.2.1 bt109.2.2.2.2.2.1 bt101.1 bt101.2.1 bt101.2.2.1 bt101.2.2.2.1 bt101.2.2.2.2.1 bt101.2.2.2.2.2.1).bind fun t117 => (if t117 = true then (if (bt109.2.2.2.2.2.2 != bt101.2.2.2.2.2.2) = true then (some false) else (some true)) else (some false)))))
theorem laws_FnExactReadDate.mono : ∀ a0 k, LeO (laws_FnExactReadDate.f k a0) (laws_FnExactReadDate.f (k + 1) a0) := by
 intro a0 k
 unfold laws_FnExactReadDate.f
 repeat' first
   | (with_reducible exact spec_ReadDate.mono _ _)
   | (with_reducible exact LeO.refl _)
   | (with_reducible exact LeO.none _)
   | (with_reducible refine LeO.ite ?_ ?_)
   | (with_reducible refine LeO.bind ?_ (fun _ => ?_))
   | exact spec_ReadDate.mono _ _
   | exact LeO.none _
   | refine LeO.ite ?_ ?_
   | refine LeO.bind ?_ (fun _ => ?_)
set_option maxHeartbeats 8000000 in
set_option maxRecDepth 100000 in
theorem laws_FnExactReadDate.calls (k : Nat) (a0 : ByteArray) (r : Bool) (w : World) (hX : XW 7 w) (h : laws_FnExactReadDate.f k a0 = some r) :
  Calls Tryd.prog 4 #[.string a0] w fun e w' => e = .returned (.bool r) ∧ Below w.heap.size w w' := by
 have hu25 := Tryd.underlying25
 have HB := Aside0.mk (Below.refl w.heap.size w)
 have H : (if (a0.size : Int) > 1048576 then (some true) else ((spec_ReadDate.f k a0).bind fun bt101 => ((impl_ReadDate.f a0).bind fun bt109 => ((laws_eqDate.f bt109.1 bt109.2.1 bt109.2.2.1 bt109.2.2.2.1 bt109.2.2.2.2.1 bt109.2.2.2.2.2.1 bt101.1 bt101.2.1 bt101.2.2.1 bt101.2.2.2.1 bt101.2.2.2.2.1 bt101.2.2.2.2.2.1).bind fun t117 => (if t117 = true then (if (bt109.2.2.2.2.2.2 != bt101.2.2.2.2.2.2) = true then (some false) else (some true)) else (some false)))))) = some r := h
 clear h
 by_cases c2 : (a0.size : Int) > 1048576
 ·
  rw [if_pos c2] at H
  have c2b0 : decide (1048576 < (a0.size : Int)) = true := decide_eq_true c2
  have c2b1 : decide (1048576 < a0.size) = true := decide_eq_true (by omega)
  clear c2
  obtain rfl := Option.some.inj H
  go_enter Tryd.func4, Tryd.ntmps4
  go_wp2
  go_ret
  exact ⟨er, bh⟩
 ·
  rw [if_neg c2] at H
  have c2b0 : decide (1048576 < (a0.size : Int)) = false := decide_eq_false c2
  have c2b1 : decide (1048576 < a0.size) = false := decide_eq_false (by omega)
  clear c2
  obtain ⟨⟨t101, t102, t103, t104, t105, t106, t107⟩, A30, H⟩ := Option.bind_eq_some_iff.mp H
  try dsimp only at H
  have A3 := Aside0.mk A30
  clear A30
  obtain ⟨⟨t109, t110, t111, t112, t113, t114, t115⟩, A40, H⟩ := Option.bind_eq_some_iff.mp H
  try dsimp only at H
  have A4 := Aside0.mk A40
  clear A40
  obtain ⟨t117, A50, H⟩ := Option.bind_eq_some_iff.mp H
  try dsimp only at H
  have A5 := Aside0.mk A50
  clear A50
  by_cases c6 : t117 = true
  ·
   subst c6
   rw [if_pos rfl] at H
   by_cases c7 : (t115 != t107) = true
   ·
    rw [if_pos c7] at H
    have c7b0 : (t115 != t107) = true := c7
    (try (have c7b1 : decide (t115 = t107) = false := by simpa using c7))
    (try (have c7b2 : (t115 == t107) = false := by simpa using c7))
    (try (have c7b3 : ¬ (t115 = t107) := by simpa using c7))
    clear c7
    obtain rfl := Option.some.inj H
    go_enter Tryd.func4, Tryd.ntmps4
    go_wp2_with (first | ((with_reducible refine gate_callee (f := 11) rfl ?_); refine goesL_ (some 12) rfl rfl Tryd.func11 (by kernel_rfl) rfl #[.string a0] rfl mc ?_; (with_reducible refine (spec_ReadDate.calls k a0 t101 t102 t103 t104 t105 t106 t107 _ A3.out).mono ?_); rintro e w8 ⟨rfl, hb⟩; refine ⟨_, rfl, ?_⟩; replace HB := Aside0.mk (below_step bh hb); (try clear hb); (try clear hb2); (try clear hk); (try clear hi)) | ((with_reducible refine gate_dst (N := 3) rfl ?_); refine bx 3 #[.int .i64 0, .int .i64 0, .int .i64 0, .int .i64 0, .int .i64 0, .int .i64 0] 25 ?_; intro gb108 hg w9 hbox hb; have BK108 := Aside0.mk (hbox); have GW108 := Aside0.mk (bz hg); have GE108 := Aside0.mk (bz hg); replace HB := Aside0.mk (below_step bh hb); clear hb hbox hg; have hcz10_0 : w9.cell? ⟨gb108, 0, none⟩ = some (.int .i64 0) := bc BK108 0; have hcz10_1 : w9.cell? ⟨gb108, 1, none⟩ = some (.int .i64 0) := bc BK108 1; have hcz10_2 : w9.cell? ⟨gb108, 2, none⟩ = some (.int .i64 0) := bc BK108 2; have hcz10_3 : w9.cell? ⟨gb108, 3, none⟩ = some (.int .i64 0) := bc BK108 3; have hcz10_4 : w9.cell? ⟨gb108, 4, none⟩ = some (.int .i64 0) := bc BK108 4; have hcz10_5 : w9.cell? ⟨gb108, 5, none⟩ = some (.int .i64 0) := bc BK108 5; have hfz10_0 := blk_frozen BK108.out 0; have hfz10_1 := blk_frozen BK108.out 1; have hfz10_2 := blk_frozen BK108.out 2; have hfz10_3 := blk_frozen BK108.out 3; have hfz10_4 := blk_frozen BK108.out 4; have hfz10_5 := blk_frozen BK108.out 5) | ((with_reducible refine gate_callee (f := 12) rfl ?_); refine goesL_ (some 17) rfl rfl Tryd.func12 (by kernel_rfl) rfl #[.string a0] rfl mc ?_; (with_reducible refine (impl_ReadDate.calls a0 t109 t110 t111 t112 t113 t114 t115 _ ?side1 A4.out).mono ?_); (case side1 => exact XW.to (XW.stays hX bh) (by decide)); rintro e w11 ⟨rfl, hb⟩; refine ⟨_, rfl, ?_⟩; replace BK108 := Aside0.mk (blk_below (g := gb108) (o := .cells #[.int .i64 t101, .int .i64 t102, .int .i64 t103, .int .i64 t104, .int .i64 t105, .int .i64 t106] 25 (0, 0)) bkp hb); replace HB := Aside0.mk (below_step bh hb); (try clear hb); (try clear hb2); (try clear hk); (try clear hi)) | ((with_reducible refine gate_dst (N := 5) rfl ?_); refine bx 5 #[.int .i64 0, .int .i64 0, .int .i64 0, .int .i64 0, .int .i64 0, .int .i64 0] 25 ?_; intro gb116 hg w12 hbox hb; have BK116 := Aside0.mk (hbox); have GW116 := Aside0.mk (bz hg); have GE116 := Aside0.mk (bz hg); have NB108_116 := Aside0.mk ((nl (o := .cells #[.int .i64 t101, .int .i64 t102, .int .i64 t103, .int .i64 t104, .int .i64 t105, .int .i64 t106] 25 (0, 0)) hg bk : gb108 ≠ gb116)); have NB116_108 := Aside0.mk ((ng (o := .cells #[.int .i64 t101, .int .i64 t102, .int .i64 t103, .int .i64 t104, .int .i64 t105, .int .i64 t106] 25 (0, 0)) hg bk : gb116 ≠ gb108)); replace BK108 := Aside0.mk (blk_below (g := gb108) (o := .cells #[.int .i64 t101, .int .i64 t102, .int .i64 t103, .int .i64 t104, .int .i64 t105, .int .i64 t106] 25 (0, 0)) bk hb); replace HB := Aside0.mk (below_step bh hb); clear hb hbox hg; have hnb13 := NB116_108.out; have hnc13 := NB108_116.out; have hcz14_0 : w12.cell? ⟨gb116, 0, none⟩ = some (.int .i64 0) := bc BK116 0; have hcz14_1 : w12.cell? ⟨gb116, 1, none⟩ = some (.int .i64 0) := bc BK116 1; have hcz14_2 : w12.cell? ⟨gb116, 2, none⟩ = some (.int .i64 0) := bc BK116 2; have hcz14_3 : w12.cell? ⟨gb116, 3, none⟩ = some (.int .i64 0) := bc BK116 3; have hcz14_4 : w12.cell? ⟨gb116, 4, none⟩ = some (.int .i64 0) := bc BK116 4; have hcz14_5 : w12.cell? ⟨gb116, 5, none⟩ = some (.int .i64 0) := bc BK116 5; have hfz14_0 := blk_frozen BK116.out 0; have hfz14_1 := blk_frozen BK116.out 1; have hfz14_2 := blk_frozen BK116.out 2; have hfz14_3 := blk_frozen BK116.out 3; have hfz14_4 := blk_frozen BK116.out 4; have hfz14_5 := blk_frozen BK116.out 5; have hcz15_0 : w12.cell? ⟨gb108, 0, none⟩ = some (.int .i64 t101) := bc BK108 0; have hcz15_1 : w12.cell? ⟨gb108, 1, none⟩ = some (.int .i64 t102) := bc BK108 1; have hcz15_2 : w12.cell? ⟨gb108, 2, none⟩ = some (.int .i64 t103) := bc BK108 2; have hcz15_3 : w12.cell? ⟨gb108, 3, none⟩ = some (.int .i64 t104) := bc BK108 3; have hcz15_4 : w12.cell? ⟨gb108, 4, none⟩ = some (.int .i64 t105) := bc BK108 4; have hcz15_5 : w12.cell? ⟨gb108, 5, none⟩ = some (.int .i64 t106) := bc BK108 5; have hfz15_0 := blk_frozen BK108.out 0; have hfz15_1 := blk_frozen BK108.out 1; have hfz15_2 := blk_frozen BK108.out 2; have hfz15_3 := blk_frozen BK108.out 3; have hfz15_4 := blk_frozen BK108.out 4; have hfz15_5 := blk_frozen BK108.out 5) | ((with_reducible refine gate_callee (f := 13) rfl ?_); refine goesL_ (some 22) rfl rfl Tryd.func13 (by kernel_rfl) rfl #[.agg #[.int .i64 t109, .int .i64 t110, .int .i64 t111, .int .i64 t112, .int .i64 t113, .int .i64 t114], .agg #[.int .i64 t101, .int .i64 t102, .int .i64 t103, .int .i64 t104, .int .i64 t105, .int .i64 t106]] rfl mc ?_; (with_reducible refine (laws_eqDate.calls t109 t110 t111 t112 t113 t114 t101 t102 t103 t104 t105 t106 true _ A5.out).mono ?_); rintro e w16 ⟨rfl, hb⟩; refine ⟨_, rfl, ?_⟩; replace BK108 := Aside0.mk (blk_below (g := gb108) (o := .cells #[.int .i64 t101, .int .i64 t102, .int .i64 t103, .int .i64 t104, .int .i64 t105, .int .i64 t106] 25 (0, 0)) bkp hb); replace BK116 := Aside0.mk (blk_below (g := gb116) (o := .cells #[.int .i64 t109, .int .i64 t110, .int .i64 t111, .int .i64 t112, .int .i64 t113, .int .i64 t114] 25 (0, 0)) bkp hb); replace HB := Aside0.mk (below_step bh hb); (try clear hb); (try clear hb2); (try clear hk); (try clear hi)))
    go_ret
    exact ⟨er, bh⟩
   ·
    rw [if_neg c7] at H
    have c7b0 : (t115 != t107) = false := by simpa using c7
    (try (have c7b1 : decide (t115 = t107) = true := by simpa using c7))
    (try (have c7b2 : (t115 == t107) = true := by simpa using c7))
    clear c7
    obtain rfl := Option.some.inj H
    go_enter Tryd.func4, Tryd.ntmps4
    go_wp2_with (first | ((with_reducible refine gate_callee (f := 11) rfl ?_); refine goesL_ (some 12) rfl rfl Tryd.func11 (by kernel_rfl) rfl #[.string a0] rfl mc ?_; (with_reducible refine (spec_ReadDate.calls k a0 t101 t102 t103 t104 t105 t106 t107 _ A3.out).mono ?_); rintro e w17 ⟨rfl, hb⟩; refine ⟨_, rfl, ?_⟩; replace HB := Aside0.mk (below_step bh hb); (try clear hb); (try clear hb2); (try clear hk); (try clear hi)) | ((with_reducible refine gate_dst (N := 3) rfl ?_); refine bx 3 #[.int .i64 0, .int .i64 0, .int .i64 0, .int .i64 0, .int .i64 0, .int .i64 0] 25 ?_; intro gb108 hg w18 hbox hb; have BK108 := Aside0.mk (hbox); have GW108 := Aside0.mk (bz hg); have GE108 := Aside0.mk (bz hg); replace HB := Aside0.mk (below_step bh hb); clear hb hbox hg; have hcz19_0 : w18.cell? ⟨gb108, 0, none⟩ = some (.int .i64 0) := bc BK108 0; have hcz19_1 : w18.cell? ⟨gb108, 1, none⟩ = some (.int .i64 0) := bc BK108 1; have hcz19_2 : w18.cell? ⟨gb108, 2, none⟩ = some (.int .i64 0) := bc BK108 2; have hcz19_3 : w18.cell? ⟨gb108, 3, none⟩ = some (.int .i64 0) := bc BK108 3; have hcz19_4 : w18.cell? ⟨gb108, 4, none⟩ = some (.int .i64 0) := bc BK108 4; have hcz19_5 : w18.cell? ⟨gb108, 5, none⟩ = some (.int .i64 0) := bc BK108 5; have hfz19_0 := blk_frozen BK108.out 0; have hfz19_1 := blk_frozen BK108.out 1; have hfz19_2 := blk_frozen BK108.out 2; have hfz19_3 := blk_frozen BK108.out 3; have hfz19_4 := blk_frozen BK108.out 4; have hfz19_5 := blk_frozen BK108.out 5) | ((with_reducible refine gate_callee (f := 12) rfl ?_); refine goesL_ (some 17) rfl rfl Tryd.func12 (by kernel_rfl) rfl #[.string a0] rfl mc ?_; (with_reducible refine (impl_ReadDate.calls a0 t109 t110 t111 t112 t113 t114 t115 _ ?side1 A4.out).mono ?_); (case side1 => exact XW.to (XW.stays hX bh) (by decide)); rintro e w20 ⟨rfl, hb⟩; refine ⟨_, rfl, ?_⟩; replace BK108 := Aside0.mk (blk_below (g := gb108) (o := .cells #[.int .i64 t101, .int .i64 t102, .int .i64 t103, .int .i64 t104, .int .i64 t105, .int .i64 t106] 25 (0, 0)) bkp hb); replace HB := Aside0.mk (below_step bh hb); (try clear hb); (try clear hb2); (try clear hk); (try clear hi)) | ((with_reducible refine gate_dst (N := 5) rfl ?_); refine bx 5 #[.int .i64 0, .int .i64 0, .int .i64 0, .int .i64 0, .int .i64 0, .int .i64 0] 25 ?_; intro gb116 hg w21 hbox hb; have BK116 := Aside0.mk (hbox); have GW116 := Aside0.mk (bz hg); have GE116 := Aside0.mk (bz hg); have NB108_116 := Aside0.mk ((nl (o := .cells #[.int .i64 t101, .int .i64 t102, .int .i64 t103, .int .i64 t104, .int .i64 t105, .int .i64 t106] 25 (0, 0)) hg bk : gb108 ≠ gb116)); have NB116_108 := Aside0.mk ((ng (o := .cells #[.int .i64 t101, .int .i64 t102, .int .i64 t103, .int .i64 t104, .int .i64 t105, .int .i64 t106] 25 (0, 0)) hg bk : gb116 ≠ gb108)); replace BK108 := Aside0.mk (blk_below (g := gb108) (o := .cells #[.int .i64 t101, .int .i64 t102, .int .i64 t103, .int .i64 t104, .int .i64 t105, .int .i64 t106] 25 (0, 0)) bk hb); replace HB := Aside0.mk (below_step bh hb); clear hb hbox hg; have hnb22 := NB116_108.out; have hnc22 := NB108_116.out; have hcz23_0 : w21.cell? ⟨gb116, 0, none⟩ = some (.int .i64 0) := bc BK116 0; have hcz23_1 : w21.cell? ⟨gb116, 1, none⟩ = some (.int .i64 0) := bc BK116 1; have hcz23_2 : w21.cell? ⟨gb116, 2, none⟩ = some (.int .i64 0) := bc BK116 2; have hcz23_3 : w21.cell? ⟨gb116, 3, none⟩ = some (.int .i64 0) := bc BK116 3; have hcz23_4 : w21.cell? ⟨gb116, 4, none⟩ = some (.int .i64 0) := bc BK116 4; have hcz23_5 : w21.cell? ⟨gb116, 5, none⟩ = some (.int .i64 0) := bc BK116 5; have hfz23_0 := blk_frozen BK116.out 0; have hfz23_1 := blk_frozen BK116.out 1; have hfz23_2 := blk_frozen BK116.out 2; have hfz23_3 := blk_frozen BK116.out 3; have hfz23_4 := blk_frozen BK116.out 4; have hfz23_5 := blk_frozen BK116.out 5; have hcz24_0 : w21.cell? ⟨gb108, 0, none⟩ = some (.int .i64 t101) := bc BK108 0; have hcz24_1 : w21.cell? ⟨gb108, 1, none⟩ = some (.int .i64 t102) := bc BK108 1; have hcz24_2 : w21.cell? ⟨gb108, 2, none⟩ = some (.int .i64 t103) := bc BK108 2; have hcz24_3 : w21.cell? ⟨gb108, 3, none⟩ = some (.int .i64 t104) := bc BK108 3; have hcz24_4 : w21.cell? ⟨gb108, 4, none⟩ = some (.int .i64 t105) := bc BK108 4; have hcz24_5 : w21.cell? ⟨gb108, 5, none⟩ = some (.int .i64 t106) := bc BK108 5; have hfz24_0 := blk_frozen BK108.out 0; have hfz24_1 := blk_frozen BK108.out 1; have hfz24_2 := blk_frozen BK108.out 2; have hfz24_3 := blk_frozen BK108.out 3; have hfz24_4 := blk_frozen BK108.out 4; have hfz24_5 := blk_frozen BK108.out 5) | ((with_reducible refine gate_callee (f := 13) rfl ?_); refine goesL_ (some 22) rfl rfl Tryd.func13 (by kernel_rfl) rfl #[.agg #[.int .i64 t109, .int .i64 t110, .int .i64 t111, .int .i64 t112, .int .i64 t113, .int .i64 t114], .agg #[.int .i64 t101, .int .i64 t102, .int .i64 t103, .int .i64 t104, .int .i64 t105, .int .i64 t106]] rfl mc ?_; (with_reducible refine (laws_eqDate.calls t109 t110 t111 t112 t113 t114 t101 t102 t103 t104 t105 t106 true _ A5.out).mono ?_); rintro e w25 ⟨rfl, hb⟩; refine ⟨_, rfl, ?_⟩; replace BK108 := Aside0.mk (blk_below (g := gb108) (o := .cells #[.int .i64 t101, .int .i64 t102, .int .i64 t103, .int .i64 t104, .int .i64 t105, .int .i64 t106] 25 (0, 0)) bkp hb); replace BK116 := Aside0.mk (blk_below (g := gb116) (o := .cells #[.int .i64 t109, .int .i64 t110, .int .i64 t111, .int .i64 t112, .int .i64 t113, .int .i64 t114] 25 (0, 0)) bkp hb); replace HB := Aside0.mk (below_step bh hb); (try clear hb); (try clear hb2); (try clear hk); (try clear hi)))
    go_ret
    exact ⟨er, bh⟩
  ·
   replace c6 := Bool.eq_false_iff.mpr c6
   subst c6
   have H1 : (some false) = some r := by rw [if_neg (show ¬ (false = true) by decide)] at H; exact H
   clear H
   have H := H1
   clear H1
   obtain rfl := Option.some.inj H
   go_enter Tryd.func4, Tryd.ntmps4
   go_wp2_with (first | ((with_reducible refine gate_callee (f := 11) rfl ?_); refine goesL_ (some 12) rfl rfl Tryd.func11 (by kernel_rfl) rfl #[.string a0] rfl mc ?_; (with_reducible refine (spec_ReadDate.calls k a0 t101 t102 t103 t104 t105 t106 t107 _ A3.out).mono ?_); rintro e w26 ⟨rfl, hb⟩; refine ⟨_, rfl, ?_⟩; replace HB := Aside0.mk (below_step bh hb); (try clear hb); (try clear hb2); (try clear hk); (try clear hi)) | ((with_reducible refine gate_dst (N := 3) rfl ?_); refine bx 3 #[.int .i64 0, .int .i64 0, .int .i64 0, .int .i64 0, .int .i64 0, .int .i64 0] 25 ?_; intro gb108 hg w27 hbox hb; have BK108 := Aside0.mk (hbox); have GW108 := Aside0.mk (bz hg); have GE108 := Aside0.mk (bz hg); replace HB := Aside0.mk (below_step bh hb); clear hb hbox hg; have hcz28_0 : w27.cell? ⟨gb108, 0, none⟩ = some (.int .i64 0) := bc BK108 0; have hcz28_1 : w27.cell? ⟨gb108, 1, none⟩ = some (.int .i64 0) := bc BK108 1; have hcz28_2 : w27.cell? ⟨gb108, 2, none⟩ = some (.int .i64 0) := bc BK108 2; have hcz28_3 : w27.cell? ⟨gb108, 3, none⟩ = some (.int .i64 0) := bc BK108 3; have hcz28_4 : w27.cell? ⟨gb108, 4, none⟩ = some (.int .i64 0) := bc BK108 4; have hcz28_5 : w27.cell? ⟨gb108, 5, none⟩ = some (.int .i64 0) := bc BK108 5; have hfz28_0 := blk_frozen BK108.out 0; have hfz28_1 := blk_frozen BK108.out 1; have hfz28_2 := blk_frozen BK108.out 2; have hfz28_3 := blk_frozen BK108.out 3; have hfz28_4 := blk_frozen BK108.out 4; have hfz28_5 := blk_frozen BK108.out 5) | ((with_reducible refine gate_callee (f := 12) rfl ?_); refine goesL_ (some 17) rfl rfl Tryd.func12 (by kernel_rfl) rfl #[.string a0] rfl mc ?_; (with_reducible refine (impl_ReadDate.calls a0 t109 t110 t111 t112 t113 t114 t115 _ ?side1 A4.out).mono ?_); (case side1 => exact XW.to (XW.stays hX bh) (by decide)); rintro e w29 ⟨rfl, hb⟩; refine ⟨_, rfl, ?_⟩; replace BK108 := Aside0.mk (blk_below (g := gb108) (o := .cells #[.int .i64 t101, .int .i64 t102, .int .i64 t103, .int .i64 t104, .int .i64 t105, .int .i64 t106] 25 (0, 0)) bkp hb); replace HB := Aside0.mk (below_step bh hb); (try clear hb); (try clear hb2); (try clear hk); (try clear hi)) | ((with_reducible refine gate_dst (N := 5) rfl ?_); refine bx 5 #[.int .i64 0, .int .i64 0, .int .i64 0, .int .i64 0, .int .i64 0, .int .i64 0] 25 ?_; intro gb116 hg w30 hbox hb; have BK116 := Aside0.mk (hbox); have GW116 := Aside0.mk (bz hg); have GE116 := Aside0.mk (bz hg); have NB108_116 := Aside0.mk ((nl (o := .cells #[.int .i64 t101, .int .i64 t102, .int .i64 t103, .int .i64 t104, .int .i64 t105, .int .i64 t106] 25 (0, 0)) hg bk : gb108 ≠ gb116)); have NB116_108 := Aside0.mk ((ng (o := .cells #[.int .i64 t101, .int .i64 t102, .int .i64 t103, .int .i64 t104, .int .i64 t105, .int .i64 t106] 25 (0, 0)) hg bk : gb116 ≠ gb108)); replace BK108 := Aside0.mk (blk_below (g := gb108) (o := .cells #[.int .i64 t101, .int .i64 t102, .int .i64 t103, .int .i64 t104, .int .i64 t105, .int .i64 t106] 25 (0, 0)) bk hb); replace HB := Aside0.mk (below_step bh hb); clear hb hbox hg; have hnb31 := NB116_108.out; have hnc31 := NB108_116.out; have hcz32_0 : w30.cell? ⟨gb116, 0, none⟩ = some (.int .i64 0) := bc BK116 0; have hcz32_1 : w30.cell? ⟨gb116, 1, none⟩ = some (.int .i64 0) := bc BK116 1; have hcz32_2 : w30.cell? ⟨gb116, 2, none⟩ = some (.int .i64 0) := bc BK116 2; have hcz32_3 : w30.cell? ⟨gb116, 3, none⟩ = some (.int .i64 0) := bc BK116 3; have hcz32_4 : w30.cell? ⟨gb116, 4, none⟩ = some (.int .i64 0) := bc BK116 4; have hcz32_5 : w30.cell? ⟨gb116, 5, none⟩ = some (.int .i64 0) := bc BK116 5; have hfz32_0 := blk_frozen BK116.out 0; have hfz32_1 := blk_frozen BK116.out 1; have hfz32_2 := blk_frozen BK116.out 2; have hfz32_3 := blk_frozen BK116.out 3; have hfz32_4 := blk_frozen BK116.out 4; have hfz32_5 := blk_frozen BK116.out 5; have hcz33_0 : w30.cell? ⟨gb108, 0, none⟩ = some (.int .i64 t101) := bc BK108 0; have hcz33_1 : w30.cell? ⟨gb108, 1, none⟩ = some (.int .i64 t102) := bc BK108 1; have hcz33_2 : w30.cell? ⟨gb108, 2, none⟩ = some (.int .i64 t103) := bc BK108 2; have hcz33_3 : w30.cell? ⟨gb108, 3, none⟩ = some (.int .i64 t104) := bc BK108 3; have hcz33_4 : w30.cell? ⟨gb108, 4, none⟩ = some (.int .i64 t105) := bc BK108 4; have hcz33_5 : w30.cell? ⟨gb108, 5, none⟩ = some (.int .i64 t106) := bc BK108 5; have hfz33_0 := blk_frozen BK108.out 0; have hfz33_1 := blk_frozen BK108.out 1; have hfz33_2 := blk_frozen BK108.out 2; have hfz33_3 := blk_frozen BK108.out 3; have hfz33_4 := blk_frozen BK108.out 4; have hfz33_5 := blk_frozen BK108.out 5) | ((with_reducible refine gate_callee (f := 13) rfl ?_); refine goesL_ (some 22) rfl rfl Tryd.func13 (by kernel_rfl) rfl #[.agg #[.int .i64 t109, .int .i64 t110, .int .i64 t111, .int .i64 t112, .int .i64 t113, .int .i64 t114], .agg #[.int .i64 t101, .int .i64 t102, .int .i64 t103, .int .i64 t104, .int .i64 t105, .int .i64 t106]] rfl mc ?_; (with_reducible refine (laws_eqDate.calls t109 t110 t111 t112 t113 t114 t101 t102 t103 t104 t105 t106 false _ A5.out).mono ?_); rintro e w34 ⟨rfl, hb⟩; refine ⟨_, rfl, ?_⟩; replace BK108 := Aside0.mk (blk_below (g := gb108) (o := .cells #[.int .i64 t101, .int .i64 t102, .int .i64 t103, .int .i64 t104, .int .i64 t105, .int .i64 t106] 25 (0, 0)) bkp hb); replace BK116 := Aside0.mk (blk_below (g := gb116) (o := .cells #[.int .i64 t109, .int .i64 t110, .int .i64 t111, .int .i64 t112, .int .i64 t113, .int .i64 t114] 25 (0, 0)) bkp hb); replace HB := Aside0.mk (below_step bh hb); (try clear hb); (try clear hb2); (try clear hk); (try clear hi)))
   go_ret
   exact ⟨er, bh⟩

/-- THE ONE PURE STATEMENT of laws_FnExactReadDate: yours. -/
def laws_FnExactReadDate.Pure : Prop := ∀ (a0 : ByteArray), a0.size ≤ 140737488351232 → ∃ k, laws_FnExactReadDate.f k a0 = some true
theorem laws_FnExactReadDate.walk (P : laws_FnExactReadDate.Pure) (a0 : ByteArray) (w : World) (hX : XW 7 w) (w0 : a0.size ≤ 140737488351232) :
  Calls Tryd.prog 4 #[.string a0] w fun e w' => e = .returned (.bool true) ∧ Below w.heap.size w w' := by
 obtain ⟨k, h⟩ := P a0 w0
 refine (laws_FnExactReadDate.calls k a0 true w hX h).mono ?_
 rintro e w' ⟨rfl, hd⟩
 exact ⟨rfl, hd⟩
end Go.Proofs.YtpolkndhjcdheaaDoor.P
namespace Go.Proofs.YtpolkndhjcdheaaDoor.Q
open Go.RowKit Go.Proofs.YtpolkndhjcdheaaDoorW.PrintWords Go.Proofs.YtpolkndhjcdheaaDoorW.PrintLast Go.Proofs.YtpolkndhjcdheaaDoorW.PrintMore

theorem wrap_in {i : Int} (h0 : -9223372036854775808 ≤ i) (h1 : i ≤ 9223372036854775807) : wrap64 i = i := by unfold wrap64; omega
theorem wrap_next {i : Nat} {n : Nat} (h : i < n) (hn : n ≤ 4611686018427387904) : wrap64 ((i : Int) + 1) = ((i + 1 : Nat) : Int) := by unfold wrap64; omega

theorem toList_data (s : ByteArray) : s.toList = s.data.toList := ByteArray.toList_eq s
theorem eq_of_toList {a b : ByteArray} (h : a.toList = b.toList) : a = b := by
  rw [toList_data, toList_data] at h
  exact ByteArray.ext (Array.toList_inj.1 h)
theorem bt_get (s : ByteArray) (i : Nat) (h : i < s.size) : (bytesOf s)[i]? = some (bt s i) := by
  rw [← rd_bytesOf]
  have h1 : i < (bytesOf s).length := by rw [bytesOf_length]; exact h
  simp [rd, List.getD_eq_getElem?_getD, List.getElem?_eq_getElem h1]
theorem drop_bt (s : ByteArray) (i : Nat) (h : i < s.size) : (bytesOf s).drop i = bt s i :: (bytesOf s).drop (i + 1) := by
  have h1 : i < (bytesOf s).length := by rw [bytesOf_length]; exact h
  rw [List.drop_eq_getElem_cons h1]
  have := bt_get s i h
  rw [List.getElem?_eq_getElem h1] at this
  rw [Option.some.inj this]
theorem mem_bytes {s : ByteArray} {c : Int} (h : c ∈ bytesOf s) : 0 ≤ c ∧ c ≤ 255 := by
  unfold bytesOf at h
  obtain ⟨b, _, rfl⟩ := List.mem_map.1 h
  have := b.toNat_lt
  omega
theorem bytes_nums (l : List Int) (h : ∀ c ∈ l, 0 ≤ c ∧ c ≤ 255) : bytesOf (strOfNums l) = l := by
  unfold bytesOf
  rw [strOfNums_data, List.map_map]
  refine (List.map_congr_left fun c hc => ?_).trans (List.map_id l)
  have := h c hc
  simp only [Function.comp, UInt8.toNat_ofNat', id]
  omega
theorem nums_bytes (s : ByteArray) : strOfNums (bytesOf s) = s := by
  apply ByteArray.ext
  apply Array.toList_inj.1
  rw [strOfNums_data]
  unfold bytesOf
  rw [List.map_map]
  refine (List.map_congr_left fun c hc => ?_).trans (List.map_id _)
  simp
theorem bytes_inj {a b : ByteArray} (h : bytesOf a = bytesOf b) : a = b := by rw [← nums_bytes a, ← nums_bytes b, h]
theorem bytes_append (a b : ByteArray) : bytesOf (a ++ b) = bytesOf a ++ bytesOf b := by
  unfold bytesOf
  rw [← List.map_append]
  simp [ByteArray.data_append]

/-- A loop over bytes: what a round does with its state and a byte; an end ahead of time. -/
def runL {σ β : Type} (f : σ → Int → σ ⊕ β) (fin : σ → β) : List Int → σ → β
  | [], st => fin st
  | c :: cs, st => match f st c with
    | .inl st' => runL f fin cs st'
    | .inr b => b
/-- The printed loop comes to what 'runL' comes to, from some number of rounds on. -/
theorem ev_run {σ β : Type} (s : ByteArray) (I : σ → Nat → Prop) (f : σ → Int → σ ⊕ β) (fin : σ → β) (g : Nat → σ → Int → Option β) (K : Nat)
    (hstep : ∀ k st (i : Nat), K ≤ k → i < s.size → I st i → (∀ st', f st (bt s i) = .inl st' → g (k + 1) st i = g k st' ((i + 1 : Nat) : Int) ∧ I st' (i + 1)) ∧ (∀ b, f st (bt s i) = .inr b → g (k + 1) st i = some b))
    (hend : ∀ k st, K ≤ k → I st s.size → g (k + 1) st (s.size : Int) = some (fin st)) (st : σ) (h0 : I st 0) :
    Ev (fun k => g k st 0) (runL f fin (bytesOf s) st) := by
  have key : ∀ (d i : Nat) (st : σ), i + d = s.size → I st i → ∀ k, K + d < k → g k st (i : Int) = some (runL f fin ((bytesOf s).drop i) st) := by
    intro d
    induction d with
    | zero =>
      intro i st hd hI k hk
      obtain ⟨k, rfl⟩ : ∃ m, k = m + 1 := ⟨k - 1, by omega⟩
      have e : i = s.size := by omega
      subst e
      rw [hend k st (by omega) hI, List.drop_of_length_le (by rw [bytesOf_length]; exact Nat.le_refl _)]
      rfl
    | succ d ih =>
      intro i st hd hI k hk
      obtain ⟨k, rfl⟩ : ∃ m, k = m + 1 := ⟨k - 1, by omega⟩
      obtain ⟨h1, h2⟩ := hstep k st i (by omega) (by omega) hI
      rw [drop_bt s i (by omega)]
      show g (k + 1) st i = some (match f st (bt s i) with | .inl st' => runL f fin ((bytesOf s).drop (i + 1)) st' | .inr b => b)
      cases hf : f st (bt s i) with
      | inl st' =>
        obtain ⟨e, hI'⟩ := h1 st' hf
        rw [e]
        exact ih (i + 1) st' (by omega) hI' k (by omega)
      | inr b => exact h2 b hf
  refine ⟨K + s.size + 1, fun k hk => ?_⟩
  have := key s.size 0 st (by omega) h0 k (by omega)
  rw [List.drop_zero] at this
  exact this

/-- A loop that asks each byte. -/
theorem ev_all (s : ByteArray) (p : Int → Bool) (g : Nat → Int → Option Bool) (K : Nat)
    (h1 : ∀ k (i : Nat), K ≤ k → i < s.size → p (bt s i) = true → g (k + 1) i = g k ((i + 1 : Nat) : Int))
    (h0 : ∀ k (i : Nat), K ≤ k → i < s.size → p (bt s i) = false → g (k + 1) i = some false)
    (he : ∀ k, K ≤ k → g (k + 1) (s.size : Int) = some true) : Ev (fun k => g k 0) ((bytesOf s).all p) := by
  have h := ev_run (σ := Unit) (β := Bool) s (fun _ _ => True) (fun _ c => if p c = true then .inl () else .inr false) (fun _ => true) (fun k _ i => g k i) K
    (fun k st i hk hi _ => ⟨fun st' e => ⟨h1 k i hk hi (by
        by_cases hp : p (bt s i) = true
        · exact hp
        · rw [if_neg hp] at e; cases e), trivial⟩, fun b e => by
        by_cases hp : p (bt s i) = true
        · rw [if_pos hp] at e; cases e
        · rw [if_neg hp] at e
          obtain rfl : false = b := by injection e
          exact h0 k i hk hi (by simpa using hp)⟩)
    (fun k st hk _ => he k hk) () trivial
  have e : ∀ l : List Int, runL (σ := Unit) (β := Bool) (fun _ c => if p c = true then .inl () else .inr false) (fun _ => true) l () = l.all p := by
    intro l
    induction l with
    | nil => rfl
    | cons c cs ih =>
      rw [List.all_cons]
      unfold runL
      by_cases hp : p c = true
      · simp only [hp, if_true, Bool.true_and]; exact ih
      · simp only [(by simpa using hp : p c = false), Bool.false_and, Bool.false_eq_true, if_false]
  rw [e] at h
  exact h
theorem runL_all {β : Type} (p : Int → Bool) (r b : β) (l : List Int) : runL (σ := Unit) (fun _ c => if p c = true then .inl () else .inr b) (fun _ => r) l () = if l.all p = true then r else b := by
  induction l with
  | nil => rfl
  | cons c cs ih =>
    rw [List.all_cons]
    unfold runL
    by_cases hp : p c = true
    · simp only [hp, if_true, Bool.true_and]; exact ih
    · simp only [(by simpa using hp : p c = false), Bool.false_and, Bool.false_eq_true, if_false]
/-- A loop that asks each byte, and goes on behind it. -/
theorem ev_allr {β : Type} (s : ByteArray) (p : Int → Bool) (r b : β) (g : Nat → Int → Option β) (K : Nat)
    (h1 : ∀ k (i : Nat), K ≤ k → i < s.size → p (bt s i) = true → g (k + 1) i = g k ((i + 1 : Nat) : Int))
    (h0 : ∀ k (i : Nat), K ≤ k → i < s.size → p (bt s i) = false → g (k + 1) i = some b)
    (he : ∀ k, K ≤ k → g (k + 1) (s.size : Int) = some r) : Ev (fun k => g k 0) (if (bytesOf s).all p = true then r else b) := by
  rw [← runL_all p r b (bytesOf s)]
  refine ev_run (σ := Unit) s (fun _ _ => True) (fun _ c => if p c = true then .inl () else .inr b) (fun _ => r) (fun k _ i => g k i) K
    (fun k st i hk hi _ => ⟨fun st' e => ⟨h1 k i hk hi (by
        by_cases hp : p (bt s i) = true
        · exact hp
        · rw [if_neg hp] at e; cases e), trivial⟩, fun b' e => by
        by_cases hp : p (bt s i) = true
        · rw [if_pos hp] at e; cases e
        · rw [if_neg hp] at e
          obtain rfl : b = b' := by injection e
          exact h0 k i hk hi (by simpa using hp)⟩)
    (fun k st hk _ => he k hk) () trivial
/-- A loop that puts something behind a list for each byte. -/
theorem runL_flat {β : Type} (f : Int → List Int) (fin : List Int → β) (l st : List Int) : runL (fun st c => .inl (st ++ f c)) fin l st = fin (st ++ l.flatMap f) := by
  induction l generalizing st with
  | nil => simp [runL]
  | cons c cs ih =>
    unfold runL
    simp only [ih, List.flatMap_cons, List.append_assoc]
theorem ev_const {α : Type} {x : Option α} {r : α} (h : x = some r) : Ev (fun _ => x) r := ⟨0, fun _ _ => h⟩
theorem ev_eq {α : Type} {g : Nat → Option α} {r r' : α} (h : Ev g r) (e : r = r') : Ev g r' := e ▸ h
/-- From a number of rounds on: a law that holds at each such number. -/
theorem ev_now {α : Type} {g : Nat → Option α} {r : α} (K : Nat) (h : ∀ k, K ≤ k → g k = some r) : Ev g r := ⟨K, h⟩
theorem all_congr' {l : List Int} {p q : Int → Bool} (h : ∀ c ∈ l, p c = q c) : l.all p = l.all q := by
  induction l with
  | nil => rfl
  | cons a l ih =>
    rw [List.all_cons, List.all_cons, h a List.mem_cons_self, ih fun c hc => h c (List.mem_cons_of_mem _ hc)]
end Go.Proofs.YtpolkndhjcdheaaDoor.Q
namespace Go.Proofs.YtpolkndhjcdheaaDoor.P
open Go.RowKit Go.Proofs.YtpolkndhjcdheaaDoorW.PrintWords Go.Proofs.YtpolkndhjcdheaaDoorW.PrintLast Go.Proofs.YtpolkndhjcdheaaDoorW.PrintMore
attribute [local go_sem] max2_int min2_int max_two min_two max_three min_three max_four min_four   -- for this text's walks alone
set_option linter.unusedVariables false
set_option linter.unusedSimpArgs false

/-! ### spec_l1Hex: function 54 -/
mutual
def spec_l1Hex.j0 : Nat → Int → Bool → Option (Int)
 | 0, _, _ => none
 | k + 1, x0, x3 => if x3 = true then (some ((x0 - 48) % 256)) else (if x0 ≥ 97 then (spec_l1Hex.j1 k x0 (decide (x0 ≤ 102))) else (spec_l1Hex.j1 k x0 false))
def spec_l1Hex.j1 : Nat → Int → Bool → Option (Int)
 | 0, _, _ => none
 | k + 1, x0, x13 => if x13 = true then (some (((x0 - 97) % 256) + 10)) else (if x0 ≥ 65 then (if x0 ≤ 70 then (some (((x0 - 65) % 256) + 10)) else (some (-1))) else (some (-1)))
end
def spec_l1Hex.f (k : Nat) (a0 : Int) : Option (Int) := if a0 ≥ 48 then (spec_l1Hex.j0 k a0 (decide (a0 ≤ 57))) else (spec_l1Hex.j0 k a0 false)
theorem spec_l1Hex.mono_l : ∀ k, (∀ y0 y1, LeO (spec_l1Hex.j0 k y0 y1) (spec_l1Hex.j0 (k + 1) y0 y1)) ∧ (∀ y0 y1, LeO (spec_l1Hex.j1 k y0 y1) (spec_l1Hex.j1 (k + 1) y0 y1))
 | 0 => ⟨fun _ _ r h => by simp [spec_l1Hex.j0] at h, fun _ _ r h => by simp [spec_l1Hex.j1] at h⟩
 | k + 1 => by
  obtain ⟨ih0, ih1⟩ := spec_l1Hex.mono_l k
  refine ⟨?_, ?_⟩
  ·
   intro y0 y1
   unfold spec_l1Hex.j0
   repeat' first
   | (with_reducible exact ih0 _ _)
   | (with_reducible exact ih1 _ _)
   | (with_reducible exact LeO.refl _)
   | (with_reducible exact LeO.none _)
   | (with_reducible refine LeO.ite ?_ ?_)
   | (with_reducible refine LeO.bind ?_ (fun _ => ?_))
   | exact ih0 _ _
   | exact ih1 _ _
   | exact LeO.none _
   | refine LeO.ite ?_ ?_
   | refine LeO.bind ?_ (fun _ => ?_)
  ·
   intro y0 y1
   unfold spec_l1Hex.j1
   repeat' first
   | (with_reducible exact ih0 _ _)
   | (with_reducible exact ih1 _ _)
   | (with_reducible exact LeO.refl _)
   | (with_reducible exact LeO.none _)
   | (with_reducible refine LeO.ite ?_ ?_)
   | (with_reducible refine LeO.bind ?_ (fun _ => ?_))
   | exact ih0 _ _
   | exact ih1 _ _
   | exact LeO.none _
   | refine LeO.ite ?_ ?_
   | refine LeO.bind ?_ (fun _ => ?_)
theorem spec_l1Hex.mono : ∀ a0 k, LeO (spec_l1Hex.f k a0) (spec_l1Hex.f (k + 1) a0) := by
 intro a0 k
 obtain ⟨ih0, ih1⟩ := spec_l1Hex.mono_l k
 unfold spec_l1Hex.f
 repeat' first
   | (with_reducible exact ih0 _ _)
   | (with_reducible exact ih1 _ _)
   | (with_reducible exact LeO.refl _)
   | (with_reducible exact LeO.none _)
   | (with_reducible refine LeO.ite ?_ ?_)
   | (with_reducible refine LeO.bind ?_ (fun _ => ?_))
   | exact ih0 _ _
   | exact ih1 _ _
   | exact LeO.none _
   | refine LeO.ite ?_ ?_
   | refine LeO.bind ?_ (fun _ => ?_)
set_option maxHeartbeats 8000000 in
set_option maxRecDepth 100000 in
theorem spec_l1Hex.calls (k : Nat) (a0 : Int) (r : Int) (w : World) (h : spec_l1Hex.f k a0 = some r) :
  Calls Tryd.prog 54 #[.int .u8 a0] w fun e w' => e = .returned (.int .i64 r) ∧ Drawn0 w w' := by
 have H : (if a0 ≥ 48 then (spec_l1Hex.j0 k a0 (decide (a0 ≤ 57))) else (spec_l1Hex.j0 k a0 false)) = some r := h
 clear h
 have HC2 := Aside0.mk H
 clear H
 go_enter Tryd.func54, Tryd.ntmps54
 go_upto_region 1 with (fail)
 go_cut [3] (fun v3 wc => ∃ (kq : Nat) (x3_1 : Bool), v3 = .bool x3_1 ∧ Aside0 (spec_l1Hex.j0 kq a0 x3_1 = some r) ∧ Aside0 (kq ≤ k) ∧ Drawn0 w wc)
 case first =>
  have H := HC2.out
  clear HC2
  by_cases c3 : a0 ≥ 48
  ·
   rw [if_pos c3] at H
   have c3b0 : decide (48 ≤ a0) = true := decide_eq_true c3
   clear c3
   (first | rw [c3b0] | (simp only [i64_w, i32_w]; rw [c3b0]) | skip)
   have H' := Aside0.mk H
   clear H
   go_wp2
   go_meet
   case rel => exact ⟨_, (decide (a0 ≤ 57)), (by first | rfl | (simp; done) | (simp [*]; done)), H', ⟨by first | omega | exact Nat.le_refl _⟩, by repeat (first | exact Drawn0.refl _ | apply Drawn0.step)⟩
  ·
   rw [if_neg c3] at H
   have c3b0 : decide (48 ≤ a0) = false := decide_eq_false c3
   clear c3
   (first | rw [c3b0] | (simp only [i64_w, i32_w]; rw [c3b0]) | skip)
   have H' := Aside0.mk H
   clear H
   go_wp2
   go_meet
   case rel => exact ⟨_, (false), (by first | rfl | (simp; done) | (simp [*]; done)), H', ⟨by first | omega | exact Nat.le_refl _⟩, by repeat (first | exact Drawn0.refl _ | apply Drawn0.step)⟩
 case rest =>
  clear HC2
  try clear p2
  try clear c3
  try clear c3b0
  obtain ⟨kq, x3_1, rfl, HA, HJ1, ⟨mc1, rfl⟩⟩ := hcut
  cases kq with
  | zero => exact absurd HA.out (by simp [spec_l1Hex.j0])
  | succ kj1 =>
   have H := HA.out
   clear HA
   simp only [spec_l1Hex.j0] at H
   by_cases c4 : x3_1 = true
   ·
    subst c4
    have H1 : (some ((a0 - 48) % 256)) = some r := by rw [if_pos rfl] at H; exact H
    clear H
    have H := H1
    clear H1
    obtain rfl := Option.some.inj H
    go_wp2
    go_ret
    exact ⟨by first | rfl | (simp; done) | (simp [*]; done), by repeat (first | exact Drawn0.refl _ | apply Drawn0.step)⟩
   ·
    replace c4 := Bool.eq_false_iff.mpr c4
    subst c4
    rw [if_neg (show ¬ (false = true) by decide)] at H
    have HC5 := Aside0.mk H
    clear H
    go_upto_region 3 with (fail)
    go_cut [13] (fun v13 wc => ∃ (kq : Nat) (x13_4 : Bool), v13 = .bool x13_4 ∧ Aside0 (spec_l1Hex.j1 kq a0 x13_4 = some r) ∧ Aside0 (kq ≤ kj1) ∧ Drawn0 w wc)
    case first =>
     have H := HC5.out
     clear HC5
     by_cases c6 : a0 ≥ 97
     ·
      rw [if_pos c6] at H
      have c6b0 : decide (97 ≤ a0) = true := decide_eq_true c6
      clear c6
      (first | rw [c6b0] | (simp only [i64_w, i32_w]; rw [c6b0]) | skip)
      have H' := Aside0.mk H
      clear H
      go_wp2
      go_meet
      case rel => exact ⟨_, (decide (a0 ≤ 102)), (by first | rfl | (simp; done) | (simp [*]; done)), H', ⟨by have := HJ1.out; first | omega | exact Nat.le_refl _⟩, by repeat (first | exact Drawn0.refl _ | apply Drawn0.step)⟩
     ·
      rw [if_neg c6] at H
      have c6b0 : decide (97 ≤ a0) = false := decide_eq_false c6
      clear c6
      (first | rw [c6b0] | (simp only [i64_w, i32_w]; rw [c6b0]) | skip)
      have H' := Aside0.mk H
      clear H
      go_wp2
      go_meet
      case rel => exact ⟨_, (false), (by first | rfl | (simp; done) | (simp [*]; done)), H', ⟨by have := HJ1.out; first | omega | exact Nat.le_refl _⟩, by repeat (first | exact Drawn0.refl _ | apply Drawn0.step)⟩
    case rest =>
     clear HC5
     try clear c1
     try clear p2
     try clear c3
     try clear c3b0
     try clear c4
     try clear c5
     try clear c6
     try clear c6b0
     try clear p2
     obtain ⟨kq, x13_4, rfl, HA, HJ4, ⟨mc4, rfl⟩⟩ := hcut
     cases kq with
     | zero => exact absurd HA.out (by simp [spec_l1Hex.j1])
     | succ kj4 =>
      have H := HA.out
      clear HA
      simp only [spec_l1Hex.j1] at H
      by_cases c7 : x13_4 = true
      ·
       subst c7
       have H1 : (some (((a0 - 97) % 256) + 10)) = some r := by rw [if_pos rfl] at H; exact H
       clear H
       have H := H1
       clear H1
       obtain rfl := Option.some.inj H
       go_wp2
       go_ret
       exact ⟨by first | rfl | (simp; done) | (simp [*]; done), by repeat (first | exact Drawn0.refl _ | apply Drawn0.step)⟩
      ·
       replace c7 := Bool.eq_false_iff.mpr c7
       subst c7
       rw [if_neg (show ¬ (false = true) by decide)] at H
       by_cases c8 : a0 ≥ 65
       ·
        rw [if_pos c8] at H
        have c8b0 : decide (65 ≤ a0) = true := decide_eq_true c8
        clear c8
        by_cases c9 : a0 ≤ 70
        ·
         rw [if_pos c9] at H
         have c9b0 : decide (a0 ≤ 70) = true := decide_eq_true c9
         clear c9
         obtain rfl := Option.some.inj H
         go_wp2
         go_ret
         exact ⟨by first | rfl | (simp; done) | (simp [*]; done), by repeat (first | exact Drawn0.refl _ | apply Drawn0.step)⟩
        ·
         rw [if_neg c9] at H
         have c9b0 : decide (a0 ≤ 70) = false := decide_eq_false c9
         clear c9
         obtain rfl := Option.some.inj H
         go_wp2
         go_ret
         exact ⟨by first | rfl | (simp; done) | (simp [*]; done), by repeat (first | exact Drawn0.refl _ | apply Drawn0.step)⟩
       ·
        rw [if_neg c8] at H
        have c8b0 : decide (65 ≤ a0) = false := decide_eq_false c8
        clear c8
        obtain rfl := Option.some.inj H
        go_wp2
        go_ret
        exact ⟨by first | rfl | (simp; done) | (simp [*]; done), by repeat (first | exact Drawn0.refl _ | apply Drawn0.step)⟩
end Go.Proofs.YtpolkndhjcdheaaDoor.P
namespace Go.Proofs.YtpolkndhjcdheaaDoor.Q
set_option linter.unusedVariables false
set_option linter.unusedSimpArgs false
open Go.RowKit Go.Proofs.YtpolkndhjcdheaaDoor.P Go.Proofs.YtpolkndhjcdheaaDoorW.PrintWords Go.Proofs.YtpolkndhjcdheaaDoorW.PrintLast Go.Proofs.YtpolkndhjcdheaaDoorW.PrintMore

def visB (c : Int) : Bool := decide (32 ≤ c) && decide (c ≤ 126) || decide (c = 9)
def digB (c : Int) : Bool := decide (48 ≤ c) && decide (c ≤ 57)
def letB (c : Int) : Bool := decide (97 ≤ c) && decide (c ≤ 122) || decide (65 ≤ c) && decide (c ≤ 90)
def hexB (c : Int) : Bool := digB c || decide (97 ≤ c) && decide (c ≤ 102) || decide (65 ≤ c) && decide (c ≤ 70)
def tagB (c : Int) : Bool := decide (33 ≤ c) && decide (c ≤ 126) && decide (c ≠ 34)
def tokB (c : Int) : Bool := letB c || digB c || decide (c ∈ [33, 35, 36, 37, 38, 39, 42, 43, 45, 46, 94, 95, 124, 126, 96])
def plaB (c : Int) : Bool := letB c || digB c || decide (c ∈ [45, 46, 95, 126, 47, 58, 64, 33, 36, 38, 39, 40, 41, 42, 43, 44, 59, 61])

theorem impl_isDigit_is (c : Int) : impl_isDigit.f c = some (digB c) := by
  unfold impl_isDigit.f digB
  by_cases h1 : c ≥ 48 <;> simp [h1] <;> omega
theorem impl_isHex_is (c : Int) : impl_isHex.f c = some (hexB c) := by
  unfold impl_isHex.f hexB
  rw [impl_isDigit_is]
  cases h0 : digB c <;> by_cases h1 : c ≥ 97 <;> by_cases h2 : c ≤ 102 <;> by_cases h3 : c ≥ 65 <;> by_cases h4 : c ≤ 70 <;> simp [h1, h2, h3, h4] <;> omega

/-- A law on bytes, tried at each. -/
theorem byte_cases {p : Int → Prop} (h : ∀ n : Fin 256, p (n.val : Int)) (c : Int) (h0 : 0 ≤ c) (h1 : c ≤ 255) : p c := by
  have := h ⟨c.toNat, by omega⟩
  rwa [show ((⟨c.toNat, by omega⟩ : Fin 256).val : Int) = c from by show (c.toNat : Int) = c; omega] at this
/-- A hexadecimal digit's value, or -1. -/
def hexV (c : Int) : Int := if digB c = true then c - 48 else if 97 ≤ c ∧ c ≤ 102 then c - 87 else if 65 ≤ c ∧ c ≤ 70 then c - 55 else -1
theorem hexV_neg (c : Int) : decide (hexV c < 0) = !hexB c := by
  unfold hexV hexB
  cases h0 : digB c
  · by_cases h1 : 97 ≤ c ∧ c ≤ 102
    · simp [h1]; omega
    · by_cases h2 : 65 ≤ c ∧ c ≤ 70
      · have h1' : (decide (97 ≤ c) && decide (c ≤ 102)) = false := by simp; omega
        simp [h1, h1', h2]; omega
      · have h1' : (decide (97 ≤ c) && decide (c ≤ 102)) = false := by simp; omega
        have h2' : (decide (65 ≤ c) && decide (c ≤ 70)) = false := by simp; omega
        simp [h1, h1', h2, h2']
  · unfold digB at h0
    simp at h0
    simp
    omega
theorem spec_l1Hex_is (c : Int) (h0 : 0 ≤ c) (h1 : c ≤ 255) (k : Nat) (hk : 2 ≤ k) : spec_l1Hex.f k c = some (hexV c) :=
  at_rounds (fun k => spec_l1Hex.mono c k) hk (byte_cases (p := fun c => spec_l1Hex.f 2 c = some (hexV c)) (by decide +kernel) c h0 h1)
/-- 'all' over a predicate. -/
theorem all_hex (s : ByteArray) (hs : s.size ≤ 9223372036854775807) : impl_all.f s 51 = some ((bytesOf s).all hexB) := by
  unfold impl_all.f
  rw [if_pos hs]
  simp only [Nat.reduceEqDiff, if_true, if_false, reduceIte]
  rw [all_congr' fun c hc => (by rw [impl_isHex_is]; cases hexB c <;> rfl : (impl_isHex.f c == some true) = hexB c)]
theorem all_dig (s : ByteArray) (hs : s.size ≤ 9223372036854775807) : impl_all.f s 53 = some ((bytesOf s).all digB) := by
  unfold impl_all.f
  rw [if_pos hs]
  simp only [Nat.reduceEqDiff, if_true, if_false, reduceIte]
  rw [all_congr' fun c hc => (by rw [impl_isDigit_is]; cases digB c <;> rfl : (impl_isDigit.f c == some true) = digB c)]
end Go.Proofs.YtpolkndhjcdheaaDoor.Q
namespace Go.Proofs.YtpolkndhjcdheaaDoor.P
open Go.RowKit Go.Proofs.YtpolkndhjcdheaaDoorW.PrintWords Go.Proofs.YtpolkndhjcdheaaDoorW.PrintLast Go.Proofs.YtpolkndhjcdheaaDoorW.PrintMore
attribute [local go_sem] max2_int min2_int max_two min_two max_three min_three max_four min_four   -- for this text's walks alone
set_option linter.unusedVariables false
set_option linter.unusedSimpArgs false

/-! ### impl_HexDigits: function 24 -/
def impl_HexDigits.f (a0 : ByteArray) : Option (Int × Bool) := if (a0.size : Int) < 1 then (some (0, false)) else (if (a0.size : Int) > 13 then (some (0, false)) else ((impl_all.f a0 51).bind fun t101 => (if t101 = true then ((strconv_ParseInt.f a0 16 64).bind fun bt102 => (some (bt102.1, true))) else (some (0, false)))))
set_option maxHeartbeats 8000000 in
set_option maxRecDepth 100000 in
theorem impl_HexDigits.calls (a0 : ByteArray) (r1 : Int) (r2 : Bool) (w : World) (h : impl_HexDigits.f a0 = some (r1, r2)) :
  Calls Tryd.prog 24 #[.string a0] w fun e w' => e = .returned (.tuple #[.int .i64 r1, .bool r2]) ∧ Below w.heap.size w w' := by
 have HB := Aside0.mk (Below.refl w.heap.size w)
 have H : (if (a0.size : Int) < 1 then (some (0, false)) else (if (a0.size : Int) > 13 then (some (0, false)) else ((impl_all.f a0 51).bind fun t101 => (if t101 = true then ((strconv_ParseInt.f a0 16 64).bind fun bt102 => (some (bt102.1, true))) else (some (0, false)))))) = some (r1, r2) := h
 clear h
 by_cases c2 : (a0.size : Int) < 1
 ·
  rw [if_pos c2] at H
  have c2b0 : decide ((a0.size : Int) < 1) = true := decide_eq_true c2
  have c2b1 : decide (a0.size < 1) = true := decide_eq_true (by omega)
  clear c2
  simp only [Option.some.injEq, Prod.mk.injEq] at H
  obtain ⟨rfl, rfl⟩ := H
  go_enter Tryd.func24, Tryd.ntmps24
  go_wp2
  go_ret2
  exact ⟨er, bh⟩
 ·
  rw [if_neg c2] at H
  have c2b0 : decide ((a0.size : Int) < 1) = false := decide_eq_false c2
  have c2b1 : decide (a0.size < 1) = false := decide_eq_false (by omega)
  clear c2
  by_cases c3 : (a0.size : Int) > 13
  ·
   rw [if_pos c3] at H
   have c3b0 : decide (13 < (a0.size : Int)) = true := decide_eq_true c3
   have c3b1 : decide (13 < a0.size) = true := decide_eq_true (by omega)
   clear c3
   simp only [Option.some.injEq, Prod.mk.injEq] at H
   obtain ⟨rfl, rfl⟩ := H
   go_enter Tryd.func24, Tryd.ntmps24
   go_wp2
   go_ret2
   exact ⟨er, bh⟩
  ·
   rw [if_neg c3] at H
   have c3b0 : decide (13 < (a0.size : Int)) = false := decide_eq_false c3
   have c3b1 : decide (13 < a0.size) = false := decide_eq_false (by omega)
   clear c3
   obtain ⟨t101, A40, H⟩ := Option.bind_eq_some_iff.mp H
   try dsimp only at H
   have A4 := Aside0.mk A40
   clear A40
   by_cases c5 : t101 = true
   ·
    subst c5
    rw [if_pos rfl] at H
    replace H := Option.bind_eq_some_iff.mp H
    obtain ⟨⟨t102, t103⟩, A60, H⟩ := H
    replace H : (some (t102, true)) = some (r1, r2) := H
    have A6 := Aside0.mk A60
    clear A60
    simp only [Option.some.injEq, Prod.mk.injEq] at H
    obtain ⟨rfl, rfl⟩ := H
    go_enter Tryd.func24, Tryd.ntmps24
    go_wp2_with (first | (go_at_call 50; (with_reducible refine (impl_all.calls a0 51 true _ A4.out).mono ?_); rintro e w7 ⟨rfl, hb⟩; replace HB := Aside0.mk (below_step bh hb); (try clear hb); (try clear hb2); (try clear hk); (try clear hi)) | ((with_reducible refine gate_callee (f := 52) rfl ?_); refine goesL_ (some 21) rfl rfl Tryd.func52 (by kernel_rfl) rfl #[.string a0, .int .i64 16, .int .i64 64] rfl mc ?_; (with_reducible refine (strconv_ParseInt.calls a0 16 64 t102 t103 _ A6.out).mono ?_); rintro e w8 ⟨rfl, hb⟩; refine ⟨_, rfl, ?_⟩; replace HB := Aside0.mk (below_step bh hb); (try clear hb); (try clear hb2); (try clear hk); (try clear hi); (try simp only [errW_none, errW_some])))
    go_ret2
    exact ⟨er, bh⟩
   ·
    replace c5 := Bool.eq_false_iff.mpr c5
    subst c5
    have H1 : (some (0, false)) = some (r1, r2) := by rw [if_neg (show ¬ (false = true) by decide)] at H; exact H
    clear H
    have H := H1
    clear H1
    simp only [Option.some.injEq, Prod.mk.injEq] at H
    obtain ⟨rfl, rfl⟩ := H
    go_enter Tryd.func24, Tryd.ntmps24
    go_wp2_with (first | (go_at_call 50; (with_reducible refine (impl_all.calls a0 51 false _ A4.out).mono ?_); rintro e w9 ⟨rfl, hb⟩; replace HB := Aside0.mk (below_step bh hb); (try clear hb); (try clear hb2); (try clear hk); (try clear hi)))
    go_ret2
    exact ⟨er, bh⟩
end Go.Proofs.YtpolkndhjcdheaaDoor.P
