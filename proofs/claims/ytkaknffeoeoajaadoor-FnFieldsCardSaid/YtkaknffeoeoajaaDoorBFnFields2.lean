/- Functions of the Go program as Lean functions, and proofs about them, merged out of this session's texts by its program bundle.py; conditions: those that each theorem states. -/
import Derived.Below
import Derived.ChangeOld
import Derived.LaidMore
import Derived.Laws.BitsLemmas
import Derived.Lay
import Derived.Lib.Bytealg
import Derived.Lib.IndexMore
import Derived.Lib.ItoaNum
import Derived.Lib.SlTrimSet
import Derived.Lib.Strings
import Derived.OpenShut
import Derived.ProofKit
import Derived.SevenTiedAt
import Derived.ShutString
import Derived.SizedLaws
import Derived.Stop.Joined
import Derived.Test.YtkaknffeoeoajaaDoorBFnFields1
import Derived.Test.YtkaknffeoeoajaaDoorCards
import Derived.Test.YtkaknffeoeoajaaDoorGCut
import Derived.Test.YtkaknffeoeoajaaDoorGTrim
import Derived.Test.YtkaknffeoeoajaaDoorGall
import Derived.Test.YtkaknffeoeoajaaDoorGspecl1Token
import Derived.Test.YtkaknffeoeoajaaDoorP0
import Derived.Test.YtkaknffeoeoajaaDoorPimplTokenOk
import Derived.Test.YtkaknffeoeoajaaDoorPimplTokenOk1
import Derived.Test.YtkaknffeoeoajaaDoorPimplTrimmed
import Derived.Test.YtkaknffeoeoajaaDoorPimplVisibleOk
import Derived.Test.YtkaknffeoeoajaaDoorPimplisDigit
import Derived.Test.YtkaknffeoeoajaaDoorPimplisField
import Derived.Test.YtkaknffeoeoajaaDoorPimplisLetter
import Derived.Test.YtkaknffeoeoajaaDoorPimplisVisible
import Derived.Test.YtkaknffeoeoajaaDoorPspecReadFields
import Derived.Test.YtkaknffeoeoajaaDoorPspecTokenOk
import Derived.Test.YtkaknffeoeoajaaDoorPspecTrimmed
import Derived.Test.YtkaknffeoeoajaaDoorPspecVisibleOk
import Derived.Test.YtkaknffeoeoajaaDoorPspecl1Below
import Derived.Test.YtkaknffeoeoajaaDoorPspecl1Blank
import Derived.Test.YtkaknffeoeoajaaDoorPspecl1Byte
import Derived.Test.YtkaknffeoeoajaaDoorPspecl1New
import Derived.Test.YtkaknffeoeoajaaDoorPspecl1Once
import Derived.Test.YtkaknffeoeoajaaDoorPspecl4DrawField
import Derived.Test.YtkaknffeoeoajaaDoorPspecl4Field
import Derived.Test.YtkaknffeoeoajaaDoorPspecl4Line
import Derived.Test.YtkaknffeoeoajaaDoorRows
import Derived.Test.YtkaknffeoeoajaaDoorShelf
import Derived.Test.YtkaknffeoeoajaaDoorTie
import Derived.Test.YtkaknffeoeoajaaDoorWSized
import Derived.Test.YtkaknffeoeoajaaDoorXA
import Derived.Test.YtkaknffeoeoajaaDoorXW
import Derived.WalkKit
namespace Go.Proofs.YtkaknffeoeoajaaDoor.Q
open Go.RowKit Go.Proofs.YtkaknffeoeoajaaDoorW.PrintWords Go.Proofs.YtkaknffeoeoajaaDoorW.PrintLast Go.Proofs.YtkaknffeoeoajaaDoorW.PrintMore

theorem wrap_in {i : Int} (h0 : -9223372036854775808 ≤ i) (h1 : i ≤ 9223372036854775807) : wrap64 i = i := by unfold wrap64; omega
theorem wrap_next {i : Nat} {n : Nat} (h : i < n) (hn : n ≤ 4611686018427387904) : wrap64 ((i : Int) + 1) = ((i + 1 : Nat) : Int) := by unfold wrap64; omega

theorem toList_data (s : ByteArray) : s.toList = s.data.toList := ByteArray.toList_eq s
theorem eq_of_toList {a b : ByteArray} (h : a.toList = b.toList) : a = b := by
  rw [toList_data, toList_data] at h
  exact ByteArray.ext (Array.toList_inj.1 h)
theorem bt_get (s : ByteArray) (i : Nat) (h : i < s.size) : (bytesOf s)[i]? = some (bt s i) := by
  rw [← rd_bytesOf]
  have h1 : i < (bytesOf s).length := by rw [bytesOf_length]; exact h
  simp [rd, List.getD_eq_getElem?_getD, List.getElem?_eq_getElem h1]
theorem drop_bt (s : ByteArray) (i : Nat) (h : i < s.size) : (bytesOf s).drop i = bt s i :: (bytesOf s).drop (i + 1) := by
  have h1 : i < (bytesOf s).length := by rw [bytesOf_length]; exact h
  rw [List.drop_eq_getElem_cons h1]
  have := bt_get s i h
  rw [List.getElem?_eq_getElem h1] at this
  rw [Option.some.inj this]
theorem mem_bytes {s : ByteArray} {c : Int} (h : c ∈ bytesOf s) : 0 ≤ c ∧ c ≤ 255 := by
  unfold bytesOf at h
  obtain ⟨b, _, rfl⟩ := List.mem_map.1 h
  have := b.toNat_lt
  omega
theorem bytes_nums (l : List Int) (h : ∀ c ∈ l, 0 ≤ c ∧ c ≤ 255) : bytesOf (strOfNums l) = l := by
  unfold bytesOf
  rw [strOfNums_data, List.map_map]
  refine (List.map_congr_left fun c hc => ?_).trans (List.map_id l)
  have := h c hc
  simp only [Function.comp, UInt8.toNat_ofNat', id]
  omega
theorem nums_bytes (s : ByteArray) : strOfNums (bytesOf s) = s := by
  apply ByteArray.ext
  apply Array.toList_inj.1
  rw [strOfNums_data]
  unfold bytesOf
  rw [List.map_map]
  refine (List.map_congr_left fun c hc => ?_).trans (List.map_id _)
  simp
theorem bytes_inj {a b : ByteArray} (h : bytesOf a = bytesOf b) : a = b := by rw [← nums_bytes a, ← nums_bytes b, h]
theorem bytes_append (a b : ByteArray) : bytesOf (a ++ b) = bytesOf a ++ bytesOf b := by
  unfold bytesOf
  rw [← List.map_append]
  simp [ByteArray.data_append]

/-- A loop over bytes: what a round does with its state and a byte; an end ahead of time. -/
def runL {σ β : Type} (f : σ → Int → σ ⊕ β) (fin : σ → β) : List Int → σ → β
  | [], st => fin st
  | c :: cs, st => match f st c with
    | .inl st' => runL f fin cs st'
    | .inr b => b
/-- The printed loop comes to what 'runL' comes to, from some number of rounds on. -/
theorem ev_run {σ β : Type} (s : ByteArray) (I : σ → Nat → Prop) (f : σ → Int → σ ⊕ β) (fin : σ → β) (g : Nat → σ → Int → Option β) (K : Nat)
    (hstep : ∀ k st (i : Nat), K ≤ k → i < s.size → I st i → (∀ st', f st (bt s i) = .inl st' → g (k + 1) st i = g k st' ((i + 1 : Nat) : Int) ∧ I st' (i + 1)) ∧ (∀ b, f st (bt s i) = .inr b → g (k + 1) st i = some b))
    (hend : ∀ k st, K ≤ k → I st s.size → g (k + 1) st (s.size : Int) = some (fin st)) (st : σ) (h0 : I st 0) :
    Ev (fun k => g k st 0) (runL f fin (bytesOf s) st) := by
  have key : ∀ (d i : Nat) (st : σ), i + d = s.size → I st i → ∀ k, K + d < k → g k st (i : Int) = some (runL f fin ((bytesOf s).drop i) st) := by
    intro d
    induction d with
    | zero =>
      intro i st hd hI k hk
      obtain ⟨k, rfl⟩ : ∃ m, k = m + 1 := ⟨k - 1, by omega⟩
      have e : i = s.size := by omega
      subst e
      rw [hend k st (by omega) hI, List.drop_of_length_le (by rw [bytesOf_length]; exact Nat.le_refl _)]
      rfl
    | succ d ih =>
      intro i st hd hI k hk
      obtain ⟨k, rfl⟩ : ∃ m, k = m + 1 := ⟨k - 1, by omega⟩
      obtain ⟨h1, h2⟩ := hstep k st i (by omega) (by omega) hI
      rw [drop_bt s i (by omega)]
      show g (k + 1) st i = some (match f st (bt s i) with | .inl st' => runL f fin ((bytesOf s).drop (i + 1)) st' | .inr b => b)
      cases hf : f st (bt s i) with
      | inl st' =>
        obtain ⟨e, hI'⟩ := h1 st' hf
        rw [e]
        exact ih (i + 1) st' (by omega) hI' k (by omega)
      | inr b => exact h2 b hf
  refine ⟨K + s.size + 1, fun k hk => ?_⟩
  have := key s.size 0 st (by omega) h0 k (by omega)
  rw [List.drop_zero] at this
  exact this

/-- A loop that asks each byte. -/
theorem ev_all (s : ByteArray) (p : Int → Bool) (g : Nat → Int → Option Bool) (K : Nat)
    (h1 : ∀ k (i : Nat), K ≤ k → i < s.size → p (bt s i) = true → g (k + 1) i = g k ((i + 1 : Nat) : Int))
    (h0 : ∀ k (i : Nat), K ≤ k → i < s.size → p (bt s i) = false → g (k + 1) i = some false)
    (he : ∀ k, K ≤ k → g (k + 1) (s.size : Int) = some true) : Ev (fun k => g k 0) ((bytesOf s).all p) := by
  have h := ev_run (σ := Unit) (β := Bool) s (fun _ _ => True) (fun _ c => if p c = true then .inl () else .inr false) (fun _ => true) (fun k _ i => g k i) K
    (fun k st i hk hi _ => ⟨fun st' e => ⟨h1 k i hk hi (by
        by_cases hp : p (bt s i) = true
        · exact hp
        · rw [if_neg hp] at e; cases e), trivial⟩, fun b e => by
        by_cases hp : p (bt s i) = true
        · rw [if_pos hp] at e; cases e
        · rw [if_neg hp] at e
          obtain rfl : false = b := by injection e
          exact h0 k i hk hi (by simpa using hp)⟩)
    (fun k st hk _ => he k hk) () trivial
  have e : ∀ l : List Int, runL (σ := Unit) (β := Bool) (fun _ c => if p c = true then .inl () else .inr false) (fun _ => true) l () = l.all p := by
    intro l
    induction l with
    | nil => rfl
    | cons c cs ih =>
      rw [List.all_cons]
      unfold runL
      by_cases hp : p c = true
      · simp only [hp, if_true, Bool.true_and]; exact ih
      · simp only [(by simpa using hp : p c = false), Bool.false_and, Bool.false_eq_true, if_false]
  rw [e] at h
  exact h
theorem runL_all {β : Type} (p : Int → Bool) (r b : β) (l : List Int) : runL (σ := Unit) (fun _ c => if p c = true then .inl () else .inr b) (fun _ => r) l () = if l.all p = true then r else b := by
  induction l with
  | nil => rfl
  | cons c cs ih =>
    rw [List.all_cons]
    unfold runL
    by_cases hp : p c = true
    · simp only [hp, if_true, Bool.true_and]; exact ih
    · simp only [(by simpa using hp : p c = false), Bool.false_and, Bool.false_eq_true, if_false]
/-- A loop that asks each byte, and goes on behind it. -/
theorem ev_allr {β : Type} (s : ByteArray) (p : Int → Bool) (r b : β) (g : Nat → Int → Option β) (K : Nat)
    (h1 : ∀ k (i : Nat), K ≤ k → i < s.size → p (bt s i) = true → g (k + 1) i = g k ((i + 1 : Nat) : Int))
    (h0 : ∀ k (i : Nat), K ≤ k → i < s.size → p (bt s i) = false → g (k + 1) i = some b)
    (he : ∀ k, K ≤ k → g (k + 1) (s.size : Int) = some r) : Ev (fun k => g k 0) (if (bytesOf s).all p = true then r else b) := by
  rw [← runL_all p r b (bytesOf s)]
  refine ev_run (σ := Unit) s (fun _ _ => True) (fun _ c => if p c = true then .inl () else .inr b) (fun _ => r) (fun k _ i => g k i) K
    (fun k st i hk hi _ => ⟨fun st' e => ⟨h1 k i hk hi (by
        by_cases hp : p (bt s i) = true
        · exact hp
        · rw [if_neg hp] at e; cases e), trivial⟩, fun b' e => by
        by_cases hp : p (bt s i) = true
        · rw [if_pos hp] at e; cases e
        · rw [if_neg hp] at e
          obtain rfl : b = b' := by injection e
          exact h0 k i hk hi (by simpa using hp)⟩)
    (fun k st hk _ => he k hk) () trivial
/-- A loop that puts something behind a list for each byte. -/
theorem runL_flat {β : Type} (f : Int → List Int) (fin : List Int → β) (l st : List Int) : runL (fun st c => .inl (st ++ f c)) fin l st = fin (st ++ l.flatMap f) := by
  induction l generalizing st with
  | nil => simp [runL]
  | cons c cs ih =>
    unfold runL
    simp only [ih, List.flatMap_cons, List.append_assoc]
theorem ev_const {α : Type} {x : Option α} {r : α} (h : x = some r) : Ev (fun _ => x) r := ⟨0, fun _ _ => h⟩
theorem ev_eq {α : Type} {g : Nat → Option α} {r r' : α} (h : Ev g r) (e : r = r') : Ev g r' := e ▸ h
/-- From a number of rounds on: a law that holds at each such number. -/
theorem ev_now {α : Type} {g : Nat → Option α} {r : α} (K : Nat) (h : ∀ k, K ≤ k → g k = some r) : Ev g r := ⟨K, h⟩
theorem all_congr' {l : List Int} {p q : Int → Bool} (h : ∀ c ∈ l, p c = q c) : l.all p = l.all q := by
  induction l with
  | nil => rfl
  | cons a l ih =>
    rw [List.all_cons, List.all_cons, h a List.mem_cons_self, ih fun c hc => h c (List.mem_cons_of_mem _ hc)]
theorem strOfNums_size (l : List Int) : (strOfNums l).size = l.length := by
  show (strOfNums l).data.size = _
  rw [← Array.length_toList, strOfNums_data, List.length_map]
end Go.Proofs.YtkaknffeoeoajaaDoor.Q
namespace Go.Proofs.YtkaknffeoeoajaaDoor.Q
set_option linter.unusedVariables false
set_option linter.unusedSimpArgs false
open Go.RowKit Go.Proofs.YtkaknffeoeoajaaDoor.P Go.Proofs.YtkaknffeoeoajaaDoorW.PrintWords Go.Proofs.YtkaknffeoeoajaaDoorW.PrintLast Go.Proofs.YtkaknffeoeoajaaDoorW.PrintMore

/-- From some number of rounds on it answers, and the answer is as told. -/
def TotP {α : Type} (g : Nat → Option α) (P : α → Prop) : Prop := ∃ r, Ev g r ∧ P r
theorem TotP.bind {α β : Type} {g : Nat → Option α} {f : Nat → α → Option β} {P : α → Prop} {Q : β → Prop} (h : TotP g P) (k : ∀ a, P a → TotP (fun n => f n a) Q) : TotP (fun n => (g n).bind (f n)) Q := by
  obtain ⟨a, ha, pa⟩ := h
  obtain ⟨b, hb, qb⟩ := k a pa
  exact ⟨b, Ev.bind ha hb, qb⟩
theorem TotP.of {α : Type} {x : Option α} {P : α → Prop} (h : ∃ r, x = some r ∧ P r) : TotP (fun _ => x) P := by
  obtain ⟨r, e, p⟩ := h
  exact ⟨r, ev_const e, p⟩
theorem TotP.now {α : Type} {r : α} {P : α → Prop} (p : P r) : TotP (fun _ => some r) P := ⟨r, Ev.now r, p⟩
theorem TotP.imp {α : Type} {g : Nat → Option α} {P Q : α → Prop} (h : TotP g P) (pq : ∀ r, P r → Q r) : TotP g Q := by
  obtain ⟨r, e, p⟩ := h
  exact ⟨r, e, pq r p⟩
theorem TotP.step {α : Type} {g f : Nat → Option α} {P : α → Prop} (h : ∀ k, g (k + 1) = f k) (t : TotP f P) : TotP g P := by
  obtain ⟨r, e, p⟩ := t
  exact ⟨r, Ev.step h e, p⟩
theorem TotP.ite {α : Type} {c : Prop} [Decidable c] {f g : Nat → Option α} {P : α → Prop} (hf : c → TotP f P) (hg : ¬ c → TotP g P) : TotP (fun k => if c then f k else g k) P := by
  by_cases h : c
  · simp only [if_pos h]; exact hf h
  · simp only [if_neg h]; exact hg h
theorem bindOf {α β : Type} {x : Option α} {f : α → Option β} {P : α → Prop} {Q : β → Prop} (h : ∃ r, x = some r ∧ P r) (k : ∀ a, P a → ∃ r, f a = some r ∧ Q r) : ∃ r, x.bind f = some r ∧ Q r := by
  obtain ⟨a, rfl, p⟩ := h
  exact k a p

theorem and255 (a : Int) : 0 ≤ Go.bits .and .i64 a 255 ∧ Go.bits .and .i64 a 255 ≤ 255 := by
  unfold Go.bits
  have h : ((BitVec.ofInt IntKind.i64.bits a) &&& (BitVec.ofInt IntKind.i64.bits 255)).toNat ≤ 255 := by
    rw [BitVec.toNat_and]
    exact Nat.le_trans Nat.and_le_right (by decide)
  show 0 ≤ IntKind.i64.wrap ((((BitVec.ofInt IntKind.i64.bits a) &&& (BitVec.ofInt IntKind.i64.bits 255)).toNat : Nat) : Int) ∧ IntKind.i64.wrap ((((BitVec.ofInt IntKind.i64.bits a) &&& (BitVec.ofInt IntKind.i64.bits 255)).toNat : Nat) : Int) ≤ 255
  generalize ((BitVec.ofInt IntKind.i64.bits a) &&& (BitVec.ofInt IntKind.i64.bits 255)).toNat = n at h ⊢
  rw [IntKind.wrap_i64]
  omega
/-- The cursor's place is no negative number. -/
theorem byte_ok (b : List Int) (i h : Int) (h0 : 0 ≤ i) (hb : b.length ≤ 140737488351232) : ∃ r : Int × Int × Int, spec_l1Byte.f b i h = some r ∧ (0 ≤ r.1 ∧ r.1 ≤ 255 ∧ 0 ≤ r.2.1) := by
  unfold spec_l1Byte.f
  by_cases hi : i < (b.length : Int)
  · rw [if_pos hi, if_pos h0]
    exact ⟨_, rfl, (and255 _).1, (and255 _).2, by show 0 ≤ wrap64 (i + 1); rw [wrap_in (by omega) (by omega)]; omega⟩
  · rw [if_neg hi]
    exact ⟨_, rfl, (and255 _).1, (and255 _).2, h0⟩
theorem below_ok (b : List Int) (i h n : Int) (h0 : 0 ≤ i) (hb : b.length ≤ 140737488351232) :
    ∃ r : Int × Int × Int, spec_l1Below.f b i h n = some r ∧ (0 ≤ r.1 ∧ (0 < n → r.1 < n) ∧ (n ≤ 0 → r.1 = 0) ∧ 0 ≤ r.2.1) := by
  unfold spec_l1Below.f
  by_cases hn : n ≤ 0
  · rw [if_pos hn]
    exact ⟨_, rfl, by show (0 : Int) ≤ 0; omega, fun h => by omega, fun _ => rfl, h0⟩
  · rw [if_neg hn]
    by_cases h2 : n ≤ 256
    · rw [if_pos h2]
      refine bindOf (byte_ok b i h h0 hb) fun r ⟨r0, r1, r2⟩ => ?_
      rw [if_neg (by omega)]
      refine ⟨_, rfl, ?_, fun _ => ?_, fun h => by omega, r2⟩
      · show 0 ≤ Int.tmod r.1 n
        rw [Int.tmod_eq_emod_of_nonneg r0]; exact Int.emod_nonneg _ (by omega)
      · show Int.tmod r.1 n < n
        rw [Int.tmod_eq_emod_of_nonneg r0]; exact Int.emod_lt_of_pos _ (by omega)
    · rw [if_neg h2]
      refine bindOf (byte_ok b i h h0 hb) fun r ⟨r0, r1, r2⟩ => ?_
      refine bindOf (byte_ok b _ _ r2 hb) fun s ⟨s0, s1, s2⟩ => ?_
      refine bindOf (byte_ok b _ _ s2 hb) fun t ⟨t0, t1, t2⟩ => ?_
      refine bindOf (byte_ok b _ _ t2 hb) fun u ⟨u0, u1, u2⟩ => ?_
      rw [if_neg (by omega)]
      rw [wrap_in (i := r.1 * 16777216) (by omega) (by omega), wrap_in (i := s.1 * 65536) (by omega) (by omega), wrap_in (i := r.1 * 16777216 + s.1 * 65536) (by omega) (by omega), wrap_in (i := t.1 * 256) (by omega) (by omega), wrap_in (i := r.1 * 16777216 + s.1 * 65536 + t.1 * 256) (by omega) (by omega), wrap_in (i := r.1 * 16777216 + s.1 * 65536 + t.1 * 256 + u.1) (by omega) (by omega)]
      refine ⟨_, rfl, ?_, fun _ => ?_, fun h => by omega, u2⟩
      · show 0 ≤ Int.tmod _ n
        rw [Int.tmod_eq_emod_of_nonneg (by omega)]; exact Int.emod_nonneg _ (by omega)
      · show Int.tmod _ n < n
        rw [Int.tmod_eq_emod_of_nonneg (by omega)]; exact Int.emod_lt_of_pos _ (by omega)
theorem once_ok (b : List Int) (i h n : Int) (h0 : 0 ≤ i) (hb : b.length ≤ 140737488351232) :
    ∃ r : Bool × Int × Int, spec_l1Once.f b i h n = some r ∧ 0 ≤ r.2.1 := by
  unfold spec_l1Once.f
  exact bindOf (below_ok b i h n h0 hb) fun r ⟨_, _, _, r3⟩ => ⟨_, rfl, r3⟩
theorem new_loop (b : List Int) (hb : b.length ≤ 140737488351232) (d : Nat) : ∀ (i : Nat) (x : Int), i + d = b.length → ∃ h, ∀ k, d < k → spec_l1New.l0 k b x (i : Int) = some (b, 0, h) := by
  induction d with
  | zero =>
    intro i x hd
    refine ⟨x, fun k hk => ?_⟩
    obtain ⟨k, rfl⟩ : ∃ z, k = z + 1 := ⟨k - 1, by omega⟩
    simp only [spec_l1New.l0]
    rw [if_neg (by omega)]
  | succ d ih =>
    intro i x hd
    obtain ⟨h, hh⟩ := ih (i + 1) (Go.bits .and .i64 (wrap64 ((wrap64 ((wrap64 (x * 137)) + (wrap64 (rd b (i : Int))))) + 11)) 1073741823) (by omega)
    refine ⟨h, fun k hk => ?_⟩
    obtain ⟨k, rfl⟩ : ∃ z, k = z + 1 := ⟨k - 1, by omega⟩
    simp only [spec_l1New.l0]
    rw [if_pos (by omega), if_pos (by omega), wrap_in (i := (i : Int) + 1) (by omega) (by omega)]
    exact hh k (by omega)
theorem new_ok (b : List Int) (hb : b.length ≤ 140737488351232) : TotP (fun k => spec_l1New.f k b) (fun r => r.1 = b ∧ 0 ≤ r.2.1) := by
  obtain ⟨h, hh⟩ := new_loop b hb b.length 0 (wrap64 (109013 + (b.length : Int))) (by omega)
  refine ⟨(b, 0, h), ⟨b.length + 1, fun k hk => ?_⟩, rfl, by show (0 : Int) ≤ 0; omega⟩
  unfold spec_l1New.f
  exact hh k (by omega)
end Go.Proofs.YtkaknffeoeoajaaDoor.Q
namespace Go.Proofs.YtkaknffeoeoajaaDoor.Q
set_option linter.unusedVariables false
set_option linter.unusedSimpArgs false
open Go.RowKit Go.Proofs.YtkaknffeoeoajaaDoor.P Go.Proofs.YtkaknffeoeoajaaDoorW.PrintWords
theorem bendL_ok (b : List Int) (hb : b.length ≤ 140737488351232) (s : ByteArray) (hs : 0 < s.size) (d : Nat) : ∀ (x : List Int) (i h : Int), 0 ≤ i → x.length + d < 1000000000 → TotP (fun k => bendL s b k x (d : Int) i h) (fun r => r.1.size ≤ x.length + d ∧ 0 ≤ r.2.1) := by
  induction d with
  | zero =>
    intro x i h h0 hx
    refine TotP.step (f := fun _ => some (strOfNums x, i, h)) (fun k => ?_) (TotP.now ⟨by show (strOfNums x).size ≤ _; rw [strOfNums_size]; omega, h0⟩)
    rw [bendL, if_neg (fun q => absurd q.1 (by omega))]
  | succ d ih =>
    intro x i h h0 hx
    by_cases hn : 0 < x.length
    · have hw : wrap64 (((d + 1 : Nat) : Int) - 1) = (d : Int) := by rw [wrap_in (by omega) (by omega)]; omega
      refine TotP.step (f := fun k => (spec_l1Below.f b i h (x.length : Int)).bind fun r1 => (spec_l1Below.f b r1.2.1 r1.2.2 4).bind fun r2 =>
        if 0 ≤ r1.1 ∧ r1.1 < (x.length : Int) ∧ x.length < 1000000000 then
          if r2.1 = 0 then (spec_l1Below.f b r2.2.1 r2.2.2 (s.size : Int)).bind fun r3 => if 0 ≤ r3.1 ∧ r3.1 < (s.size : Int) then bendL s b k (x.set r1.1.toNat (bt s r3.1)) (d : Int) r3.2.1 r3.2.2 else none
          else if r2.1 = 1 then bendL s b k (x.take r1.1.toNat) (d : Int) r2.2.1 r2.2.2
          else if r2.1 = 2 then bendL s b k (x.take r1.1.toNat ++ x.drop (r1.1 + 1).toNat) (d : Int) r2.2.1 r2.2.2
          else if r2.1 = 3 then (spec_l1Below.f b r2.2.1 r2.2.2 (s.size : Int)).bind fun r3 => if 0 ≤ r3.1 ∧ r3.1 < (s.size : Int) then bendL s b k (x.take r1.1.toNat ++ [bt s r3.1] ++ x.drop r1.1.toNat) (d : Int) r3.2.1 r3.2.2 else none
          else bendL s b k x (d : Int) r2.2.1 r2.2.2
        else none) (fun k => ?_) ?_
      · rw [bendL, if_pos ⟨by omega, hn⟩, hw]
      · refine TotP.bind (TotP.of (below_ok b i h (x.length : Int) h0 hb)) fun r1 p1 => TotP.bind (TotP.of (below_ok b _ _ 4 p1.2.2.2 hb)) fun r2 p2 => ?_
        have hr1 := p1.2.1 (by omega)
        have hr0 := p1.1
        refine TotP.ite (fun _ => ?_) (fun c => absurd ⟨hr0, hr1, by omega⟩ c)
        refine TotP.ite (fun _ => ?_) fun _ => TotP.ite (fun _ => ?_) fun _ => TotP.ite (fun _ => ?_) fun _ => TotP.ite (fun _ => ?_) fun _ => ?_
        · refine TotP.bind (TotP.of (below_ok b _ _ (s.size : Int) p2.2.2.2 hb)) fun r3 p3 => TotP.ite (fun _ => ?_) (fun c => absurd ⟨p3.1, p3.2.1 (by omega)⟩ c)
          have hl : (x.set r1.1.toNat (bt s r3.1)).length = x.length := List.length_set
          exact (ih _ _ _ p3.2.2.2 (by omega)).imp fun r hr => ⟨by omega, hr.2⟩
        · have hl : (x.take r1.1.toNat).length ≤ x.length := by rw [List.length_take]; omega
          exact (ih _ _ _ p2.2.2.2 (by omega)).imp fun r hr => ⟨by omega, hr.2⟩
        · have hl : (x.take r1.1.toNat ++ x.drop (r1.1 + 1).toNat).length ≤ x.length := by rw [List.length_append, List.length_take, List.length_drop]; omega
          exact (ih _ _ _ p2.2.2.2 (by omega)).imp fun r hr => ⟨by omega, hr.2⟩
        · refine TotP.bind (TotP.of (below_ok b _ _ (s.size : Int) p2.2.2.2 hb)) fun r3 p3 => TotP.ite (fun _ => ?_) (fun c => absurd ⟨p3.1, p3.2.1 (by omega)⟩ c)
          have hl : (x.take r1.1.toNat ++ [bt s r3.1] ++ x.drop r1.1.toNat).length ≤ x.length + 1 := by rw [List.length_append, List.length_append, List.length_take, List.length_drop, List.length_singleton]; omega
          exact (ih _ _ _ p3.2.2.2 (by omega)).imp fun r hr => ⟨by omega, hr.2⟩
        · exact (ih _ _ _ p2.2.2.2 (by omega)).imp fun r hr => ⟨by omega, hr.2⟩
    · refine TotP.step (f := fun _ => some (strOfNums x, i, h)) (fun k => ?_) (TotP.now ⟨by show (strOfNums x).size ≤ _; rw [strOfNums_size]; omega, h0⟩)
      rw [bendL, if_neg (fun q => hn q.2)]
theorem bend_ok (b : List Int) (hb : b.length ≤ 140737488351232) (t s : ByteArray) (ht : t.size ≤ 100000000) (hs : 0 < s.size) (i h : Int) (h0 : 0 ≤ i) : TotP (fun k => spec_l1Bend.f k b i h t s) (fun r => r.1.size ≤ t.size + 2 ∧ 0 ≤ r.2.1) := by
  unfold spec_l1Bend.f
  refine TotP.ite (fun _ => ?_) (fun c => absurd (by omega) c)
  refine TotP.bind (TotP.of (below_ok b i h 3 h0 hb)) fun r p => ?_
  have h3 := p.2.1 (by decide)
  have h2 := p.1
  have hl := bytesOf_length t
  have := bendL_ok b hb s hs r.1.toNat (bytesOf t) r.2.1 r.2.2 p.2.2.2 (by omega)
  rw [Int.toNat_of_nonneg h2] at this
  exact this.imp fun q hq => ⟨by omega, hq.2⟩
end Go.Proofs.YtkaknffeoeoajaaDoor.Q
namespace Go.Proofs.YtkaknffeoeoajaaDoor.Q
set_option linter.unusedVariables false
set_option linter.unusedSimpArgs false
open Go.RowKit Go.Proofs.YtkaknffeoeoajaaDoor.P Go.Proofs.YtkaknffeoeoajaaDoorW.PrintWords Go.Proofs.YtkaknffeoeoajaaDoorW.PrintLast Go.Proofs.YtkaknffeoeoajaaDoorW.PrintMore

theorem cut_nil (sub : List UInt8) (h : sub ≠ []) : Lib.cut [] sub = ([], [], false) := by
  unfold Lib.cut Lib.index
  cases sub with
  | nil => exact absurd rfl h
  | cons a t => rfl
theorem cut_cons (b : UInt8) (l sub : List UInt8) : Lib.cut (b :: l) sub = if sub.isPrefixOf (b :: l) = true then ([], (b :: l).drop sub.length, true) else if (Lib.cut l sub).2.2 = true then (b :: (Lib.cut l sub).1, (Lib.cut l sub).2.1, true) else (b :: l, [], false) := by
  have hge := Lib.index_ge l sub
  unfold Lib.cut
  by_cases h : sub.isPrefixOf (b :: l) = true
  · have e : Lib.index (b :: l) sub = 0 := by unfold Lib.index; rw [if_pos h]
    rw [e, if_pos h]
    simp
  · rw [if_neg h]
    by_cases h2 : 0 ≤ Lib.index l sub
    · have e : Lib.index (b :: l) sub = Lib.index l sub + 1 := by
        rw [Lib.index, if_neg h, if_neg]
        rw [beq_iff_eq]
        omega
      obtain ⟨n, hn⟩ : ∃ n : Nat, Lib.index l sub = (n : Int) := ⟨(Lib.index l sub).toNat, by omega⟩
      have e2 : ((n : Int) + 1).toNat = n + 1 := by omega
      simp only [e, hn, if_pos (show (0 : Int) ≤ (n : Int) by omega), if_pos (show (0 : Int) ≤ (n : Int) + 1 by omega), e2, Int.toNat_natCast, if_true]
      rw [show n + 1 + sub.length = (n + sub.length) + 1 by omega]
      rfl
    · have e : Lib.index (b :: l) sub = -1 := by
        rw [Lib.index, if_neg h, if_pos]
        rw [beq_iff_eq]
        omega
      rw [e, if_neg (by omega), if_neg h2]
      simp
theorem pre_one (c b : UInt8) (l : List UInt8) : ([c] : List UInt8).isPrefixOf (b :: l) = (c == b) := by simp [List.isPrefixOf]
/-- A cut at one byte: where it was found, the text is what stood ahead of it, it, and what stands behind. -/
theorem cut_one_found (c : UInt8) (l : List UInt8) : (Lib.cut l [c]).2.2 = true → l = (Lib.cut l [c]).1 ++ c :: (Lib.cut l [c]).2.1 := by
  induction l with
  | nil => rw [cut_nil [c] (by simp)]; intro h; cases h
  | cons b l ih =>
    rw [cut_cons, pre_one]
    by_cases h : (c == b) = true
    · rw [if_pos h]
      intro _
      rw [beq_iff_eq.1 h]
      rfl
    · rw [if_neg h]
      by_cases h2 : (Lib.cut l [c]).2.2 = true
      · rw [if_pos h2]
        intro _
        show b :: l = b :: ((Lib.cut l [c]).1 ++ c :: (Lib.cut l [c]).2.1)
        rw [← ih h2]
      · rw [if_neg h2]
        intro h3
        cases h3
theorem cut_one_not (c : UInt8) (l : List UInt8) : (Lib.cut l [c]).2.2 = false → c ∉ l := by
  induction l with
  | nil => intro _ h; cases h
  | cons b l ih =>
    rw [cut_cons, pre_one]
    by_cases h : (c == b) = true
    · rw [if_pos h]
      intro h3
      cases h3
    · rw [if_neg h]
      by_cases h2 : (Lib.cut l [c]).2.2 = true
      · rw [if_pos h2]
        intro h3
        cases h3
      · intro _ hm
        rcases List.mem_cons.1 hm with hm | hm
        · exact h (beq_iff_eq.2 hm)
        · exact ih (by simpa using h2) hm
/-- A line up to 13, 10, without another 13 or 10, and what stands behind. -/
def lineOf : List UInt8 → Option (List UInt8 × List UInt8)
  | [] => none
  | c :: r => if c = 10 then none else if c = 13 then (match r with | d :: q => if d = 10 then some ([], q) else none | [] => none) else (lineOf r).map fun x => (c :: x.1, x.2)
theorem line_cut (s : List UInt8) : (∀ l q, lineOf s = some (l, q) → Lib.cut s [13, 10] = (l, q, true) ∧ s = l ++ 13 :: 10 :: q) ∧ (lineOf s = none → (Lib.cut s [13, 10]).2.2 = true → (13 : UInt8) ∈ (Lib.cut s [13, 10]).1 ∨ (10 : UInt8) ∈ (Lib.cut s [13, 10]).1) := by
  induction s with
  | nil => exact ⟨fun l q h => by simp [lineOf] at h, fun _ h => by rw [cut_nil _ (by simp)] at h; cases h⟩
  | cons c r ih =>
    rw [cut_cons]
    by_cases h10 : c = 10
    · have hp : ¬ (([13, 10] : List UInt8).isPrefixOf (c :: r) = true) := by rw [h10]; simp [List.isPrefixOf]
      rw [if_neg hp]
      refine ⟨fun l q h => by simp [lineOf, h10] at h, fun _ h => ?_⟩
      by_cases h2 : (Lib.cut r [13, 10]).2.2 = true
      · rw [if_pos h2]
        exact .inr (by rw [h10]; exact List.mem_cons_self)
      · rw [if_neg h2] at h
        cases h
    · by_cases h13 : c = 13
      · cases r with
        | nil =>
          have hp : ¬ (([13, 10] : List UInt8).isPrefixOf [c] = true) := by simp [List.isPrefixOf]
          rw [if_neg hp, cut_nil _ (by simp)]
          exact ⟨fun l q h => by simp [lineOf, h10, h13] at h, fun _ h => by cases h⟩
        | cons d q =>
          by_cases hd : d = 10
          · have hp : ([13, 10] : List UInt8).isPrefixOf (c :: d :: q) = true := by rw [h13, hd]; simp [List.isPrefixOf]
            rw [if_pos hp]
            refine ⟨fun l q' h => ?_, fun h => by simp [lineOf, h13, hd] at h⟩
            simp [lineOf, h13, hd] at h
            obtain ⟨rfl, rfl⟩ := h
            exact ⟨rfl, by rw [h13, hd]; rfl⟩
          · have hp : ¬ (([13, 10] : List UInt8).isPrefixOf (c :: d :: q) = true) := by
              rw [h13]
              simp [List.isPrefixOf]
              exact fun e => hd e.symm
            rw [if_neg hp]
            refine ⟨fun l q' h => by simp [lineOf, h13, hd] at h, fun _ h => ?_⟩
            by_cases h2 : (Lib.cut (d :: q) [13, 10]).2.2 = true
            · rw [if_pos h2]
              exact .inl (by rw [h13]; exact List.mem_cons_self)
            · rw [if_neg h2] at h
              cases h
      · have hp : ¬ (([13, 10] : List UInt8).isPrefixOf (c :: r) = true) := by
          simp [List.isPrefixOf]
          exact fun e => absurd e.symm h13
        rw [if_neg hp]
        have e : lineOf (c :: r) = (lineOf r).map fun x => (c :: x.1, x.2) := by
          rw [lineOf.eq_def]
          simp only [if_neg h10, if_neg h13]
        rw [e]
        constructor
        · intro l q h
          cases hr : lineOf r with
          | none => rw [hr] at h; cases h
          | some x =>
            rw [hr] at h
            obtain ⟨a, b⟩ := x
            obtain ⟨h1, h2⟩ := ih.1 a b hr
            rw [h1]
            simp only [Option.map_some, Option.some.injEq, Prod.mk.injEq] at h
            obtain ⟨rfl, rfl⟩ := h
            exact ⟨by simp, by rw [h2]; rfl⟩
        · intro h hf
          have hr : lineOf r = none := by
            cases hr : lineOf r with
            | none => rfl
            | some x => rw [hr] at h; cases h
          by_cases h2 : (Lib.cut r [13, 10]).2.2 = true
          · rw [if_pos h2]
            rcases ih.2 hr h2 with h3 | h3
            · exact .inl (List.mem_cons_of_mem _ h3)
            · exact .inr (List.mem_cons_of_mem _ h3)
          · rw [if_neg h2] at hf
            cases hf
theorem drop_u8 (s : ByteArray) (i : Nat) (h : i < s.size) : ∃ c : UInt8, s.data.toList.drop i = c :: s.data.toList.drop (i + 1) ∧ bt s (i : Int) = (c.toNat : Int) := by
  have h1 : i < s.data.toList.length := by rw [Array.length_toList]; exact h
  refine ⟨s.data.toList[i]'h1, List.drop_eq_getElem_cons h1, ?_⟩
  have := bt_get s i h
  unfold bytesOf at this
  rw [List.getElem?_map, List.getElem?_eq_getElem h1] at this
  exact (Option.some.inj this).symm
theorem u8_eq (c : UInt8) (n : Nat) (hn : n < 256) : ((c.toNat : Int) = (n : Int)) ↔ c = UInt8.ofNat n := by
  constructor
  · intro h
    apply UInt8.toNat_inj.1
    rw [UInt8.toNat_ofNat']
    omega
  · rintro rfl
    rw [UInt8.toNat_ofNat']
    omega
end Go.Proofs.YtkaknffeoeoajaaDoor.Q
namespace Go.Proofs.YtkaknffeoeoajaaDoor.P
set_option linter.unusedVariables false
set_option linter.unusedSimpArgs false
open Go.RowKit Go.Proofs.YtkaknffeoeoajaaDoorW.PrintWords Go.Proofs.YtkaknffeoeoajaaDoorW.PrintLast Go.Proofs.YtkaknffeoeoajaaDoorW.PrintMore

def strconv_FormatInt.f (a0 a1 : Int) : Option ByteArray :=
  if a1 = 10 ∧ -9223372036854775808 ≤ a0 ∧ a0 ≤ 9223372036854775807 then some ⟨(Lib.itoa a0).toArray⟩ else none
theorem strconv_FormatInt.calls (a0 a1 : Int) (r : ByteArray) (w : World) (hX : XW 6 w) (h : strconv_FormatInt.f a0 a1 = some r) :
    Calls Tryd.prog 94 #[.int .i64 a0, .int .i64 a1] w fun e w' => e = .returned (.string r) ∧ Below w.heap.size w w' := by
  unfold strconv_FormatInt.f at h
  split at h
  · rename_i hc
    obtain ⟨rfl, h0, h1⟩ := hc
    obtain rfl := Option.some.inj h
    refine (Tryd.strconv_FormatInt_10 a0 h0 h1 w (hX.pow10 rfl)).mono ?_
    rintro e w' ⟨rfl, k, os, rfl⟩
    exact ⟨rfl, below_grow k os⟩
  · cases h
end Go.Proofs.YtkaknffeoeoajaaDoor.P
namespace Go.Proofs.YtkaknffeoeoajaaDoor.P
open Go.RowKit Go.Proofs.YtkaknffeoeoajaaDoorW.PrintWords Go.Proofs.YtkaknffeoeoajaaDoorW.PrintLast Go.Proofs.YtkaknffeoeoajaaDoorW.PrintMore
attribute [local go_sem] max2_int min2_int max_two min_two max_three min_three max_four min_four   -- for this text's walks alone
set_option linter.unusedVariables false
set_option linter.unusedSimpArgs false

/-! ### impl_decimal: function 70 -/
def impl_decimal.f (a0 : Int) : Option (ByteArray) := (strconv_FormatInt.f a0 10).bind fun t101 => (some t101)
set_option maxHeartbeats 8000000 in
set_option maxRecDepth 100000 in
theorem impl_decimal.calls (a0 : Int) (r : ByteArray) (w : World) (hX : XW 6 w) (h : impl_decimal.f a0 = some r) :
  Calls Tryd.prog 70 #[.int .i64 a0] w fun e w' => e = .returned (.string r) ∧ Below w.heap.size w w' := by
 have HB := Aside0.mk (Below.refl w.heap.size w)
 have H : ((strconv_FormatInt.f a0 10).bind fun t101 => (some t101)) = some r := h
 clear h
 replace H := Option.bind_eq_some_iff.mp H
 obtain ⟨t101, A20, H⟩ := H
 replace H : (some t101) = some r := H
 have A2 := Aside0.mk A20
 clear A20
 obtain rfl := Option.some.inj H
 go_enter Tryd.func70, Tryd.ntmps70
 go_wp2_with (first | ((with_reducible refine gate_callee (f := 94) rfl ?_); refine goesL_ (some 4) rfl rfl Tryd.func94 (by kernel_rfl) rfl #[.int .i64 a0, .int .i64 10] rfl mc ?_; (with_reducible refine (strconv_FormatInt.calls a0 10 t101 _ ?side1 A2.out).mono ?_); (case side1 => exact XW.to (XW.stays hX bh) (by decide)); rintro e w3 ⟨rfl, hb⟩; refine ⟨_, rfl, ?_⟩; replace HB := Aside0.mk (below_step bh hb); (try clear hb); (try clear hb2); (try clear hk); (try clear hi)))
 go_ret
 exact ⟨er, bh⟩
end Go.Proofs.YtkaknffeoeoajaaDoor.P
namespace Go.Proofs.YtkaknffeoeoajaaDoor.Q
set_option linter.unusedVariables false
set_option linter.unusedSimpArgs false
open Go.RowKit Go.Proofs.YtkaknffeoeoajaaDoor.P Go.Proofs.YtkaknffeoeoajaaDoorW.PrintWords Go.Proofs.YtkaknffeoeoajaaDoorW.PrintLast Go.Proofs.YtkaknffeoeoajaaDoorW.PrintMore

def ofL (l : List UInt8) : ByteArray := ⟨l.toArray⟩
theorem ofL_append (a b : List UInt8) : ofL a ++ ofL b = ofL (a ++ b) := by
  apply ByteArray.ext
  apply Array.toList_inj.1
  simp [ofL, ByteArray.data_append]
theorem ofL_size (l : List UInt8) : (ofL l).size = l.length := by
  show l.toArray.size = l.length
  simp
theorem ofL_toList (l : List UInt8) : (ofL l).toList = l := by
  rw [toList_data]
  rfl
theorem ofL_data (s : ByteArray) : ofL s.data.toList = s := by
  apply ByteArray.ext
  apply Array.toList_inj.1
  rfl
theorem strOf_one (c : Int) : strOfNums [c] = ofL [UInt8.ofNat c.toNat] := by
  apply ByteArray.ext
  apply Array.toList_inj.1
  rw [strOfNums_data]
  rfl
/-- A number's decimal numeral. -/
def decT (n : Int) : ByteArray := ofL (Lib.itoa n)
theorem impl_decimal_is (n : Int) (h0 : -9223372036854775808 ≤ n) (h1 : n ≤ 9223372036854775807) : impl_decimal.f n = some (decT n) := by
  unfold impl_decimal.f strconv_FormatInt.f
  first | rw [if_pos ⟨rfl, h0, h1⟩] | rw [if_neg (by omega), if_pos ⟨rfl, h0, h1⟩]
  rfl
theorem decT_size (n : Int) (h0 : 0 ≤ n) (h1 : n ≤ 9000000000000000000) : (decT n).size ≤ 19 := by
  unfold decT
  rw [ofL_size]
  unfold Lib.itoa
  rw [if_neg (by omega), Lib.decDigits_length]
  have key : ∀ (d u : Nat), u < 10 ^ (d + 1) → Lib.nDigits u ≤ d + 1 := by
    intro d
    induction d with
    | zero => intro u hu; rw [Lib.nDigits_small (by simpa using hu)]; omega
    | succ d ih =>
      intro u hu
      by_cases h : u < 10
      · rw [Lib.nDigits_small h]; omega
      · rw [Lib.nDigits_big h]
        have := ih (u / 10) (by rw [Nat.pow_succ] at hu; omega)
        omega
  exact key 18 n.toNat (by omega)
theorem drawText_end (b : List Int) (hb : b.length ≤ 140737488351232) (x : List Int) (i h : Int) (h0 : 0 ≤ i) (k : Nat) : ∃ r, spec_l1DrawText.j1 (k + 1) x (decide ((x.length : Int) > 0)) b i h = some r ∧ (0 ≤ r.2.1 ∧ r.1.size = x.length) := by
  simp only [spec_l1DrawText.j1]
  by_cases hx : (x.length : Int) > 0
  · rw [decide_eq_true hx, if_pos rfl]
    refine bindOf (below_ok b i h _ h0 hb) fun r0 p0 => ?_
    refine bindOf (byte_ok b _ _ p0.2.2.2 hb) fun r1 p1 => ?_
    rw [if_pos p0.1, if_pos (p0.2.1 (by omega))]
    exact ⟨_, rfl, p1.2.2, by show (strOfNums _).size = _; rw [strOfNums_size, List.length_set]⟩
  · rw [decide_eq_false hx, if_neg (by simp)]
    exact ⟨_, rfl, h0, by show (strOfNums _).size = _; rw [strOfNums_size]⟩
theorem drawText_stop (b : List Int) (hb : b.length ≤ 140737488351232) (x : List Int) (i h : Int) (h0 : 0 ≤ i) (k : Nat) : ∃ r, spec_l1DrawText.j1 (k + 1) x false b i h = some r ∧ (0 ≤ r.2.1 ∧ r.1.size = x.length) := by
  simp only [spec_l1DrawText.j1]
  rw [if_neg (by simp)]
  exact ⟨_, rfl, h0, by show (strOfNums _).size = _; rw [strOfNums_size]⟩
theorem drawText_loop (b : List Int) (hb : b.length ≤ 140737488351232) (signs : ByteArray) (hs : 0 < signs.size) (d : Nat) : ∀ (x : List Int) (i h : Int), 0 ≤ i → x.length + d ≤ 1000000 →
    ∃ r, (0 ≤ r.2.1 ∧ r.1.size = x.length + d) ∧ ∀ k, d + 1 < k → spec_l1DrawText.l0 k signs x (d : Int) b i h = some r := by
  induction d with
  | zero =>
    intro x i h h0 hd
    obtain ⟨r0, e0, p0⟩ := once_ok b i h 14 h0 hb
    by_cases hc : r0.1 = true
    · obtain ⟨r1, _, p1⟩ := drawText_end b hb x r0.2.1 r0.2.2 p0 0
      refine ⟨r1, p1, fun k hk => ?_⟩
      obtain ⟨k, rfl⟩ : ∃ z, k = z + 2 := ⟨k - 2, by omega⟩
      simp only [spec_l1DrawText.l0]
      rw [if_neg (by omega), e0]
      simp only [Option.bind_some]
      rw [if_pos hc]
      obtain ⟨r2, e2, _⟩ := drawText_end b hb x r0.2.1 r0.2.2 p0 k
      have e3 : spec_l1DrawText.j1 (k + 1) x (decide ((x.length : Int) > 0)) b r0.2.1 r0.2.2 = spec_l1DrawText.j1 (0 + 1) x (decide ((x.length : Int) > 0)) b r0.2.1 r0.2.2 := by simp only [spec_l1DrawText.j1]
      rw [e3]
      assumption
    · refine ⟨(strOfNums x, r0.2.1, r0.2.2), ⟨p0, by show (strOfNums x).size = _; rw [strOfNums_size]; rfl⟩, fun k hk => ?_⟩
      obtain ⟨k, rfl⟩ : ∃ z, k = z + 2 := ⟨k - 2, by omega⟩
      simp only [spec_l1DrawText.l0]
      rw [if_neg (by omega), e0]
      simp only [Option.bind_some]
      rw [if_neg hc]
      simp only [spec_l1DrawText.j1]
      rw [if_neg (by simp)]
  | succ d ih =>
    intro x i h h0 hd
    obtain ⟨r0, e0, p0⟩ := below_ok b i h (signs.size : Int) h0 hb
    obtain ⟨r, p, hr⟩ := ih (x ++ [bt signs r0.1]) r0.2.1 r0.2.2 p0.2.2.2 (by rw [List.length_append, List.length_singleton]; omega)
    refine ⟨r, ⟨p.1, by rw [p.2, List.length_append, List.length_singleton]; omega⟩, fun k hk => ?_⟩
    obtain ⟨k, rfl⟩ : ∃ z, k = z + 1 := ⟨k - 1, by omega⟩
    simp only [spec_l1DrawText.l0]
    rw [if_pos (by omega), e0]
    simp only [Option.bind_some]
    rw [if_pos p0.1, if_pos (p0.2.1 (by omega)), if_pos (by omega), wrap_in (i := ((d + 1 : Nat) : Int) - 1) (by omega) (by omega), show ((d + 1 : Nat) : Int) - 1 = (d : Int) by omega]
    exact hr k (by omega)
theorem drawText_ok (b : List Int) (hb : b.length ≤ 140737488351232) (i h : Int) (h0 : 0 ≤ i) (signs : ByteArray) (hs : 0 < signs.size) (m : Int) (m0 : 0 ≤ m) (m1 : m ≤ 1000) :
    TotP (fun k => spec_l1DrawText.f k b i h signs m) (fun r => 0 ≤ r.2.1 ∧ r.1.size ≤ m.toNat) := by
  unfold spec_l1DrawText.f
  rw [wrap_in (i := m + 1) (by omega) (by omega)]
  refine TotP.bind (TotP.of (below_ok b i h _ h0 hb)) fun r0 p0 => ?_
  obtain ⟨r, p, hr⟩ := drawText_loop b hb signs hs r0.1.toNat [] r0.2.1 r0.2.2 p0.2.2.2 (by have := p0.2.1 (by omega); simp only [List.length_nil]; omega)
  refine ⟨r, ⟨r0.1.toNat + 2, fun k hk => ?_⟩, p.1, by rw [p.2]; have := p0.2.1 (by omega); simp only [List.length_nil]; omega⟩
  have := hr k (by omega)
  rw [Int.toNat_of_nonneg p0.1] at this
  exact this
theorem rd_byte (b : List Int) (hx : ∀ x ∈ b, 0 ≤ x ∧ x ≤ 255) (i : Int) : 0 ≤ rd b i ∧ rd b i ≤ 255 := by
  unfold rd
  rw [List.getD_eq_getElem?_getD]
  cases h : b[i.toNat]? with
  | none => exact ⟨by decide, by decide⟩
  | some v => exact hx v (List.mem_of_getElem? h)
theorem pick_loop (b : List Int) (hb : b.length ≤ 140737488351232) (hx : ∀ x ∈ b, 0 ≤ x ∧ x ≤ 255) (s n : Int) (hs : 0 ≤ s ∧ s ≤ 1000) (hn : 0 < n) (d : Nat) : ∀ (i : Nat) (x : Int), i + d = b.length → 0 ≤ x → x ≤ 9000000000000000 → (∃ r, (0 ≤ r ∧ r < n) ∧ ∀ k, d < k → laws_pick.l0 k b s n x (i : Int) = some r) := by
  induction d with
  | zero =>
    intro i x hd x0 x1
    refine ⟨Int.tmod x n, ?_, fun k hk => ?_⟩
    · rw [Int.tmod_eq_emod_of_nonneg x0]; exact ⟨Int.emod_nonneg _ (by omega), Int.emod_lt_of_pos _ hn⟩
    obtain ⟨k, rfl⟩ : ∃ z, k = z + 1 := ⟨k - 1, by omega⟩
    simp only [laws_pick.l0]
    rw [if_neg (by omega), if_neg (by omega)]
  | succ d ih =>
    intro i x hd x0 x1
    have hr := rd_byte b hx (i : Int)
    have e : wrap64 ((wrap64 ((wrap64 (x * 113)) + (wrap64 (rd b (i : Int))))) + s) = x * 113 + rd b (i : Int) + s := by
      rw [wrap_in (i := x * 113) (by omega) (by omega), wrap_in (i := rd b (i : Int)) (by omega) (by omega), wrap_in (i := x * 113 + rd b (i : Int)) (by omega) (by omega), wrap_in (by omega) (by omega)]
    have e1 : 0 ≤ Int.tmod (x * 113 + rd b (i : Int) + s) 1000003 ∧ Int.tmod (x * 113 + rd b (i : Int) + s) 1000003 ≤ 9000000000000000 := by
      rw [Int.tmod_eq_emod_of_nonneg (by omega)]
      omega
    obtain ⟨r, p, hr⟩ := ih (i + 1) (Int.tmod (x * 113 + rd b (i : Int) + s) 1000003) (by omega) e1.1 e1.2
    refine ⟨r, p, fun k hk => ?_⟩
    obtain ⟨k, rfl⟩ : ∃ z, k = z + 1 := ⟨k - 1, by omega⟩
    simp only [laws_pick.l0]
    rw [if_pos (by omega), if_pos (by omega), wrap_in (i := (i : Int) + 1) (by omega) (by omega), e]
    exact hr k (by omega)
theorem pick_ok (b : List Int) (hb : b.length ≤ 140737488351232) (hx : ∀ x ∈ b, 0 ≤ x ∧ x ≤ 255) (s n : Int) (hs : 0 ≤ s ∧ s ≤ 1000) (hn : 0 < n) : TotP (fun k => laws_pick.f k b s n) (fun r => 0 ≤ r ∧ r < n) := by
  have e : wrap64 ((b.length : Int) + (wrap64 (7919 * s))) = b.length + 7919 * s := by rw [wrap_in (i := 7919 * s) (by omega) (by omega), wrap_in (by omega) (by omega)]
  obtain ⟨r, p, hr⟩ := pick_loop b hb hx s n hs hn b.length 0 ((b.length : Int) + 7919 * s) (by omega) (by omega) (by omega)
  refine ⟨r, ⟨b.length + 1, fun k hk => ?_⟩, p⟩
  unfold laws_pick.f
  rw [e]
  exact hr k (by omega)
theorem drop_at {α : Type} (l : List α) (d : α) (i : Nat) (h : i < l.length) : l.drop i = l.getD i d :: l.drop (i + 1) := by
  rw [List.getD_eq_getElem?_getD, List.getElem?_eq_getElem h]
  exact List.drop_eq_getElem_cons h
/-- A loop over a list: what a round does with its state and an element; an end ahead of time. -/
def runA {α σ β : Type} (f : σ → α → σ ⊕ β) (fin : σ → β) : List α → σ → β
  | [], st => fin st
  | c :: cs, st => match f st c with
    | .inl st' => runA f fin cs st'
    | .inr b => b
theorem ev_list {α σ β : Type} (l : List α) (d : α) (I : σ → Nat → Prop) (f : σ → α → σ ⊕ β) (fin : σ → β) (g : Nat → σ → Int → Option β)
    (hstep : ∀ st (i : Nat), i < l.length → I st i → (∀ st', f st (l.getD i d) = .inl st' → I st' (i + 1) ∧ ∀ r, Ev (fun k => g k st' ((i + 1 : Nat) : Int)) r → Ev (fun k => g k st (i : Int)) r) ∧ (∀ b, f st (l.getD i d) = .inr b → Ev (fun k => g k st (i : Int)) b))
    (hend : ∀ st, I st l.length → Ev (fun k => g k st (l.length : Int)) (fin st)) (st : σ) (h0 : I st 0) :
    Ev (fun k => g k st 0) (runA f fin l st) := by
  have key : ∀ (n i : Nat) (st : σ), i + n = l.length → I st i → Ev (fun k => g k st (i : Int)) (runA f fin (l.drop i) st) := by
    intro n
    induction n with
    | zero =>
      intro i st hd hI
      have e : i = l.length := by omega
      subst e
      rw [List.drop_of_length_le (Nat.le_refl _)]
      exact hend st hI
    | succ n ih =>
      intro i st hd hI
      obtain ⟨h1, h2⟩ := hstep st i (by omega) hI
      rw [drop_at l d i (by omega)]
      show Ev _ (match f st (l.getD i d) with | .inl st' => runA f fin (l.drop (i + 1)) st' | .inr b => b)
      cases hf : f st (l.getD i d) with
      | inl st' =>
        obtain ⟨hI', hr⟩ := h1 st' hf
        exact hr _ (ih (i + 1) st' (by omega) hI')
      | inr b => exact h2 b hf
  have := key l.length 0 st (by omega) h0
  rw [List.drop_zero] at this
  exact this
theorem mem_getD {α : Type} {l : List α} {d : α} {i : Nat} (h : i < l.length) : l.getD i d ∈ l := by
  rw [List.getD_eq_getElem?_getD, List.getElem?_eq_getElem h]
  exact List.getElem_mem h
/-- A loop that asks each element, and goes on behind it. -/
theorem ev_listAll {α β : Type} (l : List α) (d : α) (p : α → Bool) (r b : β) (g : Nat → Int → Option β)
    (h1 : ∀ (i : Nat), i < l.length → p (l.getD i d) = true → ∀ x, Ev (fun k => g k ((i + 1 : Nat) : Int)) x → Ev (fun k => g k (i : Int)) x)
    (h0 : ∀ (i : Nat), i < l.length → p (l.getD i d) = false → Ev (fun k => g k (i : Int)) b)
    (he : Ev (fun k => g k (l.length : Int)) r) : Ev (fun k => g k 0) (if l.all p = true then r else b) := by
  have h := ev_list (σ := Unit) (β := β) l d (fun _ _ => True) (fun _ c => if p c = true then .inl () else .inr b) (fun _ => r) (fun k _ i => g k i)
    (fun st i hi _ => ⟨fun st' e => ⟨trivial, by
        by_cases hp : p (l.getD i d) = true
        · exact h1 i hi hp
        · rw [if_neg hp] at e; cases e⟩, fun b' e => (by
        by_cases hp : p (l.getD i d) = true
        · rw [if_pos hp] at e; cases e
        · rw [if_neg hp] at e
          obtain rfl : b = b' := by injection e
          exact h0 i hi (by simpa using hp))⟩)
    (fun st _ => he) () trivial
  have e : ∀ l : List α, runA (σ := Unit) (β := β) (fun _ c => if p c = true then .inl () else .inr b) (fun _ => r) l () = if l.all p = true then r else b := by
    intro l
    induction l with
    | nil => rfl
    | cons c cs ih =>
      rw [List.all_cons]
      unfold runA
      by_cases hp : p c = true
      · simp only [hp, if_true, Bool.true_and]; exact ih
      · simp only [(by simpa using hp : p c = false), Bool.false_and, Bool.false_eq_true, if_false]
  rw [e] at h
  exact h
theorem all_congrA {α : Type} {l : List α} {p q : α → Bool} (h : ∀ c ∈ l, p c = q c) : l.all p = l.all q := by
  induction l with
  | nil => rfl
  | cons a l ih =>
    rw [List.all_cons, List.all_cons, h a List.mem_cons_self, ih fun c hc => h c (List.mem_cons_of_mem _ hc)]
def visB (c : Int) : Bool := decide (32 ≤ c) && decide (c ≤ 126) || decide (c = 9)
def digB (c : Int) : Bool := decide (48 ≤ c) && decide (c ≤ 57)
def letB (c : Int) : Bool := decide (97 ≤ c) && decide (c ≤ 122) || decide (65 ≤ c) && decide (c ≤ 90)
def hexB (c : Int) : Bool := digB c || decide (97 ≤ c) && decide (c ≤ 102) || decide (65 ≤ c) && decide (c ≤ 70)
def tagB (c : Int) : Bool := decide (33 ≤ c) && decide (c ≤ 126) && decide (c ≠ 34)
def tokB (c : Int) : Bool := letB c || digB c || decide (c ∈ [33, 35, 36, 37, 38, 39, 42, 43, 45, 46, 94, 95, 124, 126, 96])
def plaB (c : Int) : Bool := letB c || digB c || decide (c ∈ [45, 46, 95, 126, 47, 58, 64, 33, 36, 38, 39, 40, 41, 42, 43, 44, 59, 61])

theorem impl_isVisible_is (c : Int) : impl_isVisible.f c = some (visB c) := by
  unfold impl_isVisible.f visB
  by_cases h1 : c ≥ 32 <;> by_cases h2 : c ≤ 126 <;> simp [h1, h2] <;> (try omega) <;> (try (by_cases h3 : c = 9 <;> simp [h3] <;> omega))
theorem impl_isDigit_is (c : Int) : impl_isDigit.f c = some (digB c) := by
  unfold impl_isDigit.f digB
  by_cases h1 : c ≥ 48 <;> simp [h1] <;> omega
theorem impl_isLetter_is (c : Int) : impl_isLetter.f c = some (letB c) := by
  unfold impl_isLetter.f letB
  by_cases h1 : c ≥ 97 <;> by_cases h2 : c ≤ 122 <;> by_cases h3 : c ≥ 65 <;> by_cases h4 : c ≤ 90 <;> simp [h1, h2, h3, h4] <;> omega

/-- A law on bytes, tried at each. -/
theorem byte_cases {p : Int → Prop} (h : ∀ n : Fin 256, p (n.val : Int)) (c : Int) (h0 : 0 ≤ c) (h1 : c ≤ 255) : p c := by
  have := h ⟨c.toNat, by omega⟩
  rwa [show ((⟨c.toNat, by omega⟩ : Fin 256).val : Int) = c from by show (c.toNat : Int) = c; omega] at this
theorem impl_TokenOk_1_is (c : Int) (h0 : 0 ≤ c) (h1 : c ≤ 255) : impl_TokenOk_1.f c = some (tokB c) :=
  byte_cases (p := fun c => impl_TokenOk_1.f c = some (tokB c)) (by decide +kernel) c h0 h1
theorem spec_l1Token_is (c : Int) (h0 : 0 ≤ c) (h1 : c ≤ 255) : spec_l1Token.f c = some (tokB c) :=
  byte_cases (p := fun c => spec_l1Token.f c = some (tokB c)) (by decide +kernel) c h0 h1
/-- A hexadecimal digit's value, or -1. -/
def hexV (c : Int) : Int := if digB c = true then c - 48 else if 97 ≤ c ∧ c ≤ 102 then c - 87 else if 65 ≤ c ∧ c ≤ 70 then c - 55 else -1
theorem hexV_neg (c : Int) : decide (hexV c < 0) = !hexB c := by
  unfold hexV hexB
  cases h0 : digB c
  · by_cases h1 : 97 ≤ c ∧ c ≤ 102
    · simp [h1]; omega
    · by_cases h2 : 65 ≤ c ∧ c ≤ 70
      · have h1' : (decide (97 ≤ c) && decide (c ≤ 102)) = false := by simp; omega
        simp [h1, h1', h2]; omega
      · have h1' : (decide (97 ≤ c) && decide (c ≤ 102)) = false := by simp; omega
        have h2' : (decide (65 ≤ c) && decide (c ≤ 70)) = false := by simp; omega
        simp [h1, h1', h2, h2']
  · unfold digB at h0
    simp at h0
    simp
    omega
/-- 'all' over a predicate. -/
theorem all_vis (s : ByteArray) (hs : s.size ≤ 9223372036854775807) : impl_all.f s 84 = some ((bytesOf s).all visB) := by
  unfold impl_all.f
  rw [if_pos hs]
  simp only [Nat.reduceEqDiff, if_true, if_false, reduceIte]
  rw [all_congr' fun c hc => (by rw [impl_isVisible_is]; cases visB c <;> rfl : (impl_isVisible.f c == some true) = visB c)]
theorem all_dig (s : ByteArray) (hs : s.size ≤ 9223372036854775807) : impl_all.f s 75 = some ((bytesOf s).all digB) := by
  unfold impl_all.f
  rw [if_pos hs]
  simp only [Nat.reduceEqDiff, if_true, if_false, reduceIte]
  rw [all_congr' fun c hc => (by rw [impl_isDigit_is]; cases digB c <;> rfl : (impl_isDigit.f c == some true) = digB c)]
theorem all_tok (s : ByteArray) (hs : s.size ≤ 9223372036854775807) : impl_all.f s 81 = some ((bytesOf s).all tokB) := by
  unfold impl_all.f
  rw [if_pos hs]
  simp only [Nat.reduceEqDiff, if_true, if_false, reduceIte]
  rw [all_congr' fun c hc => (by rw [impl_TokenOk_1_is c (mem_bytes hc).1 (mem_bytes hc).2]; cases tokB c <;> rfl : (impl_TokenOk_1.f c == some true) = tokB c)]
def tokOk (s : ByteArray) : Bool := decide (1 ≤ s.size) && decide (s.size ≤ 64) && (bytesOf s).all tokB
theorem spec_TokenOk_ev (s : ByteArray) (hs : s.size ≤ 4611686018427387904) : Ev (fun k => spec_TokenOk.f k s) (tokOk s) := by
  unfold spec_TokenOk.f tokOk
  by_cases h : (s.size : Int) < 1
  · simp only [if_pos h]
    rw [decide_eq_false (by omega : ¬ 1 ≤ s.size)]
    exact Ev.step (f := fun _ => some false) (fun k => by simp only [spec_TokenOk.j0, if_true]) (Ev.now _)
  · simp only [if_neg h]
    rw [decide_eq_true (by omega : 1 ≤ s.size)]
    by_cases h' : (s.size : Int) > 64
    · rw [decide_eq_true h', decide_eq_false (by omega : ¬ s.size ≤ 64)]
      exact Ev.step (f := fun _ => some false) (fun k => by simp only [spec_TokenOk.j0, if_true]) (Ev.now _)
    · rw [decide_eq_false h', decide_eq_true (by omega : s.size ≤ 64), Bool.true_and, Bool.true_and]
      refine Ev.step (f := fun k => spec_TokenOk.l0 k s 0) (fun k => by simp only [spec_TokenOk.j0, Bool.false_eq_true, if_false]) ?_
      refine ev_all s tokB (fun k i => spec_TokenOk.l0 k s i) 0 (fun k i _ hi hp => ?_) (fun k i _ hi hp => ?_) (fun k _ => ?_)
      · simp only [spec_TokenOk.l0]
        rw [if_pos (by omega), if_pos (by omega), spec_l1Token_is _ (bt_range s i).1 (bt_range s i).2, hp, wrap_next hi hs]
        rfl
      · simp only [spec_TokenOk.l0]
        rw [if_pos (by omega), if_pos (by omega), spec_l1Token_is _ (bt_range s i).1 (bt_range s i).2, hp]
        rfl
      · simp only [spec_TokenOk.l0]
        rw [if_neg (by omega)]
theorem impl_TokenOk_is (s : ByteArray) (hs : s.size ≤ 4611686018427387904) : impl_TokenOk.f s = some (tokOk s) := by
  unfold impl_TokenOk.f tokOk
  by_cases h : (s.size : Int) ≥ 1
  · rw [if_pos h]
    by_cases h' : (s.size : Int) ≤ 64
    · rw [if_pos h', all_tok s (by omega), decide_eq_true (by omega : 1 ≤ s.size), decide_eq_true (by omega : s.size ≤ 64), Bool.true_and, Bool.true_and]; rfl
    · rw [if_neg h', decide_eq_false (by omega : ¬ s.size ≤ 64), Bool.and_false]; rfl
  · rw [if_neg h, decide_eq_false (by omega : ¬ 1 ≤ s.size)]; rfl
theorem bytes_extract (s : ByteArray) (a b : Nat) : bytesOf (s.extract a b) = ((bytesOf s).drop a).take (b - a) := by
  unfold bytesOf
  rw [Lib.extract_data, List.map_take, List.map_drop]
theorem bytes_last (s : ByteArray) (h : 0 < s.size) : bytesOf s = bytesOf (s.extract 0 (s.size - 1)) ++ [bt s ((s.size - 1 : Nat) : Int)] := by
  rw [bytes_extract, List.drop_zero, Nat.sub_zero]
  have h1 := drop_bt s (s.size - 1) (by omega)
  have h2 : (bytesOf s).drop (s.size - 1 + 1) = [] := List.drop_of_length_le (by rw [bytesOf_length]; omega)
  rw [h2] at h1
  rw [← h1, List.take_append_drop]
theorem bytes_first (s : ByteArray) (h : 0 < s.size) : bytesOf s = bt s 0 :: bytesOf (s.extract 1 s.size) := by
  rw [bytes_extract]
  have h1 := drop_bt s 0 h
  rw [List.drop_zero] at h1
  rw [List.take_of_length_le (by rw [List.length_drop, bytesOf_length]; exact Nat.le_refl _)]
  exact h1
theorem size_extract (s : ByteArray) (a b : Nat) (hb : b ≤ s.size) : (s.extract a b).size = b - a := by
  rw [← bytesOf_length, bytes_extract, List.length_take, List.length_drop, bytesOf_length]
  omega
theorem toList_nil (s : ByteArray) : s.toList = [] ↔ s.size = 0 := by
  rw [toList_data, ← data_length]
  exact List.length_eq_zero_iff.symm
theorem bytes_nil (s : ByteArray) (h : s.size = 0) : bytesOf s = [] := List.eq_nil_of_length_eq_zero (by rw [bytesOf_length]; exact h)
theorem bytes_ofList (l : List UInt8) : bytesOf ⟨l.toArray⟩ = l.map fun b => (b.toNat : Int) := by
  unfold bytesOf
  rfl
theorem bytes_two (s : ByteArray) (i : Nat) (h : i + 2 ≤ s.size) : bytesOf (s.extract i (i + 2)) = [bt s (i : Int), bt s ((i + 1 : Nat) : Int)] := by
  rw [bytes_extract, drop_bt s i (by omega), drop_bt s (i + 1) (by omega), show i + 2 - i = 2 from by omega]
  rfl
def blaB (c : Int) : Bool := decide (c = 32) || decide (c = 9)
/-- A list without the blanks at its beginning, at its end. -/
def dropL (l : List Int) : List Int := l.dropWhile blaB
def dropR (l : List Int) : List Int := (l.reverse.dropWhile blaB).reverse
def trimN (l : List Int) : List Int := dropL (dropR l)
theorem dropR_nil : dropR [] = [] := rfl
theorem dropR_snoc (l : List Int) (c : Int) : dropR (l ++ [c]) = if blaB c = true then dropR l else l ++ [c] := by
  unfold dropR
  rw [List.reverse_append, List.reverse_singleton, List.singleton_append, List.dropWhile_cons]
  split
  · rfl
  · simp
theorem dropL_cons (l : List Int) (c : Int) : dropL (c :: l) = if blaB c = true then dropL l else c :: l := by
  unfold dropL
  rw [List.dropWhile_cons]
theorem drop_comm (l : List Int) : dropR (dropL l) = dropL (dropR l) := by
  induction l with
  | nil => rfl
  | cons c cs ih =>
    rw [dropL_cons]
    by_cases h : blaB c = true
    · rw [if_pos h, ih]
      have key : ∀ l : List Int, dropL (dropR (c :: l)) = dropL (dropR l) := by
        intro l
        have aux : ∀ n : Nat, ∀ l : List Int, l.length = n → dropL (dropR (c :: l)) = dropL (dropR l) := by
          intro n
          induction n with
          | zero =>
            intro l hl
            obtain rfl := List.eq_nil_of_length_eq_zero hl
            have : dropR [c] = [] := by
              have := dropR_snoc [] c
              rw [List.nil_append, if_pos h] at this
              exact this
            rw [this, dropR_nil]
          | succ n ihn =>
            intro l hl
            obtain ⟨l', x, rfl⟩ : ∃ l' x, l = l' ++ [x] := ⟨l.dropLast, l.getLast (by intro e; rw [e] at hl; cases hl), (List.dropLast_concat_getLast _).symm⟩
            rw [← List.cons_append, dropR_snoc, dropR_snoc]
            by_cases hx : blaB x = true
            · rw [if_pos hx, if_pos hx]
              exact ihn l' (by simpa using hl)
            · rw [if_neg hx, if_neg hx, List.cons_append, dropL_cons, if_pos h]
        exact aux _ l rfl
      exact (key cs).symm
    · rw [if_neg h]
      have : ∃ l', dropR (c :: cs) = c :: l' := by
        have aux : ∀ n : Nat, ∀ l : List Int, l.length = n → ∃ l', dropR (c :: l) = c :: l' := by
          intro n
          induction n with
          | zero =>
            intro l hl
            obtain rfl := List.eq_nil_of_length_eq_zero hl
            have := dropR_snoc [] c
            rw [List.nil_append, if_neg h] at this
            exact ⟨[], this⟩
          | succ n ihn =>
            intro l hl
            obtain ⟨l', x, rfl⟩ : ∃ l' x, l = l' ++ [x] := ⟨l.dropLast, l.getLast (by intro e; rw [e] at hl; cases hl), (List.dropLast_concat_getLast _).symm⟩
            rw [← List.cons_append, dropR_snoc]
            by_cases hx : blaB x = true
            · rw [if_pos hx]
              exact ihn l' (by simpa using hl)
            · rw [if_neg hx]
              exact ⟨l' ++ [x], rfl⟩
        exact aux _ cs rfl
      obtain ⟨l', e⟩ := this
      rw [e, dropL_cons, if_neg h]
theorem spec_l1Blank_is (c : Int) : spec_l1Blank.f c = some (blaB c) := by
  unfold spec_l1Blank.f blaB
  by_cases h : c = 32
  · simp [h]
  · by_cases h2 : c = 9 <;> simp [h, h2]
theorem spec_Trimmed_right (n : Nat) : ∀ s : ByteArray, s.size = n → n ≤ 4611686018427387904 → Ev (fun k => spec_Trimmed.l1 k s) (strOfNums (dropR (bytesOf s))) := by
  induction n with
  | zero =>
    intro s hs _
    refine Ev.step (f := fun _ => some s) (fun k => ?_) (ev_eq (Ev.now _) ?_)
    · simp only [spec_Trimmed.l1]
      rw [if_pos ((toList_nil s).2 hs)]
    · rw [bytes_nil s hs, dropR_nil, ← bytes_nil s hs, nums_bytes]
  | succ n ih =>
    intro s hs hn
    have e := bytes_last s (by omega)
    have hi : wrap64 ((s.size : Int) - 1) = ((s.size - 1 : Nat) : Int) := by rw [wrap_in (by omega) (by omega)]; omega
    rw [e, dropR_snoc, ← e]
    by_cases hb : blaB (bt s ((s.size - 1 : Nat) : Int)) = true
    · rw [if_pos hb]
      refine Ev.step (f := fun k => spec_Trimmed.l1 k (s.extract 0 (s.size - 1))) (fun k => ?_) (ih _ (by rw [size_extract s _ _ (by omega)]; omega) (by omega))
      simp only [spec_Trimmed.l1]
      rw [if_neg (by rw [toList_nil]; omega), hi, if_pos (by omega), if_pos (by omega), spec_l1Blank_is]
      simp only [Option.bind_some]
      rw [if_pos hb, if_pos (by omega), Int.toNat_natCast]
    · rw [if_neg hb, nums_bytes]
      refine Ev.step (f := fun _ => some s) (fun k => ?_) (Ev.now _)
      simp only [spec_Trimmed.l1]
      rw [if_neg (by rw [toList_nil]; omega), hi, if_pos (by omega), if_pos (by omega), spec_l1Blank_is]
      simp only [Option.bind_some]
      rw [if_neg hb]
theorem spec_Trimmed_left (n : Nat) : ∀ s : ByteArray, s.size = n → n ≤ 4611686018427387904 → Ev (fun k => spec_Trimmed.l0 k s) (strOfNums (dropR (dropL (bytesOf s)))) := by
  induction n with
  | zero =>
    intro s hs h0
    refine Ev.step (f := fun k => spec_Trimmed.j1 k s) (fun k => ?_) (Ev.step (f := fun k => spec_Trimmed.l1 k s) (fun k => ?_) (ev_eq (spec_Trimmed_right 0 s hs h0) ?_))
    · simp only [spec_Trimmed.l0]
      rw [if_pos ((toList_nil s).2 hs)]
    · simp only [spec_Trimmed.j1]
    · rw [bytes_nil s hs]; rfl
  | succ n ih =>
    intro s hs hn
    have e := bytes_first s (by omega)
    rw [e, dropL_cons, ← e]
    by_cases hb : blaB (bt s 0) = true
    · rw [if_pos hb]
      refine Ev.step (f := fun k => spec_Trimmed.l0 k (s.extract 1 s.size)) (fun k => ?_) (ih _ (by rw [size_extract s _ _ (by omega)]; omega) (by omega))
      simp only [spec_Trimmed.l0]
      rw [if_neg (by rw [toList_nil]; omega), if_pos (by omega), spec_l1Blank_is]
      simp only [Option.bind_some]
      rw [if_pos hb, if_pos (by omega)]
    · rw [if_neg hb]
      refine Ev.step (f := fun k => spec_Trimmed.j1 k s) (fun k => ?_) (Ev.step (f := fun k => spec_Trimmed.l1 k s) (fun k => ?_) (spec_Trimmed_right _ s rfl (by omega)))
      · simp only [spec_Trimmed.l0]
        rw [if_neg (by rw [toList_nil]; omega), if_pos (by omega), spec_l1Blank_is]
        simp only [Option.bind_some]
        rw [if_neg hb]
      · simp only [spec_Trimmed.j1]
/-- A text without the blanks at its ends. -/
def trimT (s : ByteArray) : ByteArray := strOfNums (trimN (bytesOf s))
theorem spec_Trimmed_ev (s : ByteArray) (hs : s.size ≤ 4611686018427387904) : Ev (fun k => spec_Trimmed.f k s) (trimT s) := by
  unfold spec_Trimmed.f trimT trimN
  rw [← drop_comm]
  exact spec_Trimmed_left _ s rfl hs
theorem bla_u8 (b : UInt8) : ([32, 9] : List UInt8).contains b = blaB (b.toNat : Int) := by
  have n32 : (b.toNat : Int) = 32 → b = 32 := fun h => by
    refine UInt8.toNat_inj.1 ?_
    have e : b.toNat = 32 := by omega
    rw [e]; rfl
  have n9 : (b.toNat : Int) = 9 → b = 9 := fun h => by
    refine UInt8.toNat_inj.1 ?_
    have e : b.toNat = 9 := by omega
    rw [e]; rfl
  have h1 : b = 32 ↔ (b.toNat : Int) = 32 := ⟨fun h => by rw [h]; rfl, n32⟩
  have h2 : b = 9 ↔ (b.toNat : Int) = 9 := ⟨fun h => by rw [h]; rfl, n9⟩
  unfold blaB
  rw [show decide ((b.toNat : Int) = 32) = decide (b = 32) from decide_eq_decide.2 h1.symm, show decide ((b.toNat : Int) = 9) = decide (b = 9) from decide_eq_decide.2 h2.symm]
  by_cases a : b = 32
  · simp [a]
  · by_cases c : b = 9 <;> simp [a, c]
theorem dropW_map (l : List UInt8) : (l.dropWhile (([32, 9] : List UInt8).contains ·)).map (fun b => (b.toNat : Int)) = dropL (l.map fun b => (b.toNat : Int)) := by
  induction l with
  | nil => rfl
  | cons b l ih =>
    rw [List.map_cons, dropL_cons, List.dropWhile_cons, bla_u8]
    split
    · exact ih
    · rfl
theorem impl_Trimmed_is (s : ByteArray) (hs : s.size ≤ 9223372036854775807) : impl_Trimmed.f s = some (trimT s) := by
  unfold impl_Trimmed.f strings_Trim.f
  rw [if_pos ⟨hs, by decide, by decide⟩]
  refine congrArg some (bytes_inj ?_)
  have h0 : ∀ c ∈ trimN (bytesOf s), 0 ≤ c ∧ c ≤ 255 := by
    intro c hc
    refine mem_bytes (s := s) ?_
    unfold trimN dropL dropR at hc
    have h1 := (List.dropWhile_sublist _).subset hc
    rw [List.mem_reverse] at h1
    have h2 := (List.dropWhile_sublist _).subset h1
    rwa [List.mem_reverse] at h2
  unfold trimT
  rw [bytes_nums _ h0, bytes_ofList]
  unfold Lib.trimS Lib.trimLeftS Lib.trimRightS trimN dropR
  rw [show ((⟨#[32, 9]⟩ : ByteArray).data.toList) = ([32, 9] : List UInt8) from rfl, dropW_map, List.map_reverse, dropW_map, List.map_reverse]
  rfl
def visOk (s : ByteArray) : Bool := decide (s.size ≤ 400) && (bytesOf s).all visB
theorem spec_VisibleOk_ev (s : ByteArray) (hs : s.size ≤ 4611686018427387904) : Ev (fun k => spec_VisibleOk.f k s) (visOk s) := by
  unfold spec_VisibleOk.f visOk
  by_cases h : (s.size : Int) > 400
  · simp only [if_pos h]
    exact ev_const (by rw [decide_eq_false (by omega), Bool.false_and])
  · simp only [if_neg h]
    rw [decide_eq_true (by omega), Bool.true_and]
    refine ev_all s visB (fun k i => spec_VisibleOk.l0 k s i) 0 (fun k i _ hi hp => ?_) (fun k i _ hi hp => ?_) (fun k _ => ?_)
    · simp only [spec_VisibleOk.l0]
      rw [if_pos (by omega), if_pos (by omega), wrap_next hi hs]
      unfold visB at hp
      by_cases h1 : bt s i < 32
      · have h9 : bt s i = 9 := by simp at hp; omega
        rw [if_pos h1, if_pos h9]
      · rw [if_neg h1]
        by_cases h2 : bt s i > 126
        · have h9 : bt s i = 9 := by simp at hp; omega
          rw [if_pos h2, if_pos h9]
        · rw [if_neg h2]
    · simp only [spec_VisibleOk.l0]
      rw [if_pos (by omega), if_pos (by omega)]
      unfold visB at hp
      simp at hp
      by_cases h1 : bt s i < 32
      · rw [if_pos h1, if_neg hp.2]
      · rw [if_neg h1, if_pos (by omega), if_neg hp.2]
    · simp only [spec_VisibleOk.l0]
      rw [if_neg (by omega)]
theorem impl_VisibleOk_is (s : ByteArray) (hs : s.size ≤ 4611686018427387904) : impl_VisibleOk.f s = some (visOk s) := by
  unfold impl_VisibleOk.f visOk
  by_cases h : (s.size : Int) ≤ 400
  · rw [if_pos h, all_vis s (by omega), decide_eq_true (by omega), Bool.true_and]; rfl
  · rw [if_neg h, decide_eq_false (by omega), Bool.false_and]
abbrev Fld := S43
def isFieldB (n v : ByteArray) : Bool := tokOk n && (visOk v && (trimT v).toList == v.toList)
theorem spec_l4Field_ev (n v : ByteArray) (hn : n.size ≤ 4611686018427387904) (hv : v.size ≤ 4611686018427387904) : Ev (fun k => spec_l4Field.f k n v) (isFieldB n v) := by
  unfold spec_l4Field.f isFieldB
  refine Ev.bind (spec_TokenOk_ev n hn) ?_
  cases tokOk n
  · exact Ev.now _
  · simp only [if_true, Bool.true_and]
    refine Ev.bind (spec_VisibleOk_ev v hv) ?_
    cases visOk v
    · exact Ev.now _
    · simp only [if_true, Bool.true_and]
      exact Ev.bind (spec_Trimmed_ev v hv) (Ev.now _)
theorem impl_isField_is (n v : ByteArray) (hn : n.size ≤ 4611686018427387904) (hv : v.size ≤ 4611686018427387904) : impl_isField.f n v = some (isFieldB n v) := by
  unfold impl_isField.f isFieldB
  rw [impl_TokenOk_is n hn, impl_VisibleOk_is v hv, impl_Trimmed_is v (by omega)]
  cases tokOk n <;> cases visOk v <;> rfl
/-- Fields whose texts are not longer than a machine's memory. -/
def Mild (l : List Fld) : Prop := l.length ≤ 1048576 ∧ ∀ x ∈ l, x.f0.size ≤ 1048576 ∧ x.f1.size ≤ 1048576
def fieldsOk (l : List Fld) : Bool := decide (l.length ≤ 30) && l.all fun x => isFieldB x.f0 x.f1
theorem rd_fld (l : List Fld) (i : Nat) : rd_T43 l (i : Int) = l.getD i z43 := by
  unfold rd_T43
  rw [Int.toNat_natCast]
theorem spec_FieldsOk_ev (l : List Fld) (h : Mild l) : Ev (fun k => spec_FieldsOk.f k l) (fieldsOk l) := by
  unfold spec_FieldsOk.f fieldsOk
  have hl := h.1
  by_cases h0 : (l.length : Int) > 30
  · simp only [if_pos h0]
    rw [decide_eq_false (by omega), Bool.false_and]
    exact Ev.now _
  · simp only [if_neg h0]
    rw [decide_eq_true (by omega), Bool.true_and]
    refine ev_eq (ev_listAll l z43 (fun x => isFieldB x.f0 x.f1) true false (fun k i => spec_FieldsOk.l0 k l i) (fun i hi hp x hx => ?_) (fun i hi hp => ?_) ?_) (by cases l.all _ <;> rfl)
    · have hm := h.2 _ (mem_getD (d := z43) hi)
      refine Ev.step (f := fun k => (spec_l4Field.f k (l.getD i z43).f0 (l.getD i z43).f1).bind fun t => if t = true then spec_FieldsOk.l0 k l (((i + 1 : Nat) : Int)) else some false) (fun k => ?_) (Ev.bind (spec_l4Field_ev _ _ (by omega) (by omega)) ?_)
      · simp only [spec_FieldsOk.l0]
        rw [if_pos (by omega), if_pos (by omega), rd_fld, wrap_next hi (by omega)]
      · simp only [hp, if_true]
        exact hx
    · have hm := h.2 _ (mem_getD (d := z43) hi)
      refine Ev.step (f := fun k => (spec_l4Field.f k (l.getD i z43).f0 (l.getD i z43).f1).bind fun t => if t = true then spec_FieldsOk.l0 k l (((i + 1 : Nat) : Int)) else some false) (fun k => ?_) (Ev.bind (spec_l4Field_ev _ _ (by omega) (by omega)) ?_)
      · simp only [spec_FieldsOk.l0]
        rw [if_pos (by omega), if_pos (by omega), rd_fld, wrap_next hi (by omega)]
      · simp only [hp]
        exact Ev.now _
    · refine Ev.step (f := fun _ => some true) (fun k => ?_) (Ev.now _)
      simp only [spec_FieldsOk.l0]
      rw [if_neg (by omega)]
theorem impl_FieldsOk_is (l : List Fld) (h : Mild l) : impl_FieldsOk.f l = some (fieldsOk l) := by
  unfold impl_FieldsOk.f fieldsOk
  by_cases h0 : (l.length : Int) ≤ 30
  · rw [if_pos h0, decide_eq_true (by omega), Bool.true_and]
    have hx : ∀ x ∈ l, impl_FieldsOk_1.f x.f0 x.f1 = some (!isFieldB x.f0 x.f1) := by
      intro x hx
      have := h.2 x hx
      unfold impl_FieldsOk_1.f
      rw [impl_isField_is _ _ (by omega) (by omega)]
      rfl
    unfold impl_Field.f
    rw [if_pos ⟨rfl, List.all_eq_true.2 fun x hm => by rw [hx x hm]; rfl⟩]
    simp only [Option.bind_some]
    refine congrArg some ?_
    have : ∀ m : List Fld, (∀ x ∈ m, impl_FieldsOk_1.f x.f0 x.f1 = some (!isFieldB x.f0 x.f1)) → (!(m.any fun x => impl_FieldsOk_1.f x.f0 x.f1 == some true)) = m.all fun x => isFieldB x.f0 x.f1 := by
      intro m
      induction m with
      | nil => intro _; rfl
      | cons a m ih =>
        intro hm
        rw [List.any_cons, List.all_cons, hm a List.mem_cons_self, Bool.not_or, ih fun x hx => hm x (List.mem_cons_of_mem _ hx)]
        cases isFieldB a.f0 a.f1 <;> rfl
    exact this l hx
  · rw [if_neg h0, decide_eq_false (by omega), Bool.false_and]
-- A field as the laws have it, turned into one of the program's.
theorem lineOf_len (s : List UInt8) (l q : List UInt8) (h : lineOf s = some (l, q)) : s.length = l.length + 2 + q.length := by
  have := ((line_cut s).1 l q h).2
  rw [this]
  simp
  omega
/-- spec.l4Line from a place on. -/
theorem spec_l4Line_ev (x : ByteArray) (hx : x.size ≤ 1048576) (at_ : Nat) : ∀ (n i : Nat), i + n = x.size → at_ ≤ i →
    Ev (fun k => spec_l4Line.l0 k x (at_ : Int) (i : Int)) (match lineOf (x.data.toList.drop i) with | some (l, q) => (x.extract at_ (i + l.length), ((x.size - q.length : Nat) : Int), true) | none => ((⟨#[]⟩ : ByteArray), (0 : Int), false)) := by
  intro n
  have hsz : x.data.toList.length = x.size := by rw [Array.length_toList]; rfl
  induction n with
  | zero =>
    intro i hi ha
    rw [List.drop_of_length_le (by omega)]
    refine Ev.step (f := fun _ => some ((⟨#[]⟩ : ByteArray), (0 : Int), false)) (fun k => ?_) (Ev.now _)
    simp only [spec_l4Line.l0]
    rw [if_neg (by omega)]
  | succ n ih =>
    intro i hi ha
    have hlt : i < x.size := by omega
    obtain ⟨c, hd, hc⟩ := drop_u8 x i hlt
    rw [hd]
    have hx64 : x.size ≤ 4611686018427387904 := by omega
    by_cases h10 : c = 10
    · have hb : bt x (i : Int) = 10 := by rw [hc, h10]; rfl
      have e : lineOf (c :: x.data.toList.drop (i + 1)) = none := by rw [lineOf.eq_def]; simp only [if_pos h10]
      rw [e]
      refine Ev.step (f := fun _ => some ((⟨#[]⟩ : ByteArray), (0 : Int), false)) (fun k => ?_) (Ev.now _)
      simp only [spec_l4Line.l0]
      rw [if_pos (by omega), if_pos (by omega), if_pos hb]
    · have hb : ¬ bt x (i : Int) = 10 := by rw [hc]; exact fun h => h10 ((u8_eq c 10 (by decide)).1 h)
      by_cases h13 : c = 13
      · have hb3 : bt x (i : Int) = 13 := by rw [hc, h13]; rfl
        by_cases hl : i + 1 < x.size
        · obtain ⟨d, hd2, hc2⟩ := drop_u8 x (i + 1) hl
          by_cases hdd : d = 10
          · have hb4 : bt x ((i + 1 : Nat) : Int) = 10 := by rw [hc2, hdd]; rfl
            have e : lineOf (c :: x.data.toList.drop (i + 1)) = some ([], x.data.toList.drop (i + 1 + 1)) := by rw [lineOf.eq_def, hd2]; simp [h13, hdd]
            rw [e]
            have hq : x.size - (x.data.toList.drop (i + 1 + 1)).length = i + 2 := by rw [List.length_drop, hsz]; omega
            simp only [hq, List.length_nil, Nat.add_zero]
            refine Ev.step (f := fun k => spec_l4Line.j1 k x (at_ : Int) (i : Int) true) (fun k => ?_) (Ev.step (f := fun _ => some (x.extract at_ i, ((i + 2 : Nat) : Int), true)) (fun k => ?_) (Ev.now _))
            · simp only [spec_l4Line.l0]
              rw [if_pos (by omega), if_pos (by omega), if_neg hb, if_pos hb3, wrap_next hlt hx64, if_pos (by omega), if_pos (by omega), hb4]
              rfl
            · simp only [spec_l4Line.j1, if_true]
              rw [if_pos (by omega), if_pos (by omega), if_pos (by omega), wrap_in (by omega) (by omega), Int.toNat_natCast, Int.toNat_natCast]
              rfl
          · have hb4 : (bt x ((i + 1 : Nat) : Int) == 10) = false := by
              rw [beq_eq_false_iff_ne, hc2]
              exact fun h => hdd ((u8_eq d 10 (by decide)).1 h)
            have e : lineOf (c :: x.data.toList.drop (i + 1)) = none := by rw [lineOf.eq_def, hd2]; simp [h13, hdd]
            rw [e]
            refine Ev.step (f := fun k => spec_l4Line.j1 k x (at_ : Int) (i : Int) false) (fun k => ?_) (Ev.step (f := fun _ => some ((⟨#[]⟩ : ByteArray), (0 : Int), false)) (fun k => ?_) (Ev.now _))
            · simp only [spec_l4Line.l0]
              rw [if_pos (by omega), if_pos (by omega), if_neg hb, if_pos hb3, wrap_next hlt hx64, if_pos (by omega), if_pos (by omega), hb4]
            · simp only [spec_l4Line.j1, Bool.false_eq_true, if_false]
              rw [if_pos (by omega), if_pos (by omega), if_pos hb3]
        · have e : lineOf (c :: x.data.toList.drop (i + 1)) = none := by
            rw [List.drop_of_length_le (by omega), lineOf.eq_def]
            simp [h13]
          rw [e]
          refine Ev.step (f := fun k => spec_l4Line.j1 k x (at_ : Int) (i : Int) false) (fun k => ?_) (Ev.step (f := fun _ => some ((⟨#[]⟩ : ByteArray), (0 : Int), false)) (fun k => ?_) (Ev.now _))
          · simp only [spec_l4Line.l0]
            rw [if_pos (by omega), if_pos (by omega), if_neg hb, if_pos hb3, wrap_next hlt hx64, if_neg (by omega)]
          · simp only [spec_l4Line.j1, Bool.false_eq_true, if_false]
            rw [if_pos (by omega), if_pos (by omega), if_pos hb3]
      · have hb3 : ¬ bt x (i : Int) = 13 := by rw [hc]; exact fun h => h13 ((u8_eq c 13 (by decide)).1 h)
        have h2 := ih (i + 1) (by omega) (by omega)
        have e : lineOf (c :: x.data.toList.drop (i + 1)) = (lineOf (x.data.toList.drop (i + 1))).map fun y => (c :: y.1, y.2) := by
          rw [lineOf.eq_def]
          simp only [if_neg h10, if_neg h13]
        rw [e]
        refine Ev.step (f := fun k => spec_l4Line.j1 k x (at_ : Int) (i : Int) false) (fun k => ?_) (Ev.step (f := fun k => spec_l4Line.l0 k x (at_ : Int) (((i + 1 : Nat) : Int))) (fun k => ?_) ?_)
        · simp only [spec_l4Line.l0]
          rw [if_pos (by omega), if_pos (by omega), if_neg hb, if_neg hb3]
        · simp only [spec_l4Line.j1, Bool.false_eq_true, if_false]
          rw [if_pos (by omega), if_pos (by omega), if_neg hb3, wrap_next hlt hx64]
        · cases hr : lineOf (x.data.toList.drop (i + 1)) with
          | none => rw [hr] at h2; exact h2
          | some y =>
            rw [hr] at h2
            obtain ⟨l, q⟩ := y
            simp only [Option.map_some, List.length_cons]
            rw [show i + (l.length + 1) = i + 1 + l.length by omega]
            exact h2
theorem extract_u8 (x : ByteArray) (a b : Nat) : (x.extract a b).data.toList = (x.data.toList.drop a).take (b - a) := by
  simp [ByteArray.data_extract, Array.toList_extract, List.extract_eq_take_drop]
theorem ofL_eq {s : ByteArray} {l : List UInt8} (h : s.data.toList = l) : s = ofL l := by rw [← h]; exact (ofL_data s).symm
theorem ofL_bytes (l : List UInt8) : bytesOf (ofL l) = l.map fun b => (b.toNat : Int) := bytes_ofList l
theorem mem_dropWhile {p : Int → Bool} {l : List Int} {b : Int} (hb : b ∈ l) (hp : p b = false) : b ∈ l.dropWhile p := by
  induction l with
  | nil => cases hb
  | cons c l ih =>
    rw [List.dropWhile_cons]
    split
    · rename_i h
      rcases List.mem_cons.1 hb with rfl | hb
      · rw [hp] at h; cases h
      · exact ih hb
    · exact hb
theorem trimN_sub (l : List Int) : ∀ c ∈ trimN l, c ∈ l := by
  intro c hc
  unfold trimN dropL dropR at hc
  have := List.mem_reverse.1 ((List.dropWhile_sublist _).mem hc)
  exact List.mem_reverse.1 ((List.dropWhile_sublist _).mem this)
theorem trimT_size (v : ByteArray) : (trimT v).size ≤ v.size := by
  unfold trimT trimN dropL dropR
  rw [strOfNums_size, ← bytesOf_length v]
  refine Nat.le_trans (List.dropWhile_sublist _).length_le ?_
  rw [List.length_reverse]
  refine Nat.le_trans (List.dropWhile_sublist _).length_le ?_
  rw [List.length_reverse]
  exact Nat.le_refl _
theorem trim_mem {v : ByteArray} {b : Int} (hb : b ∈ bytesOf v) (hp : blaB b = false) : b ∈ bytesOf (trimT v) := by
  unfold trimT
  rw [bytes_nums _ (fun c hc => mem_bytes (trimN_sub _ c hc))]
  unfold trimN dropL dropR
  exact mem_dropWhile (List.mem_reverse.2 (mem_dropWhile (List.mem_reverse.2 hb) hp)) hp
/-- A 13 or a 10 in a name or a value: no field. -/
theorem bad_field (n v : List UInt8) (h : (13 : UInt8) ∈ n ++ v ∨ (10 : UInt8) ∈ n ++ v) : isFieldB (ofL n) (trimT (ofL v)) = false := by
  have key : ∀ b : UInt8, tokB (b.toNat : Int) = false → visB (b.toNat : Int) = false → blaB (b.toNat : Int) = false → b ∈ n ++ v → isFieldB (ofL n) (trimT (ofL v)) = false := by
    intro b h1 h2 h3 hm
    unfold isFieldB
    rcases List.mem_append.1 hm with hm | hm
    · have : (bytesOf (ofL n)).all tokB = false := by
        rw [ofL_bytes, List.all_eq_false]
        exact ⟨_, List.mem_map.2 ⟨b, hm, rfl⟩, by rw [h1]; simp⟩
      unfold tokOk
      rw [this, Bool.and_false, Bool.false_and]
    · have hb : ((b.toNat : Nat) : Int) ∈ bytesOf (ofL v) := by rw [ofL_bytes]; exact List.mem_map.2 ⟨b, hm, rfl⟩
      have : (bytesOf (trimT (ofL v))).all visB = false := by
        rw [List.all_eq_false]
        exact ⟨_, trim_mem hb h3, by rw [h2]; simp⟩
      unfold visOk
      rw [this, Bool.and_false, Bool.false_and, Bool.and_false]
  rcases h with h | h
  · exact key 13 (by decide) (by decide) (by decide) h
  · exact key 10 (by decide) (by decide) (by decide) h
theorem spec_colon_ev (x : ByteArray) (out : List Fld) (at_ : Int) (line : ByteArray) (hl : line.size ≤ 1048576) {R : List Fld × Int × Bool} : ∀ (n i : Nat), i + n = line.size →
    Ev (fun k => spec_ReadFields.j2 k x out at_ line (((if (Lib.cut (line.data.toList.drop i) [58]).2.2 = true then i + (Lib.cut (line.data.toList.drop i) [58]).1.length else line.size) : Nat) : Int)) R → Ev (fun k => spec_ReadFields.l1 k x out at_ line (i : Int)) R := by
  intro n
  induction n with
  | zero =>
    intro i hi h
    have hsz : line.data.toList.length = line.size := by rw [Array.length_toList]; rfl
    rw [List.drop_of_length_le (by omega), cut_nil _ (by simp), if_neg (by simp)] at h
    refine Ev.step (fun k => ?_) h
    simp only [spec_ReadFields.l1]
    rw [if_neg (by omega), show line.size = i by omega]
  | succ n ih =>
    intro i hi h
    have hlt : i < line.size := by omega
    obtain ⟨c, hd, hc⟩ := drop_u8 line i hlt
    rw [hd, cut_cons, pre_one] at h
    by_cases h58 : c = 58
    · have hb : bt line (i : Int) = 58 := by rw [hc, h58]; rfl
      rw [if_pos (show ((58 : UInt8) == c) = true by rw [h58]; rfl)] at h
      simp only [if_true, List.length_nil, Nat.add_zero] at h
      refine Ev.step (fun k => ?_) h
      simp only [spec_ReadFields.l1]
      rw [if_pos (by omega), if_pos (by omega), if_pos hb]
    · have hb : ¬ bt line (i : Int) = 58 := by rw [hc]; exact fun h => h58 ((u8_eq c 58 (by decide)).1 h)
      rw [if_neg (show ¬ ((58 : UInt8) == c) = true by rw [beq_iff_eq]; exact fun e => h58 e.symm)] at h
      refine Ev.step (f := fun k => spec_ReadFields.l1 k x out at_ line (((i + 1 : Nat) : Int))) (fun k => ?_) (ih (i + 1) (by omega) ?_)
      · simp only [spec_ReadFields.l1]
        rw [if_pos (by omega), if_pos (by omega), if_neg hb, wrap_next hlt (by omega)]
      · by_cases h2 : (Lib.cut (line.data.toList.drop (i + 1)) [58]).2.2 = true
        · rw [if_pos h2] at h
          simp only [if_true, List.length_cons] at h
          rw [if_pos h2]
          rw [show i + 1 + (Lib.cut (line.data.toList.drop (i + 1)) [58]).1.length = i + ((Lib.cut (line.data.toList.drop (i + 1)) [58]).1.length + 1) by omega]
          exact h
        · rw [if_neg h2] at h
          simp only [Bool.false_eq_true, if_false] at h
          rw [if_neg h2]
          exact h
/-- Both functions from a place on. -/
theorem ReadFields_both (x : ByteArray) (hx : x.size ≤ 1048576) : ∀ (n : Nat) (rest : List UInt8) (at_ : Nat) (out : List Fld), rest.length ≤ n → at_ + rest.length = x.size → x.data.toList.drop at_ = rest → out.length ≤ 30 →
    ∃ R : List Fld × Int × Bool, Ev (fun k => spec_ReadFields.l0 k x out (at_ : Int)) R ∧ Ev (fun k => impl_ReadFields.l0 k x out (ofL rest)) R ∧ R.1.length ≤ 30 := by
  intro n
  have hsz : x.data.toList.length = x.size := by rw [Array.length_toList]; rfl
  have hx64 : x.size ≤ 4611686018427387904 := by omega
  induction n with
  | zero =>
    intro rest at_ out hn ha hd ho
    have h0 : rest = [] := List.eq_nil_of_length_eq_zero (by omega)
    subst h0
    refine ⟨([], 0, false), ?_, ?_, Nat.zero_le _⟩
    · have := spec_l4Line_ev x hx at_ 0 at_ (by simpa using ha) (Nat.le_refl _)
      rw [hd] at this
      replace this : Ev (fun k => spec_l4Line.l0 k x (at_ : Int) (at_ : Int)) ((⟨#[]⟩ : ByteArray), (0 : Int), false) := this
      refine Ev.step (f := fun k => _) (fun k => by simp only [spec_ReadFields.l0]; rfl) (Ev.bind (g := fun k => spec_l4Line.f k x (at_ : Int)) this ?_)
      simp only [Bool.false_eq_true, if_false]
      exact Ev.now _
    · refine Ev.step (f := fun _ => some ([], 0, false)) (fun k => ?_) (Ev.now _)
      simp only [impl_ReadFields.l0, strings_Cut.f]
      rw [if_pos (by rw [ofL_size]; simp)]
      rfl
  | succ n ih =>
    intro rest at_ out hn ha hd ho
    have hL := spec_l4Line_ev x hx at_ rest.length at_ ha (Nat.le_refl _)
    rw [hd] at hL
    have hcs : ∀ s sub : ByteArray, s.size ≤ 1048576 → strings_Cut.f s sub = some (ofL (Lib.cut s.data.toList sub.data.toList).1, ofL (Lib.cut s.data.toList sub.data.toList).2.1, (Lib.cut s.data.toList sub.data.toList).2.2) := by
      intro s sub h
      unfold strings_Cut.f
      rw [if_pos (by omega)]
      rfl
    have hrs : (ofL rest).size ≤ 1048576 := by rw [ofL_size]; omega
    have hdl : ∀ l : List UInt8, (ofL l).data.toList = l := fun l => rfl
    have hcl : (⟨#[13, 10]⟩ : ByteArray).data.toList = [13, 10] := rfl
    have hcc : (⟨#[58]⟩ : ByteArray).data.toList = [58] := rfl
    obtain ⟨lc1, lc2⟩ := line_cut rest
    -- what impl does behind the first cut
    have hI : ∀ R, Ev (fun k => if (Lib.cut rest [13, 10]).2.2 = true then (if (ofL (Lib.cut rest [13, 10]).1).toList = ([] : List UInt8) then (some (out, wrap64 ((x.size : Int) - ((ofL (Lib.cut rest [13, 10]).2.1).size : Int)), true)) else ((strings_Cut.f (ofL (Lib.cut rest [13, 10]).1) (⟨#[58]⟩ : ByteArray)).bind fun bt107 => ((impl_Trimmed.f bt107.2.1).bind fun t110 => (if bt107.2.2 = true then ((impl_isField.f bt107.1 t110).bind fun t112 => (if t112 = true then (if (out.length : Int) = 30 then (some (([] : List Fld), 0, false)) else (if out.length < 4398046511104 then (impl_ReadFields.l0 k x (out ++ [(⟨bt107.1, t110⟩ : Fld)]) (ofL (Lib.cut rest [13, 10]).2.1)) else (none))) else (some (([] : List Fld), 0, false)))) else (some (([] : List Fld), 0, false)))))) else (some (([] : List Fld), 0, false))) R → Ev (fun k => impl_ReadFields.l0 k x out (ofL rest)) R := by
      intro R h
      refine Ev.step (fun k => ?_) h
      simp only [impl_ReadFields.l0]
      rw [hcs _ _ hrs, hdl, hcl]
      rfl
    cases hlo : lineOf rest with
    | none =>
      rw [hlo] at hL
      refine ⟨([], 0, false), ?_, hI _ ?_, Nat.zero_le _⟩
      · refine Ev.step (f := fun k => _) (fun k => by simp only [spec_ReadFields.l0]; rfl) (Ev.bind (g := fun k => spec_l4Line.f k x (at_ : Int)) hL ?_)
        simp only [Bool.false_eq_true, if_false]
        exact Ev.now _
      · by_cases hf : (Lib.cut rest [13, 10]).2.2 = true
        · simp only [if_pos hf]
          have hbad := lc2 hlo hf
          generalize hl : (Lib.cut rest [13, 10]).1 = line at hbad
          have hll : line.length ≤ rest.length := by
            rw [← hl]
            unfold Lib.cut
            split
            · exact (by rw [List.length_take]; exact Nat.min_le_right _ _ : (rest.take (Lib.index rest [13, 10]).toNat).length ≤ rest.length)
            · exact Nat.le_refl _
          have hne : ¬ (ofL line).toList = ([] : List UInt8) := by
            rw [ofL_toList]
            rintro rfl
            rcases hbad with h | h <;> cases h
          simp only [if_neg hne]
          rw [hcs _ _ (by rw [ofL_size]; omega), hdl, hcc]
          simp only [Option.bind_some]
          by_cases hf2 : (Lib.cut line [58]).2.2 = true
          · have hlc := cut_one_found 58 line hf2
            have hz : (Lib.cut line [58]).1.length + (Lib.cut line [58]).2.1.length + 1 = line.length := by
              have := congrArg List.length hlc
              rw [List.length_append, List.length_cons] at this
              omega
            rw [impl_Trimmed_is _ (by rw [ofL_size]; omega)]
            simp only [Option.bind_some, if_pos hf2]
            have hts : (trimT (ofL (Lib.cut line [58]).2.1)).size ≤ 1048576 := Nat.le_trans (trimT_size _) (by rw [ofL_size]; omega)
            rw [impl_isField_is _ _ (by rw [ofL_size]; omega) (by omega)]
            have hb2 : (13 : UInt8) ∈ (Lib.cut line [58]).1 ++ (Lib.cut line [58]).2.1 ∨ (10 : UInt8) ∈ (Lib.cut line [58]).1 ++ (Lib.cut line [58]).2.1 := by
              have : ∀ b : UInt8, b ≠ 58 → b ∈ line → b ∈ (Lib.cut line [58]).1 ++ (Lib.cut line [58]).2.1 := by
                intro b hb hm
                rw [hlc] at hm
                rcases List.mem_append.1 hm with hm | hm
                · exact List.mem_append.2 (.inl hm)
                · rcases List.mem_cons.1 hm with hm | hm
                  · exact absurd hm hb
                  · exact List.mem_append.2 (.inr hm)
              rcases hbad with h | h
              · exact .inl (this 13 (by decide) h)
              · exact .inr (this 10 (by decide) h)
            rw [bad_field _ _ hb2]
            exact Ev.now _
          · rw [impl_Trimmed_is _ (by
              have : (Lib.cut line [58]).2.1.length ≤ line.length := by
                unfold Lib.cut
                split
                · rw [List.length_drop]; omega
                · exact Nat.zero_le _
              rw [ofL_size]; omega)]
            simp only [Option.bind_some, if_neg hf2]
            exact Ev.now _
        · simp only [if_neg hf]
          exact Ev.now _
    | some y =>
      obtain ⟨line, q⟩ := y
      rw [hlo] at hL
      obtain ⟨hcut, hrest⟩ := lc1 line q hlo
      have hlen := lineOf_len rest line q hlo
      have hex : x.extract at_ (at_ + line.length) = ofL line := ofL_eq (by
        rw [extract_u8, hd, hrest, show at_ + line.length - at_ = line.length by omega]
        simp)
      have hat : x.size - q.length = at_ + line.length + 2 := by omega
      simp only [hex, hat] at hL
      have hS : ∀ R, Ev (fun k => if (ofL line).toList = ([] : List UInt8) then (some (out, ((at_ + line.length + 2 : Nat) : Int), true)) else (spec_ReadFields.l1 k x out ((at_ + line.length + 2 : Nat) : Int) (ofL line) 0)) R → Ev (fun k => spec_ReadFields.l0 k x out (at_ : Int)) R := by
        intro R h
        refine Ev.step (f := fun k => _) (fun k => by simp only [spec_ReadFields.l0]; rfl) (Ev.bind (g := fun k => spec_l4Line.f k x (at_ : Int)) hL ?_)
        simp only [if_true]
        exact h
      simp only [hcut, if_true] at hI
      by_cases hne : (ofL line).toList = ([] : List UInt8)
      · refine ⟨(out, ((at_ + line.length + 2 : Nat) : Int), true), hS _ ?_, hI _ ?_, ho⟩
        · simp only [if_pos hne]
          exact Ev.now _
        · simp only [if_pos hne]
          rw [ofL_size, wrap_in (by omega) (by omega), show (x.size : Int) - (q.length : Int) = ((at_ + line.length + 2 : Nat) : Int) by omega]
          exact Ev.now _
      · simp only [if_neg hne] at hS hI
        rw [hcs _ _ (by rw [ofL_size]; omega), hdl, hcc] at hI
        simp only [Option.bind_some] at hI
        have hC := fun R => spec_colon_ev x out ((at_ + line.length + 2 : Nat) : Int) (ofL line) (by rw [ofL_size]; omega) (R := R) line.length 0 (by rw [ofL_size]; omega)
        simp only [List.drop_zero, hdl, Nat.zero_add, ofL_size] at hC
        have hbadS : Ev (fun k => spec_ReadFields.j3 k x out ((at_ + line.length + 2 : Nat) : Int) (ofL line) (((if (Lib.cut line [58]).2.2 = true then (Lib.cut line [58]).1.length else line.length) : Nat) : Int) true) (([] : List Fld), (0 : Int), false) :=
          Ev.step (f := fun _ => some (([] : List Fld), (0 : Int), false)) (fun k => by simp only [spec_ReadFields.j3, if_true]) (Ev.now _)
        by_cases hf2 : (Lib.cut line [58]).2.2 = true
        · have hlc := cut_one_found 58 line hf2
          have hz : (Lib.cut line [58]).1.length + (Lib.cut line [58]).2.1.length + 1 = line.length := by
            have := congrArg List.length hlc
            rw [List.length_append, List.length_cons] at this
            omega
          simp only [if_pos hf2] at hC hbadS hI
          generalize hn1 : (Lib.cut line [58]).1 = nm at hC hbadS hI hlc hz
          generalize hv1 : (Lib.cut line [58]).2.1 = vl at hC hbadS hI hlc hz
          have hts : (trimT (ofL vl)).size ≤ 1048576 := Nat.le_trans (trimT_size _) (by rw [ofL_size]; omega)
          rw [impl_Trimmed_is _ (by rw [ofL_size]; omega)] at hI
          simp only [Option.bind_some] at hI
          rw [impl_isField_is _ _ (by rw [ofL_size]; omega) (by omega)] at hI
          simp only [Option.bind_some] at hI
          have hj2 : ∀ R, Ev (fun k => spec_ReadFields.j3 k x out ((at_ + line.length + 2 : Nat) : Int) (ofL line) (nm.length : Int) ((out.length : Int) == 30)) R → Ev (fun k => spec_ReadFields.l0 k x out (at_ : Int)) R := fun R h => hS _ (hC _ (Ev.step (fun k => by
            simp only [spec_ReadFields.j2]
            rw [if_neg (by rw [ofL_size]; omega)]) h))
          by_cases h30 : (out.length : Int) = 30
          · refine ⟨([], 0, false), hj2 _ ?_, hI _ ?_, Nat.zero_le _⟩
            · rw [show ((out.length : Int) == 30) = true from beq_iff_eq.2 h30]
              exact hbadS
            · cases isFieldB (ofL nm) (trimT (ofL vl))
              · exact Ev.now _
              · simp only [if_true, if_pos h30]
                exact Ev.now _
          · have he1 : (ofL line).extract ((nm.length + 1 : Nat)) (ofL line).size = ofL vl := ofL_eq (by
              rw [extract_u8, hdl, hlc, ofL_size]
              simp
              rw [List.take_of_length_le (by omega)])
            have he2 : (ofL line).extract 0 nm.length = ofL nm := ofL_eq (by
              rw [extract_u8, hdl, hlc]
              simp)
            have hj3 : ∀ R, Ev (fun k => if isFieldB (ofL nm) (trimT (ofL vl)) = true then spec_ReadFields.l0 k x (out ++ [(⟨ofL nm, trimT (ofL vl)⟩ : Fld)]) ((at_ + line.length + 2 : Nat) : Int) else some (([] : List Fld), 0, false)) R → Ev (fun k => spec_ReadFields.l0 k x out (at_ : Int)) R := fun R h => hj2 _ (by
              rw [show ((out.length : Int) == 30) = false from beq_eq_false_iff_ne.2 h30]
              refine Ev.step (f := fun k => (spec_Trimmed.f k (ofL vl)).bind fun t113 => (spec_l4Field.f k (ofL nm) t113).bind fun t115 => if t115 = true then spec_ReadFields.l0 k x (out ++ [(⟨ofL nm, t113⟩ : Fld)]) ((at_ + line.length + 2 : Nat) : Int) else some (([] : List Fld), 0, false)) (fun k => ?_) (Ev.bind (spec_Trimmed_ev _ (by rw [ofL_size]; omega)) (Ev.bind (spec_l4Field_ev _ _ (by rw [ofL_size]; omega) (by omega)) h))
              simp only [spec_ReadFields.j3, Bool.false_eq_true, if_false]
              rw [if_pos (by omega), if_pos (by rw [ofL_size]; omega), wrap_in (i := (nm.length : Int) + 1) (by omega) (by omega), if_pos (by omega), if_pos (by rw [ofL_size]; omega), show ((nm.length : Int) + 1).toNat = nm.length + 1 by omega, Int.toNat_natCast, he1, he2]
              simp only [if_pos (show out.length < 4398046511104 by omega)])
            cases hfb : isFieldB (ofL nm) (trimT (ofL vl)) with
            | false =>
              refine ⟨([], 0, false), hj3 _ ?_, hI _ ?_, Nat.zero_le _⟩
              · rw [hfb]
                exact Ev.now _
              · rw [hfb]
                exact Ev.now _
            | true =>
              have hdq : x.data.toList.drop (at_ + line.length + 2) = q := by
                rw [show at_ + line.length + 2 = at_ + (line.length + 2) by omega, ← List.drop_drop, hd, hrest]
                simp
              obtain ⟨R, r1, r2, r3⟩ := ih q (at_ + line.length + 2) (out ++ [(⟨ofL nm, trimT (ofL vl)⟩ : Fld)]) (by omega) (by omega) hdq (by rw [List.length_append]; simp; omega)
              refine ⟨R, hj3 _ ?_, hI _ ?_, r3⟩
              · rw [hfb]
                simp only [if_true]
                exact r1
              · rw [hfb]
                simp only [if_true, if_neg h30, if_pos (show out.length < 4398046511104 by omega)]
                exact r2
        · refine ⟨([], 0, false), hS _ (hC _ ?_), hI _ ?_, Nat.zero_le _⟩
          · simp only [if_neg hf2] at hbadS ⊢
            exact Ev.step (fun k => by
              simp only [spec_ReadFields.j2]
              rw [if_pos (by rw [ofL_size])]) hbadS
          · simp only [if_neg hf2]
            rw [impl_Trimmed_is _ (by
              have : (Lib.cut line [58]).2.1.length ≤ line.length := by
                unfold Lib.cut
                split
                · rw [List.length_drop]; omega
                · exact Nat.zero_le _
              rw [ofL_size]; omega)]
            exact Ev.now _
theorem cut_is (s sub : List UInt8) (h : s.length ≤ 1048576) : strings_Cut.f (ofL s) (ofL sub) = some (ofL (Lib.cut s sub).1, ofL (Lib.cut s sub).2.1, (Lib.cut s sub).2.2) := by
  unfold strings_Cut.f
  rw [if_pos (by rw [ofL_size]; omega)]
  rfl
theorem lineOf_at (l q : List UInt8) (h : ∀ c ∈ l, c ≠ 10 ∧ c ≠ 13) : lineOf (l ++ 13 :: 10 :: q) = some (l, q) := by
  induction l with
  | nil => rw [List.nil_append, lineOf.eq_def]; simp
  | cons c l ih =>
    have hc := h c (List.mem_cons_self ..)
    rw [List.cons_append, lineOf.eq_def]
    simp only [if_neg hc.1, if_neg hc.2]
    rw [ih fun x hx => h x (List.mem_cons_of_mem _ hx)]
    rfl
theorem cut_line (l q : List UInt8) (h : ∀ c ∈ l, c ≠ 10 ∧ c ≠ 13) : Lib.cut (l ++ 13 :: 10 :: q) [13, 10] = (l, q, true) := ((line_cut _).1 l q (lineOf_at l q h)).1
theorem cut_sep (p r : List UInt8) (h : ∀ c ∈ p, c ≠ 58) : Lib.cut (p ++ 58 :: r) [58] = (p, r, true) := by
  induction p with
  | nil => rw [List.nil_append, cut_cons, pre_one]; simp
  | cons c p ih =>
    rw [List.cons_append, cut_cons, pre_one, if_neg (by rw [beq_iff_eq]; exact fun e => h c (List.mem_cons_self ..) e.symm), ih fun x hx => h x (List.mem_cons_of_mem _ hx)]
    simp
theorem tok_not (c : UInt8) (h : tokB (c.toNat : Int) = true) : c ≠ 10 ∧ c ≠ 13 ∧ c ≠ 58 := by
  refine ⟨?_, ?_, ?_⟩ <;> (rintro rfl; revert h; decide)
theorem vis_not (c : UInt8) (h : visB (c.toNat : Int) = true) : c ≠ 10 ∧ c ≠ 13 := by
  refine ⟨?_, ?_⟩ <;> (rintro rfl; revert h; decide)
theorem mem_u8 {s : ByteArray} {c : UInt8} (h : c ∈ s.data.toList) : ((c.toNat : Nat) : Int) ∈ bytesOf s := List.mem_map.2 ⟨c, h, rfl⟩
/-- What a field's texts are. -/
theorem field_parts {n v : ByteArray} (h : isFieldB n v = true) : (∀ c ∈ n.data.toList, c ≠ 10 ∧ c ≠ 13 ∧ c ≠ 58) ∧ (∀ c ∈ v.data.toList, c ≠ 10 ∧ c ≠ 13) ∧ trimT v = v ∧ n.size ≤ 64 ∧ v.size ≤ 400 := by
  unfold isFieldB tokOk visOk at h
  simp only [Bool.and_eq_true, decide_eq_true_eq, List.all_eq_true, beq_iff_eq] at h
  obtain ⟨⟨⟨_, h2⟩, h3⟩, ⟨h4, h5⟩, h6⟩ := h
  exact ⟨fun c hc => tok_not c (h3 _ (mem_u8 hc)), fun c hc => vis_not c (h5 _ (mem_u8 hc)), eq_of_toList h6, h2, h4⟩
theorem trim_blank (v : ByteArray) : trimT (ofL (32 :: v.data.toList)) = trimT v := by
  have e : bytesOf (ofL (32 :: v.data.toList)) = 32 :: bytesOf v := by rw [ofL_bytes]; rfl
  unfold trimT trimN
  rw [e, ← drop_comm, ← drop_comm, dropL_cons, if_pos (by decide)]
/-- The lines of fields, read one by one. -/
theorem read_lines (x : ByteArray) (t : List UInt8) {R : List Fld × Int × Bool} : ∀ (l out : List Fld), out.length + l.length ≤ 30 → (∀ f ∈ l, isFieldB f.f0 f.f1 = true) → (showL l ++ t).length ≤ 1048576 →
    Ev (fun k => impl_ReadFields.l0 k x (out ++ l) (ofL t)) R → Ev (fun k => impl_ReadFields.l0 k x out (ofL (showL l ++ t))) R := by
  intro l
  induction l with
  | nil =>
    intro out _ _ _ h
    rw [List.append_nil] at h
    exact h
  | cons f l ih =>
    intro out ho hf hz h
    have hff := hf f (List.mem_cons_self ..)
    obtain ⟨h1, h2, h3, h4, h5⟩ := field_parts hff
    have e : showL (f :: l) ++ t = (f.f0.data.toList ++ 58 :: (32 :: f.f1.data.toList)) ++ 13 :: 10 :: (showL l ++ t) := by
      unfold showL
      rw [List.flatMap_cons]
      unfold lineL
      simp
    rw [e] at hz ⊢
    have hz2 := hz
    rw [List.length_append] at hz2
    simp only [List.length_cons] at hz2
    have hline : ∀ c ∈ f.f0.data.toList ++ 58 :: (32 :: f.f1.data.toList), c ≠ 10 ∧ c ≠ 13 := by
      intro c hc
      rcases List.mem_append.1 hc with hc | hc
      · exact ⟨(h1 c hc).1, (h1 c hc).2.1⟩
      · rcases List.mem_cons.1 hc with rfl | hc
        · decide
        · rcases List.mem_cons.1 hc with rfl | hc
          · decide
          · exact h2 c hc
    have h1z : f.f0.data.toList.length = f.f0.size := by rw [Array.length_toList]; rfl
    have h2z : f.f1.data.toList.length = f.f1.size := by rw [Array.length_toList]; rfl
    have hn : ofL f.f0.data.toList = f.f0 := ofL_data _
    have key := ih (out ++ [f]) (by rw [List.length_append, List.length_singleton]; simp only [List.length_cons] at ho; omega) (fun y hy => hf y (List.mem_cons_of_mem _ hy)) (by omega) (by rw [List.append_assoc, List.singleton_append]; exact h)
    refine Ev.step (fun k => ?_) key
    simp only [impl_ReadFields.l0]
    have c1 := cut_is ((f.f0.data.toList ++ 58 :: (32 :: f.f1.data.toList)) ++ 13 :: 10 :: (showL l ++ t)) [13, 10] hz
    rw [cut_line _ _ hline] at c1
    have c2 := cut_is (f.f0.data.toList ++ 58 :: (32 :: f.f1.data.toList)) [58] (by omega)
    rw [cut_sep _ _ fun c hc => (h1 c hc).2.2] at c2
    rw [show (⟨#[13, 10]⟩ : ByteArray) = ofL [13, 10] from rfl, show (⟨#[58]⟩ : ByteArray) = ofL [58] from rfl, c1]
    simp only [Option.bind_some, if_true]
    rw [if_neg (by rw [ofL_toList]; simp), c2]
    simp only [Option.bind_some, if_true]
    rw [impl_Trimmed_is _ (by rw [ofL_size, List.length_cons]; omega), trim_blank, h3, hn]
    simp only [Option.bind_some]
    rw [impl_isField_is _ _ (by omega) (by omega), hff]
    simp only [Option.bind_some, if_true]
    simp only [List.length_cons] at ho
    rw [if_neg (by omega), if_pos (by omega)]
/-- What is read are fields; a text that isn't read ends at no place. -/
theorem read_sound (x : ByteArray) : ∀ (k : Nat) (out : List Fld) (rest : List UInt8) (R : List Fld × Int × Bool), rest.length ≤ 1048576 → out.length ≤ 30 → (∀ f ∈ out, isFieldB f.f0 f.f1 = true) →
    impl_ReadFields.l0 k x out (ofL rest) = some R → (R.2.2 = true → R.1.length ≤ 30 ∧ ∀ f ∈ R.1, isFieldB f.f0 f.f1 = true) ∧ (R.2.2 = false → R.2.1 = 0) := by
  intro k
  induction k with
  | zero => intro out rest R _ _ _ h; exact absurd h (by simp [impl_ReadFields.l0])
  | succ k ih =>
    intro out rest R hr ho hf h
    have none_ : some (([] : List Fld), (0 : Int), false) = some R → (R.2.2 = true → R.1.length ≤ 30 ∧ ∀ f ∈ R.1, isFieldB f.f0 f.f1 = true) ∧ (R.2.2 = false → R.2.1 = 0) := by
      intro e
      obtain rfl := Option.some.inj e
      exact ⟨fun e => (by cases e), fun _ => rfl⟩
    simp only [impl_ReadFields.l0] at h
    have hc1 : (Lib.cut rest [13, 10]).1.length ≤ rest.length ∧ (Lib.cut rest [13, 10]).2.1.length ≤ rest.length := by
      unfold Lib.cut
      split
      · exact ⟨by rw [List.length_take]; exact Nat.min_le_right _ _, by rw [List.length_drop]; omega⟩
      · exact ⟨Nat.le_refl _, Nat.zero_le _⟩
    rw [show (⟨#[13, 10]⟩ : ByteArray) = ofL [13, 10] from rfl, show (⟨#[58]⟩ : ByteArray) = ofL [58] from rfl, cut_is _ _ hr] at h
    simp only [Option.bind_some] at h
    generalize Lib.cut rest [13, 10] = c1 at h hc1
    obtain ⟨a1, b1, t1⟩ := c1
    simp only at h hc1
    by_cases d1 : t1 = true
    · rw [if_pos d1] at h
      by_cases d2 : (ofL a1).toList = ([] : List UInt8)
      · rw [if_pos d2] at h
        obtain rfl := Option.some.inj h
        exact ⟨fun _ => ⟨ho, hf⟩, fun e => by cases e⟩
      · rw [if_neg d2, cut_is _ _ (by omega)] at h
        simp only [Option.bind_some] at h
        have hc2 : (Lib.cut a1 [58]).1.length ≤ a1.length ∧ (Lib.cut a1 [58]).2.1.length ≤ a1.length := by
          unfold Lib.cut
          split
          · exact ⟨by rw [List.length_take]; exact Nat.min_le_right _ _, by rw [List.length_drop]; omega⟩
          · exact ⟨Nat.le_refl _, Nat.zero_le _⟩
        generalize Lib.cut a1 [58] = c2 at h hc2
        obtain ⟨a2, b2, t2⟩ := c2
        simp only at h hc2
        have hz := trimT_size (ofL b2)
        rw [ofL_size] at hz
        rw [impl_Trimmed_is _ (by rw [ofL_size]; omega)] at h
        simp only [Option.bind_some] at h
        by_cases d3 : t2 = true
        · rw [if_pos d3, impl_isField_is _ _ (by rw [ofL_size]; omega) (by omega)] at h
          simp only [Option.bind_some] at h
          by_cases d4 : isFieldB (ofL a2) (trimT (ofL b2)) = true
          · rw [if_pos d4] at h
            by_cases d5 : (out.length : Int) = 30
            · rw [if_pos d5] at h
              exact none_ h
            · rw [if_neg d5, if_pos (by omega)] at h
              refine ih _ _ _ (by omega) (by rw [List.length_append, List.length_singleton]; omega) (fun f hm => ?_) h
              rcases List.mem_append.1 hm with hm | hm
              · exact hf f hm
              · rw [List.mem_singleton.1 hm]
                exact d4
          · rw [if_neg d4] at h
            exact none_ h
        · rw [if_neg d3] at h
          exact none_ h
    · rw [if_neg d1] at h
      exact none_ h
theorem likeFields_self (l : List Fld) (hl : l.length ≤ 1048576) : Ev (fun k => laws_likeFields.f k l l) true := by
  unfold laws_likeFields.f
  simp only [if_true]
  refine ev_eq (ev_listAll l z43 (fun _ => true) true false (fun k i => laws_likeFields.l0 k l l i) (fun i hi _ x hx => Ev.step (f := fun k => laws_likeFields.l0 k l l (((i + 1 : Nat) : Int))) (fun k => ?_) hx) (fun i hi hp => by cases hp) (Ev.step (f := fun _ => some true) (fun k => ?_) (Ev.now _))) (by simp)
  · simp only [laws_likeFields.l0]
    rw [if_pos (by omega), if_pos (by omega), if_pos (by omega), wrap_next hi (by omega)]
    simp
  · simp only [laws_likeFields.l0]
    rw [if_neg (by omega)]
def showT (l : List Fld) : ByteArray := ⟨(showL l).toArray⟩
theorem showT_bytes (l : List Fld) : bytesOf (showT l) = (showL l).map fun b => (b.toNat : Int) := bytes_ofList _
theorem showT_nums (l : List Fld) : strOfNums ((showL l).map fun b => (b.toNat : Int)) = showT l := by rw [← showT_bytes, nums_bytes]
theorem showT_size (l : List Fld) : (showT l).size = (showL l).length := by
  show (showL l).toArray.size = _
  simp
theorem line_bytes (x : Fld) : bytesOf (x.f0 ++ (⟨#[58, 32]⟩ : ByteArray) ++ x.f1 ++ (⟨#[13, 10]⟩ : ByteArray)) = (lineL x).map fun b => (b.toNat : Int) := by
  unfold bytesOf
  rw [line_data]
theorem showL_length_le (l : List Fld) (m : Nat) (h : ∀ x ∈ l, x.f0.size ≤ m ∧ x.f1.size ≤ m) : (showL l).length ≤ l.length * (2 * m + 4) := by
  unfold showL
  induction l with
  | nil => simp
  | cons a l ih =>
    rw [List.flatMap_cons, List.length_append, lineL_length, List.length_cons, Nat.add_mul, Nat.one_mul]
    have := h a List.mem_cons_self
    have := ih fun x hx => h x (List.mem_cons_of_mem _ hx)
    omega
theorem spec_l4Show_ev (l : List Fld) (hl : l.length ≤ 1048577) (hm : ∀ x ∈ l, x.f0.size ≤ 1048576 ∧ x.f1.size ≤ 1048576) : Ev (fun k => spec_l4Show.f k l) (showT l) := by
  unfold spec_l4Show.f
  have hz := showL_length_le l 1048576 hm
  have hz2 : l.length * (2 * 1048576 + 4) ≤ 1048577 * (2 * 1048576 + 4) := Nat.mul_le_mul_right _ hl
  have key : ∀ (n i : Nat), i + n = l.length → Ev (fun k => spec_l4Show.l0 k l ((showL (l.take i)).map fun b => (b.toNat : Int)) (i : Int)) (showT l) := by
    intro n
    induction n with
    | zero =>
      intro i hi
      rw [List.take_of_length_le (by omega)]
      refine Ev.step (f := fun _ => some (showT l)) (fun k => ?_) (Ev.now _)
      simp only [spec_l4Show.l0]
      rw [if_neg (by omega), showT_nums]
    | succ n ih =>
      intro i hi
      have hlt : i < l.length := by omega
      have h1 := hm _ (mem_getD (d := z43) hlt)
      have hn := showL_next l i hlt
      have hle := showL_le l (i + 1)
      rw [hn, List.length_append] at hle
      have e : l.getD i z43 = l[i]'hlt := by rw [List.getD_eq_getElem?_getD, List.getElem?_eq_getElem hlt]; rfl
      have h2 := ih (i + 1) (by omega)
      rw [hn, List.map_append, ← line_bytes] at h2
      rw [e] at h1
      have hll := lineL_length (l[i]'hlt)
      refine Ev.step (fun k => ?_) h2
      simp only [spec_l4Show.l0]
      rw [rd_fld, e, wrap_next hlt (by omega)]
      generalize l[i]'hlt = x at h1 hle hll
      have a1 : (x.f0 ++ (⟨#[58, 32]⟩ : ByteArray)).size = x.f0.size + 2 := by rw [ByteArray.size_append]; rfl
      have a2 : (x.f0 ++ (⟨#[58, 32]⟩ : ByteArray) ++ x.f1).size = x.f0.size + 2 + x.f1.size := by rw [ByteArray.size_append, a1]
      have a3 : (x.f0 ++ (⟨#[58, 32]⟩ : ByteArray) ++ x.f1 ++ (⟨#[13, 10]⟩ : ByteArray)).size = x.f0.size + 2 + x.f1.size + 2 := by rw [ByteArray.size_append, a2]; rfl
      rw [if_pos (by omega), if_pos (by omega), if_pos (by omega), if_pos (by omega), if_pos (by omega), if_pos (by rw [List.length_map]; omega)]
  exact key l.length 0 (by omega)
theorem impl_showFields_is (l : List Fld) (hl : l.length ≤ 1048577) (hm : ∀ x ∈ l, x.f0.size ≤ 1048576 ∧ x.f1.size ≤ 1048576) : impl_showFields.f l = some (showT l) := by
  unfold impl_showFields.f
  have hz := showL_length_le l 1048576 hm
  have hz2 : l.length * (2 * 1048576 + 4) ≤ 1048577 * (2 * 1048576 + 4) := Nat.mul_le_mul_right _ hl
  rw [if_pos (by omega)]
  rfl
theorem showT_size_le (l : List Fld) (hl : l.length ≤ 1048577) (hm : ∀ x ∈ l, x.f0.size ≤ 1048576 ∧ x.f1.size ≤ 1048576) : (showT l).size ≤ 70368744177664 := by
  rw [showT_size]
  have hz := showL_length_le l 1048576 hm
  have hz2 : l.length * (2 * 1048576 + 4) ≤ 1048577 * (2 * 1048576 + 4) := Nat.mul_le_mul_right _ hl
  omega
end Go.Proofs.YtkaknffeoeoajaaDoor.Q
namespace Go.Proofs.YtkaknffeoeoajaaDoor.Pure
set_option linter.unusedVariables false
set_option linter.unusedSimpArgs false
open Go.RowKit Go.Proofs.YtkaknffeoeoajaaDoor.P Go.Proofs.YtkaknffeoeoajaaDoor.Q Go.Proofs.YtkaknffeoeoajaaDoorW.PrintWords
theorem rdOf_le (l : List ByteArray) (m : Nat) (h : ∀ x ∈ l, x.size ≤ m) (j : Int) : (rdOf ByteArray.empty l j).size ≤ m := by
 unfold rdOf
 rw [List.getD_eq_getElem?_getD]
 cases e : l[j.toNat]? with
 | none => exact Nat.zero_le _
 | some v => exact h v (List.mem_of_getElem? e)
theorem drawField_ok (b : List Int) (hb : b.length ≤ 140737488351232) (i h : Int) (h0 : 0 ≤ i) : TotP (fun _ => spec_l4DrawField.f b i h) (fun r => r.1.size ≤ 10 ∧ r.2.1.size ≤ 10 ∧ 0 ≤ r.2.2.1) := by
 unfold spec_l4DrawField.f
 refine TotP.bind (TotP.of ⟨_, rfl, rfl⟩) fun (l1 : List ByteArray) (e : _ = l1) => ?_
 have n1 := rdOf_le l1 10 (by subst e; decide)
 subst e
 refine TotP.bind (TotP.of (below_ok b i h 7 h0 hb)) fun r1 p1 => TotP.ite (fun _ => TotP.ite (fun _ => ?_) (fun c => absurd (p1.2.1 (by omega)) c)) (fun c => absurd p1.1 c)
 refine TotP.bind (TotP.of ⟨_, rfl, rfl⟩) fun (l2 : List ByteArray) (e : _ = l2) => ?_
 have n2 := rdOf_le l2 10 (by subst e; decide)
 subst e
 refine TotP.bind (TotP.of (below_ok b _ _ 6 p1.2.2.2 hb)) fun r2 p2 => TotP.ite (fun _ => TotP.ite (fun _ => ?_) (fun c => absurd (p2.2.1 (by omega)) c)) (fun c => absurd p2.1 c)
 refine TotP.bind (TotP.of (once_ok b _ _ 24 p2.2.2.2 hb)) fun r3 p3 => TotP.ite (fun _ => ?_) (fun _ => TotP.now ⟨n1 _, n2 _, p3⟩)
 refine TotP.bind (TotP.of (below_ok b _ _ 2 p3 hb)) fun r4 p4 => TotP.ite (fun _ => ?_) (fun _ => TotP.ite (fun _ => ?_) (fun _ => TotP.now ⟨n1 _, n2 _, p4.2.2.2⟩))
 ·
  refine TotP.bind (TotP.of ⟨_, rfl, rfl⟩) fun (l3 : List ByteArray) (e : _ = l3) => ?_
  have n3 := rdOf_le l3 10 (by subst e; decide)
  subst e
  exact TotP.bind (TotP.of (below_ok b _ _ 4 p4.2.2.2 hb)) fun r5 p5 => TotP.ite (fun _ => TotP.ite (fun _ => TotP.now ⟨n3 _, n2 _, p5.2.2.2⟩) (fun c => absurd (p5.2.1 (by omega)) c)) (fun c => absurd p5.1 c)
 ·
  refine TotP.bind (TotP.of ⟨_, rfl, rfl⟩) fun (l3 : List ByteArray) (e : _ = l3) => ?_
  have n3 := rdOf_le l3 10 (by subst e; decide)
  subst e
  exact TotP.bind (TotP.of (below_ok b _ _ 4 p4.2.2.2 hb)) fun r5 p5 => TotP.ite (fun _ => TotP.ite (fun _ => TotP.now ⟨n1 _, n3 _, p5.2.2.2⟩) (fun c => absurd (p5.2.1 (by omega)) c)) (fun c => absurd p5.1 c)
def SmallF (l : List Fld) : Prop := l.length ≤ 31 ∧ ∀ f ∈ l, f.f0.size ≤ 10 ∧ f.f1.size ≤ 10
theorem SmallF.snoc {l : List Fld} {f : Fld} (h : SmallF l) (hl : l.length + 1 ≤ 31) (hf : f.f0.size ≤ 10 ∧ f.f1.size ≤ 10) : SmallF (l ++ [f]) :=
 ⟨by rw [List.length_append, List.length_singleton]; exact hl, fun x hx => by
  rcases List.mem_append.1 hx with hx | hx
  ·
   exact h.2 x hx
  ·
   rw [List.mem_singleton.1 hx]; exact hf⟩
theorem SmallF.nil : SmallF [] := ⟨Nat.zero_le _, fun x hx => by cases hx⟩
theorem SmallF.mild {l : List Fld} (h : SmallF l) : Mild l := ⟨by have := h.1; omega, fun x hx => by have := h.2 x hx; omega⟩
theorem many_loop (b : List Int) (hb : b.length ≤ 140737488351232) (d : Nat) : ∀ (x : List Fld) (i h : Int), 0 ≤ i → 31 ≤ x.length + d → SmallF x → TotP (fun k => spec_l4Draw.l1 k x b i h) (fun r => SmallF r.1 ∧ 0 ≤ r.2.1) := by
 induction d with
 | zero =>
  intro x i h h0 hd hx
  obtain ⟨r, e, p⟩ := below_ok b i h 2 h0 hb
  have h1 := p.1
  have h2 := p.2.1 (by decide)
  refine TotP.step (f := fun _ => some (x, r.2.1, r.2.2)) (fun k => ?_) (TotP.now ⟨hx, p.2.2.2⟩)
  simp only [spec_l4Draw.l1]
  rw [e]
  simp only [Option.bind_some]
  rw [wrap_in (i := 30 + r.1) (by omega) (by omega), if_neg (by omega)]
 | succ d ih =>
  intro x i h h0 hd hx
  obtain ⟨r, e, p⟩ := below_ok b i h 2 h0 hb
  have h1 := p.1
  have h2 := p.2.1 (by decide)
  by_cases c : (x.length : Int) < 30 + r.1
  ·
   refine TotP.step (f := fun k => spec_l4Draw.l1 k (x ++ [(⟨(⟨#[97]⟩ : ByteArray), (⟨#[]⟩ : ByteArray)⟩ : Fld)]) b r.2.1 r.2.2) (fun k => ?_) (ih _ _ _ p.2.2.2 (by rw [List.length_append, List.length_singleton]; omega) (hx.snoc (by omega) ⟨by decide, by decide⟩))
   simp only [spec_l4Draw.l1]
   rw [e]
   simp only [Option.bind_some]
   rw [wrap_in (i := 30 + r.1) (by omega) (by omega), if_pos c, if_pos (by omega)]
  ·
   refine TotP.step (f := fun _ => some (x, r.2.1, r.2.2)) (fun k => ?_) (TotP.now ⟨hx, p.2.2.2⟩)
   simp only [spec_l4Draw.l1]
   rw [e]
   simp only [Option.bind_some]
   rw [wrap_in (i := 30 + r.1) (by omega) (by omega), if_neg c]
theorem some_loop (b : List Int) (hb : b.length ≤ 140737488351232) (d : Nat) : ∀ (x : List Fld) (i h : Int), 0 ≤ i → x.length + d ≤ 31 → SmallF x → TotP (fun k => spec_l4Draw.l0 k x (d : Int) b i h) (fun r => SmallF r.1 ∧ 0 ≤ r.2.1) := by
 induction d with
 | zero =>
  intro x i h h0 hd hx
  refine TotP.step (f := fun k => (spec_l1Once.f b i h 40).bind fun bt114 => (if bt114.1 = true then (spec_l4Draw.l1 k (([] : List Fld)) b bt114.2.1 bt114.2.2) else (some (x, bt114.2.1, bt114.2.2)))) (fun k => ?_) ?_
  ·
   simp only [spec_l4Draw.l0]
   rw [if_neg (by omega)]
  ·
   exact TotP.bind (TotP.of (once_ok b i h 40 h0 hb)) fun r p => TotP.ite (fun _ => many_loop b hb 31 [] _ _ p (by simp) SmallF.nil) (fun _ => TotP.now ⟨hx, p⟩)
 | succ d ih =>
  intro x i h h0 hd hx
  refine TotP.step (f := fun k => (spec_l4DrawField.f b i h).bind fun bt107 => (if x.length < 4398046511104 then (spec_l4Draw.l0 k (x ++ [(⟨bt107.1, bt107.2.1⟩ : Fld)]) (d : Int) b bt107.2.2.1 bt107.2.2.2) else (none))) (fun k => ?_) ?_
  ·
   simp only [spec_l4Draw.l0]
   rw [if_pos (by omega), wrap_in (i := ((d + 1 : Nat) : Int) - 1) (by omega) (by omega), show ((d + 1 : Nat) : Int) - 1 = (d : Int) by omega]
  ·
   exact TotP.bind (drawField_ok b hb i h h0) fun r p => TotP.ite (fun _ => ih _ _ _ p.2.2 (by rw [List.length_append, List.length_singleton]; omega) (hx.snoc (by omega) ⟨p.1, p.2.1⟩)) (fun c => absurd (by omega) c)
theorem l4Draw_ok (b : List Int) (hb : b.length ≤ 140737488351232) (i h : Int) (h0 : 0 ≤ i) : TotP (fun k => spec_l4Draw.f k b i h) (fun r => SmallF r.1 ∧ 0 ≤ r.2.1) := by
 unfold spec_l4Draw.f
 refine TotP.bind (TotP.of (below_ok b i h 6 h0 hb)) fun r p => ?_
 have h1 := p.1
 have h2 := p.2.1 (by decide)
 have := some_loop b hb r.1.toNat [] r.2.1 r.2.2 p.2.2.2 (by simp only [List.length_nil]; omega) SmallF.nil
 rw [Int.toNat_of_nonneg h1] at this
 exact this
theorem drawShow_ok (b : List Int) (hb : b.length ≤ 140737488351232) : TotP (fun k => spec_DrawShowFields.f k b) (fun r => SmallF r) := by
 unfold spec_DrawShowFields.f spec_DrawFieldsOk.f
 refine TotP.bind (P := fun r => SmallF r) (TotP.bind (new_ok b hb) fun c pc => ?_) fun r p => TotP.now p
 obtain ⟨c0, c1, c2⟩ := c
 obtain ⟨e, p⟩ := pc
 simp only at e p
 subst e
 exact TotP.bind (l4Draw_ok _ hb _ _ p) fun r p => TotP.now p.1
def shownT (l : List Fld) : ByteArray := if fieldsOk l = true then showT l else ⟨#[]⟩
theorem shown_s (l : List Fld) (h : Mild l) : Ev (fun k => spec_ShowFields.f k l) (shownT l) := by
 unfold spec_ShowFields.f shownT
 refine Ev.bind (spec_FieldsOk_ev _ h) ?_
 cases fieldsOk l
 ·
  exact Ev.now _
 ·
  simp only [if_true]
  exact Ev.bind (spec_l4Show_ev _ (by have := h.1; omega) h.2) (Ev.now _)
theorem shown_i (l : List Fld) (h : Mild l) : impl_ShowFields.f l = some (shownT l) := by
 unfold impl_ShowFields.f shownT
 rw [impl_FieldsOk_is _ h, impl_showFields_is _ (by have := h.1; omega) h.2]
 cases fieldsOk l <;> rfl
theorem showT_small (l : List Fld) (h : SmallF l) : (showT l).size ≤ 1000 := by
 have h1 := showL_length_le l 10 h.2
 have h2 := h.1
 rw [showT_size]
 omega
theorem shown_small (l : List Fld) (h : SmallF l) : (shownT l).size ≤ 1000 := by
 unfold shownT
 split
 ·
  exact showT_small l h
 ·
  exact Nat.zero_le _
theorem drawRead_ok (b : List Int) (hb : b.length ≤ 140737488351232) : TotP (fun k => spec_DrawReadFields.f k b) (fun r => r.size ≤ 2000) := by
 unfold spec_DrawReadFields.f
 refine TotP.bind (new_ok b hb) fun c pc => ?_
 obtain ⟨c0, c1, c2⟩ := c
 obtain ⟨e, p⟩ := pc
 simp only at e p
 subst e
 refine TotP.bind (l4Draw_ok _ hb _ _ p) fun r1 p1 => ?_
 have hs := shown_small r1.1 p1.1
 have h2 : (⟨#[13, 10]⟩ : ByteArray).size = 2 := rfl
 refine TotP.bind (P := fun r => r = shownT r1.1) ⟨_, shown_s r1.1 p1.1.mild, rfl⟩ fun r2 p2 => ?_
 subst p2
 refine TotP.ite (fun _ => ?_) (fun c => absurd (by omega) c)
 refine TotP.bind (drawText_ok _ hb _ _ p1.2 _ (by decide) 3 (by decide) (by decide)) fun r3 p3 => ?_
 have h3 : r3.1.size ≤ 3 := p3.2
 have hz : (shownT r1.1 ++ (⟨#[13, 10]⟩ : ByteArray)).size = (shownT r1.1).size + 2 := by rw [ByteArray.size_append, h2]
 have hz2 : (shownT r1.1 ++ (⟨#[13, 10]⟩ : ByteArray) ++ r3.1).size = (shownT r1.1).size + 2 + r3.1.size := by rw [ByteArray.size_append, hz]
 refine TotP.ite (fun _ => ?_) (fun c => absurd (by omega) c)
 refine TotP.bind (TotP.of (once_ok _ _ _ 2 p3.1 hb)) fun r4 p4 => TotP.ite (fun _ => ?_) (fun _ => TotP.now (by omega))
 exact TotP.bind (bend_ok _ hb _ _ (by omega) (by decide) _ _ p4) fun r5 p5 => TotP.now (by have h := p5.1; omega)
theorem fieldsOk_all {l : List Fld} (h : fieldsOk l = true) : l.length ≤ 30 ∧ ∀ f ∈ l, isFieldB f.f0 f.f1 = true := by
 unfold fieldsOk at h
 simp only [Bool.and_eq_true, decide_eq_true_eq, List.all_eq_true] at h
 exact h
/-- What is shown, and what stands behind it. -/
theorem read_back (l : List Fld) (h : SmallF l) (hf : fieldsOk l = true) (t : List UInt8) (ht : t.length ≤ 10) {R : List Fld × Int × Bool} (hR : ∀ x : ByteArray, x.size = (showT l).size + t.length → Ev (fun k => impl_ReadFields.l0 k x l (ofL t)) R) : Ev (fun k => impl_ReadFields.f k (showT l ++ ofL t)) R := by
 have hz := showT_small l h
 rw [showT_size] at hz
 have e : showT l ++ ofL t = ofL (showL l ++ t) := ofL_append (showL l) t
 have := read_lines (ofL (showL l ++ t)) t l [] (by have := (fieldsOk_all hf).1; simpa using this) (fieldsOk_all hf).2 (by rw [List.length_append]; omega) (R := R) (hR _ (by rw [ofL_size, List.length_append, showT_size]))
 rw [e]
 unfold impl_ReadFields.f
 exact this
theorem read_whole (l : List Fld) (h : SmallF l) (hf : fieldsOk l = true) : Ev (fun k => impl_ReadFields.f k (showT l ++ (⟨#[13, 10, 97, 98, 99]⟩ : ByteArray))) (l, ((showT l).size : Int) + 2, true) := by
 have hz := showT_small l h
 refine read_back l h hf [13, 10, 97, 98, 99] (by decide) fun x hx => ?_
 refine Ev.step (f := fun _ => some (l, ((showT l).size : Int) + 2, true)) (fun k => ?_) (Ev.now _)
 simp only [impl_ReadFields.l0]
 rw [show (⟨#[13, 10]⟩ : ByteArray) = ofL [13, 10] from rfl, cut_is [13, 10, 97, 98, 99] [13, 10] (by decide), show Lib.cut ([13, 10, 97, 98, 99] : List UInt8) [13, 10] = ([], [97, 98, 99], true) from cut_line [] [97, 98, 99] (by simp)]
 simp only [Option.bind_some, if_true]
 rw [if_pos (by rw [ofL_toList]), ofL_size, hx]
 simp only [List.length_cons, List.length_nil]
 rw [wrap_in (by omega) (by omega), show (((showT l).size + (0 + 1 + 1 + 1 + 1 + 1) : Nat) : Int) - ((0 + 1 + 1 + 1 : Nat) : Int) = ((showT l).size : Int) + 2 by omega]
theorem read_part (l : List Fld) (h : SmallF l) (hf : fieldsOk l = true) (p : Int) (p0 : 0 ≤ p) (p1 : p < 2) : Ev (fun k => impl_ReadFields.f k (showT l ++ ((⟨#[13, 10]⟩ : ByteArray).extract 0 (p : Int).toNat))) (([] : List Fld), 0, false) := by
 have h2 : p = 0 ∨ p = 1 := by omega
 rcases h2 with rfl | rfl
 ·
  have e : ((⟨#[13, 10]⟩ : ByteArray).extract 0 ((0 : Int)).toNat) = ofL [] := by decide
  rw [e]
  refine read_back l h hf [] (by decide) fun x hx => ?_
  refine Ev.step (f := fun _ => some (([] : List Fld), (0 : Int), false)) (fun k => ?_) (Ev.now _)
  simp only [impl_ReadFields.l0]
  rw [show (⟨#[13, 10]⟩ : ByteArray) = ofL [13, 10] from rfl, cut_is [] [13, 10] (by decide), cut_nil _ (by simp)]
  rfl
 ·
  have e : ((⟨#[13, 10]⟩ : ByteArray).extract 0 ((1 : Int)).toNat) = ofL [13] := by decide
  rw [e]
  refine read_back l h hf [13] (by decide) fun x hx => ?_
  refine Ev.step (f := fun _ => some (([] : List Fld), (0 : Int), false)) (fun k => ?_) (Ev.now _)
  simp only [impl_ReadFields.l0]
  rw [show (⟨#[13, 10]⟩ : ByteArray) = ofL [13, 10] from rfl, cut_is [13] [13, 10] (by decide), show Lib.cut ([13] : List UInt8) [13, 10] = ([13], [], false) by rw [cut_cons, cut_nil _ (by simp)]; simp [List.isPrefixOf]]
  rfl
theorem fields_1 (l : List Int) (hb : l.length ≤ 140737488351232) : Ev (fun k => laws_FnFields.j1 k l) true := by
 obtain ⟨t, d1, s1⟩ := drawRead_ok l hb
 obtain ⟨⟨R, p, b⟩, hS, hI, hR⟩ := ReadFields_both t (by omega) t.size t.data.toList 0 [] (by rw [Array.length_toList]; exact Nat.le_refl _) (by rw [Array.length_toList]; exact Nat.zero_add _) rfl (Nat.zero_le _)
 have hz : t.data.toList.length = t.size := by rw [Array.length_toList]; rfl
 have snd : (b = true → R.length ≤ 30 ∧ ∀ f ∈ R, isFieldB f.f0 f.f1 = true) ∧ (b = false → p = 0) := by
  obtain ⟨K, hK⟩ := hI
  exact read_sound t K [] t.data.toList (R, p, b) (by omega) (Nat.zero_le _) (fun f hm => by cases hm) (hK K (Nat.le_refl _))
 replace hS : Ev (fun k => spec_ReadFields.f k t) (R, p, b) := hS
 replace hI : Ev (fun k => impl_ReadFields.f k t) (R, p, b) := by
  rw [ofL_data] at hI
  exact hI
 have hl : R.length ≤ 1048576 := by have : R.length ≤ 30 := hR; omega
 have hE := likeFields_self R hl
 refine Ev.step (f := fun k => (spec_DrawReadFields.f k l).bind fun t122 => ((impl_ReadFields.f k t122).bind fun bt123 => ((spec_ReadFields.f k t122).bind fun bt128 => (if (bt123.2.2 != bt128.2.2) = true then (some false) else (if bt123.2.1 = bt128.2.1 then ((laws_likeFields.f k bt123.1 bt128.1).bind fun t133 => (if t133 = true then (if bt123.2.2 = true then ((impl_FieldsOk.f bt123.1).bind fun t134 => (some t134)) else (if bt123.2.1 = 0 then (some true) else (some false))) else (some false))) else (some false)))))) (fun k => by simp only [laws_FnFields.j1]) ?_
 refine Ev.bind d1 (Ev.bind hI (Ev.bind hS ?_))
 simp only [bne_self_eq_false, Bool.false_eq_true, if_false, if_true]
 refine Ev.bind hE ?_
 simp only [if_true]
 cases b with
 | true =>
  obtain ⟨g1, g2⟩ := snd.1 rfl
  have hm : Mild R := ⟨hl, fun f hf => by obtain ⟨_, _, _, a1, a2⟩ := field_parts (g2 f hf); omega⟩
  have hok : fieldsOk R = true := by
   unfold fieldsOk
   rw [decide_eq_true g1, Bool.true_and, List.all_eq_true]
   exact g2
  simp only [if_true, impl_FieldsOk_is R hm, hok, Option.bind_some]
  exact Ev.now _
 | false =>
  simp only [Bool.false_eq_true, if_false, snd.2 rfl, if_true]
  exact Ev.now _
theorem fields_0 (l : List Int) (hb : l.length ≤ 140737488351232) (hx : ∀ x ∈ l, 0 ≤ x ∧ x ≤ 255) (f : List Fld) (h : SmallF f) : Ev (fun k => laws_FnFields.j0 k l f (shownT f) false) true := by
 obtain ⟨q, d1, q0, q1⟩ := pick_ok l hb hx 1 2 (by decide) (by decide)
 have hj := fields_1 l hb
 have hs := shown_small f h
 refine Ev.step (f := fun k => (impl_FieldsOk.f f).bind fun t109 => (if t109 = true then (if (shownT f).size + 5 ≤ 9223372036854775807 then ((impl_ReadFields.f k ((shownT f) ++ (⟨#[13, 10, 97, 98, 99]⟩ : ByteArray))).bind fun bt110 => ((laws_pick.f k l 1 2).bind fun t115 => (if 0 ≤ t115 then (if t115 ≤ 2 then (if (shownT f).size + ((⟨#[13, 10]⟩ : ByteArray).extract 0 (t115 : Int).toNat).size ≤ 9223372036854775807 then ((impl_ReadFields.f k ((shownT f) ++ ((⟨#[13, 10]⟩ : ByteArray).extract 0 (t115 : Int).toNat))).bind fun bt116 => (if bt110.2.2 = true then (if bt110.2.1 = (wrap64 (((shownT f).size : Int) + 2)) then ((laws_likeFields.f k bt110.1 f).bind fun t121 => (if t121 = true then (if bt116.2.2 = true then (some false) else (laws_FnFields.j1 k l)) else (some false))) else (some false)) else (some false))) else (none)) else (none)) else (none)))) else (none)) else (laws_FnFields.j1 k l))) (fun k => by simp only [laws_FnFields.j0]; rw [if_neg (by simp)]) ?_
 simp only [impl_FieldsOk_is f h.mild, Option.bind_some]
 by_cases c : fieldsOk f = true
 ·
  have e : shownT f = showT f := if_pos c
  have hz : ((⟨#[13, 10]⟩ : ByteArray).extract 0 (q : Int).toNat).size ≤ 10 := by
   have h2 : q = 0 ∨ q = 1 := by omega
   rcases h2 with rfl | rfl <;> decide
  simp only [if_pos c, if_pos (show (shownT f).size + 5 ≤ 9223372036854775807 by omega)]
  rw [e]
  rw [e] at hs
  refine Ev.bind (read_whole f h c) (Ev.bind d1 ?_)
  simp only [if_pos q0, if_pos (show q ≤ 2 by omega), if_pos (show (showT f).size + ((⟨#[13, 10]⟩ : ByteArray).extract 0 (q : Int).toNat).size ≤ 9223372036854775807 by omega)]
  refine Ev.bind (read_part f h c q q0 q1) ?_
  simp only [if_true, wrap_in (i := ((showT f).size : Int) + 2) (by omega) (by omega)]
  refine Ev.bind (likeFields_self f (by have := h.1; omega)) ?_
  simp only [if_true, Bool.false_eq_true, if_false]
  exact hj
 ·
  simp only [if_neg c]
  exact hj
theorem FnFields : laws_FnFields.Pure := by
 intro l hl hs hx
 have hb : l.length ≤ 140737488351232 := by omega
 have hx2 : ∀ x ∈ l, 0 ≤ x ∧ x ≤ 255 := fun x h => by
  have := hx x h
  simp [Lit.wf] at this
  have e1 : IntKind.u8.min = 0 := rfl
  have e2 : IntKind.u8.max = 255 := rfl
  omega
 obtain ⟨f, d1, s1⟩ := drawShow_ok l hb
 have key : Ev (fun k => laws_FnFields.f k l) true := by
  unfold laws_FnFields.f laws_big.f
  simp only [Option.bind_some]
  by_cases hb2 : decide ((l.length : Int) > 4096) = true
  ·
   simp only [if_pos hb2]
   exact Ev.now _
  ·
   simp only [if_neg hb2]
   refine Ev.bind d1 ?_
   simp only [shown_i f s1.mild, Option.bind_some]
   refine Ev.bind (shown_s f s1.mild) ?_
   simp only [if_true, impl_FieldsOk_is f s1.mild, Option.bind_some]
   refine Ev.bind (spec_FieldsOk_ev f s1.mild) ?_
   simp only [bne_self_eq_false]
   exact fields_0 l hb hx2 f s1
 obtain ⟨K, hK⟩ := key
 exact ⟨K, hK K (Nat.le_refl _)⟩
end Go.Proofs.YtkaknffeoeoajaaDoor.Pure
namespace Go.Proofs.YtkaknffeoeoajaaDoor.fnFields
open Go.ChangeShapes Go.WideShapes Go.ChangeAt Go.RowKit
open Go.ChangeMaps (open_string shut_string)
set_option linter.unusedVariables false
theorem own : ownKnob Tryd.prog.godebug = none := by kernel_rfl
theorem laidOut : laidOutB Tryd.prog = true := by kernel_rfl
def IsRow (k : IntKind) (w : World) (a : Option Addr) (len cap : Nat) (zs : List Int) : Prop :=
  (a = none ∧ len = 0 ∧ cap = 0 ∧ zs = []) ∨
  ∃ x, a = some x ∧ len ≤ cap ∧ cap ≤ maxLen ∧ zs.length = cap ∧ (∀ i, i < zs.length → w.cell? (x.add i) = some (.int k (zs.getD i 0))) ∧ ∀ n ∈ zs, (Lit.int k n).wf = true
set_option maxRecDepth 100000 in
theorem lifted (os : Os) (started : os.Started) (H : Type) (enc : TypeId × Value → H) :
    ReturnsInHanded {} Tryd.checked os 3 .any (fun w args => (Rows.fnFieldsSpec.pre enc Tryd.prog Tryd.f3 [] false w args ∧ laidMetH Tryd.prog Rows.fnFieldsRow.laid w) ∧ sizedMet enc Tryd.prog Tryd.f3 (OpenSpec.ofChange Rows.fnFieldsSpec) false w args) (Rows.fnFieldsSpec.post enc Tryd.prog Tryd.f3 false true false false) := by
  refine RowAid.handed_both (C := Tryd.checked) (X := fun w _ => laidMetH Tryd.prog Rows.fnFieldsRow.laid w) (fun _ _ _ hh h => h.of_heap hh) own started (by kernel_rfl) Tryd.func3
    (ChangeSpec.witness_shaped (enc := enc) (C := Tryd.checked) (os := os) (X := fun w _ => laidMetH Tryd.prog Rows.fnFieldsRow.laid w) false (World.laidAll Tryd.prog os Rows.fnFieldsRow.laid) #[.slice none 0 0] 8 (World.laidAll_os _ _ _)
      (World.shaped_of_ZipB (by kernel_rfl) (by kernel_rfl)) (by kernel_rfl) (by kernel_rfl) (by kernel_rfl)
      (by rw [MakeChecks.laidMetH_plain _ _ _ (by kernel_rfl)]; exact laidMet_laidAll _ (by kernel_rfl) (by kernel_rfl))) ?_
  intro W base args ds gs before hval0 hW hcnd hsz0 hL hSh _
  have hsz : (DataW.weightsEach Tryd.prog (Tryd.f3.params.toList ++ Rows.fnFieldsSpec.plain.varTypes Tryd.prog) (ds ++ gs)).all (· ≤ reachBytes) = true := hsz0
  have hval : ∀ (j : Nat) t v, Tryd.f3.params[j]? = some t → args[j]? = some v → Value.okWide Tryd.prog W .any base t v := hval0
  have hW' := hW
  obtain ⟨p, q, hA0, hV, rfl, hfz, hnd⟩ := hW
  have hA : DataW.TrodAll enc Tryd.prog W 0 (fun _ => true) true Tryd.f3.params.toList args.toList ds p := hA0
  rw [Tryd.params3] at hA hval hsz
  obtain ⟨v0, vs0, d0, ds0, p0, q0, hargs, rfl, rfl, h0, r0⟩ := trodAll_cons hA
  obtain ⟨rfl, rfl, rfl⟩ := trodAll_nil r0
  obtain rfl : args = #[v0] := by cases args; simp_all
  obtain ⟨rfl, rfl⟩ := trodVars_none hV
  obtain ⟨a0, len0, cap0, rfl⟩ := okWide_slice Tryd.underlying22 (hval 0 22 v0 rfl rfl)
  have k0 := h0
  have lt0 : ∀ x ∈ p0, x.block < W.heap.size := by obtain ⟨m, hm⟩ := k0; exact DataW.trod_lt m _ _ _ hm
  obtain ⟨z0, w0⟩ : ∃ zs, IsRow .u8 W a0 len0 cap0 zs := by
    obtain ⟨fuel, hf⟩ := h0
    rcases open_ints Tryd.underlying22 Tryd.underlying5 (by kernel_rfl) hf with ⟨hcs, _⟩ | ⟨x, l, c, zs, hcs, _, hl, hm, hz, _, hcell, hwz⟩
    · simp [Value.cells] at hcs
      obtain ⟨rfl, rfl, rfl⟩ := hcs
      exact ⟨[], .inl ⟨rfl, rfl, rfl, rfl⟩⟩
    · simp [Value.cells] at hcs
      obtain ⟨rfl, rfl, rfl⟩ := hcs
      exact ⟨zs, .inr ⟨_, rfl, hl, hm, by simpa using hz, hcell, hwz⟩⟩
  have y0 : len0 * 1 ≤ 140737488351232 := Go.Proofs.YtkaknffeoeoajaaDoorW.PrintWords.sized_ints hsz (j := 0) (t := 22) rfl rfl Tryd.underlying22 Tryd.underlying5 (by kernel_rfl) (by kernel_rfl) h0
  clear hA0 hval0 hsz0 hsz
  have hXW := RowAid.xw_of (m := 1) hSh Rows.fnFieldsRow.laid hL (by kernel_rfl) (fun h_ => absurd h_ (by decide)) (fun h_ => absurd h_ (by decide))
  refine (P.laws_FnFields.walk Pure.FnFields a0 len0 cap0 z0 W hXW w0 y0).mono fun e W' ⟨he, bel⟩ => ?_
  subst he
  exact ⟨_, rfl, _, _, _, [], _, [], hW', trodAll_mk1 (shut_bool Tryd.underlying4 _), (trodAll_cons_mk (Below.trod laidOut (by kernel_rfl) (of_decide_eq_true (by kernel_rfl)) k0 bel lt0) trodAll_mk0), rfl, bel.frame _, fun h => by cases h⟩
theorem over : Rows.fnFieldsRow.holds Tryd.pinned (OpenSpec.ofChange Rows.fnFieldsSpec) :=
  OpenClaim.holds_of_wide 3 Tryd.f3 rfl rfl rfl rfl rfl rfl rfl ⟨rfl, rfl, rfl, rfl, rfl⟩ rfl rfl rfl rfl rfl (by kernel_rfl) Tryd.func3 (by kernel_rfl)
    (of_decide_eq_true (by kernel_rfl)) (by unfold Func.isWrapper; first | (rw [if_pos (by decide +kernel)]; kernel_rfl) | (rw [if_neg (by decide +kernel)]; exact ⟨rfl, rfl⟩))
    (fun os started H enc _ => lifted os started H enc)
theorem proved : Rows.FnFieldsSaid := over
#print axioms proved
end Go.Proofs.YtkaknffeoeoajaaDoor.fnFields
namespace Go.Proofs.YtkaknffeoeoajaaDoor
/-- The tied card, under a short name, for the claim. -/
theorem fnFields_card : Rows.FnFieldsCardSaid :=
  Claim7.holds_tied_plain_at .later [] [.data, .pinned] true (true, "2ab5d33b405df0d314bdb6efa1563f925977d69494f8123624cb0ed7848c43fc") true
    fnFields.proved (fun _ h => by cases h) (by kernel_rfl) (fun _ h => by cases h) fnFields_row_tie rfl ⟨rfl, rfl⟩ (by kernel_rfl) rfl
    (fun f fn hf hfn => by
      obtain rfl : f = 3 := Option.some.inj ((show Tryd.prog.funcNamed "loop.example/g00207/laws.FnFields" = some 3 by kernel_rfl).symm.trans hf) |>.symm
      obtain rfl : fn = Tryd.f3 := (Option.some.inj (Tryd.func3.symm.trans hfn)).symm
      exact ⟨by kernel_rfl, fun j t ht => by
        rw [Tryd.params3] at ht
        have hm : t ∈ [22] := by simpa using Array.mem_of_getElem? ht
        have hall : ([22].all fun u => !Tryd.prog.wantsStandIn u) = true := by kernel_rfl
        exact (show Tryd.prog.wantsStandIn t = false by simpa using List.all_eq_true.1 hall t hm)⟩)
    (by kernel_rfl)
#print axioms fnFields_card
end Go.Proofs.YtkaknffeoeoajaaDoor
