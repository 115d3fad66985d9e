/- Functions of the Go program as Lean functions, and proofs about them, merged out of this session's texts by its program bundle.py; conditions: those that each theorem states. -/
import Derived.Below
import Derived.ChangeOld
import Derived.Lib.Bytealg
import Derived.Lib.Strings
import Derived.OpenShut
import Derived.ProofKit
import Derived.ShutString
import Derived.SizedLaws
import Derived.Test.YtpgpjgdcfhodgaaGall
import Derived.Test.YtpgpjgdcfhodgaaGimplquoted
import Derived.Test.YtpgpjgdcfhodgaaP0
import Derived.Test.YtpgpjgdcfhodgaaPimplQuoted
import Derived.Test.YtpgpjgdcfhodgaaPimplUnquoted
import Derived.Test.YtpgpjgdcfhodgaaPimplVisibleOk
import Derived.Test.YtpgpjgdcfhodgaaPimplisVisible
import Derived.Test.YtpgpjgdcfhodgaaPlawsFnExactUnquoted
import Derived.Test.YtpgpjgdcfhodgaaPspecQuoted
import Derived.Test.YtpgpjgdcfhodgaaPspecUnquoted
import Derived.Test.YtpgpjgdcfhodgaaPspecVisibleOk
import Derived.Test.YtpgpjgdcfhodgaaPspecl1Quoted
import Derived.Test.YtpgpjgdcfhodgaaRows
import Derived.WalkKit
namespace Go.Proofs.Ytpgpjgdcfhodgaa.Q
open Go.RowKit Go.Proofs.YtpgpjgdcfhodgaaW.PrintWords Go.Proofs.YtpgpjgdcfhodgaaW.PrintLast Go.Proofs.YtpgpjgdcfhodgaaW.PrintMore

theorem wrap_in {i : Int} (h0 : -9223372036854775808 ≤ i) (h1 : i ≤ 9223372036854775807) : wrap64 i = i := by unfold wrap64; omega
theorem wrap_next {i : Nat} {n : Nat} (h : i < n) (hn : n ≤ 4611686018427387904) : wrap64 ((i : Int) + 1) = ((i + 1 : Nat) : Int) := by unfold wrap64; omega

theorem toList_data (s : ByteArray) : s.toList = s.data.toList := ByteArray.toList_eq s
theorem eq_of_toList {a b : ByteArray} (h : a.toList = b.toList) : a = b := by
  rw [toList_data, toList_data] at h
  exact ByteArray.ext (Array.toList_inj.1 h)
theorem bt_get (s : ByteArray) (i : Nat) (h : i < s.size) : (bytesOf s)[i]? = some (bt s i) := by
  rw [← rd_bytesOf]
  have h1 : i < (bytesOf s).length := by rw [bytesOf_length]; exact h
  simp [rd, List.getD_eq_getElem?_getD, List.getElem?_eq_getElem h1]
theorem drop_bt (s : ByteArray) (i : Nat) (h : i < s.size) : (bytesOf s).drop i = bt s i :: (bytesOf s).drop (i + 1) := by
  have h1 : i < (bytesOf s).length := by rw [bytesOf_length]; exact h
  rw [List.drop_eq_getElem_cons h1]
  have := bt_get s i h
  rw [List.getElem?_eq_getElem h1] at this
  rw [Option.some.inj this]
theorem mem_bytes {s : ByteArray} {c : Int} (h : c ∈ bytesOf s) : 0 ≤ c ∧ c ≤ 255 := by
  unfold bytesOf at h
  obtain ⟨b, _, rfl⟩ := List.mem_map.1 h
  have := b.toNat_lt
  omega
theorem bytes_nums (l : List Int) (h : ∀ c ∈ l, 0 ≤ c ∧ c ≤ 255) : bytesOf (strOfNums l) = l := by
  unfold bytesOf
  rw [strOfNums_data, List.map_map]
  refine (List.map_congr_left fun c hc => ?_).trans (List.map_id l)
  have := h c hc
  simp only [Function.comp, UInt8.toNat_ofNat', id]
  omega
theorem nums_bytes (s : ByteArray) : strOfNums (bytesOf s) = s := by
  apply ByteArray.ext
  apply Array.toList_inj.1
  rw [strOfNums_data]
  unfold bytesOf
  rw [List.map_map]
  refine (List.map_congr_left fun c hc => ?_).trans (List.map_id _)
  simp
theorem bytes_inj {a b : ByteArray} (h : bytesOf a = bytesOf b) : a = b := by rw [← nums_bytes a, ← nums_bytes b, h]
theorem bytes_append (a b : ByteArray) : bytesOf (a ++ b) = bytesOf a ++ bytesOf b := by
  unfold bytesOf
  rw [← List.map_append]
  simp [ByteArray.data_append]

/-- A loop over bytes: what a round does with its state and a byte; an end ahead of time. -/
def runL {σ β : Type} (f : σ → Int → σ ⊕ β) (fin : σ → β) : List Int → σ → β
  | [], st => fin st
  | c :: cs, st => match f st c with
    | .inl st' => runL f fin cs st'
    | .inr b => b
/-- The printed loop comes to what 'runL' comes to, from some number of rounds on. -/
theorem ev_run {σ β : Type} (s : ByteArray) (I : σ → Nat → Prop) (f : σ → Int → σ ⊕ β) (fin : σ → β) (g : Nat → σ → Int → Option β) (K : Nat)
    (hstep : ∀ k st (i : Nat), K ≤ k → i < s.size → I st i → (∀ st', f st (bt s i) = .inl st' → g (k + 1) st i = g k st' ((i + 1 : Nat) : Int) ∧ I st' (i + 1)) ∧ (∀ b, f st (bt s i) = .inr b → g (k + 1) st i = some b))
    (hend : ∀ k st, K ≤ k → I st s.size → g (k + 1) st (s.size : Int) = some (fin st)) (st : σ) (h0 : I st 0) :
    Ev (fun k => g k st 0) (runL f fin (bytesOf s) st) := by
  have key : ∀ (d i : Nat) (st : σ), i + d = s.size → I st i → ∀ k, K + d < k → g k st (i : Int) = some (runL f fin ((bytesOf s).drop i) st) := by
    intro d
    induction d with
    | zero =>
      intro i st hd hI k hk
      obtain ⟨k, rfl⟩ : ∃ m, k = m + 1 := ⟨k - 1, by omega⟩
      have e : i = s.size := by omega
      subst e
      rw [hend k st (by omega) hI, List.drop_of_length_le (by rw [bytesOf_length]; exact Nat.le_refl _)]
      rfl
    | succ d ih =>
      intro i st hd hI k hk
      obtain ⟨k, rfl⟩ : ∃ m, k = m + 1 := ⟨k - 1, by omega⟩
      obtain ⟨h1, h2⟩ := hstep k st i (by omega) (by omega) hI
      rw [drop_bt s i (by omega)]
      show g (k + 1) st i = some (match f st (bt s i) with | .inl st' => runL f fin ((bytesOf s).drop (i + 1)) st' | .inr b => b)
      cases hf : f st (bt s i) with
      | inl st' =>
        obtain ⟨e, hI'⟩ := h1 st' hf
        rw [e]
        exact ih (i + 1) st' (by omega) hI' k (by omega)
      | inr b => exact h2 b hf
  refine ⟨K + s.size + 1, fun k hk => ?_⟩
  have := key s.size 0 st (by omega) h0 k (by omega)
  rw [List.drop_zero] at this
  exact this

/-- A loop that asks each byte. -/
theorem ev_all (s : ByteArray) (p : Int → Bool) (g : Nat → Int → Option Bool) (K : Nat)
    (h1 : ∀ k (i : Nat), K ≤ k → i < s.size → p (bt s i) = true → g (k + 1) i = g k ((i + 1 : Nat) : Int))
    (h0 : ∀ k (i : Nat), K ≤ k → i < s.size → p (bt s i) = false → g (k + 1) i = some false)
    (he : ∀ k, K ≤ k → g (k + 1) (s.size : Int) = some true) : Ev (fun k => g k 0) ((bytesOf s).all p) := by
  have h := ev_run (σ := Unit) (β := Bool) s (fun _ _ => True) (fun _ c => if p c = true then .inl () else .inr false) (fun _ => true) (fun k _ i => g k i) K
    (fun k st i hk hi _ => ⟨fun st' e => ⟨h1 k i hk hi (by
        by_cases hp : p (bt s i) = true
        · exact hp
        · rw [if_neg hp] at e; cases e), trivial⟩, fun b e => by
        by_cases hp : p (bt s i) = true
        · rw [if_pos hp] at e; cases e
        · rw [if_neg hp] at e
          obtain rfl : false = b := by injection e
          exact h0 k i hk hi (by simpa using hp)⟩)
    (fun k st hk _ => he k hk) () trivial
  have e : ∀ l : List Int, runL (σ := Unit) (β := Bool) (fun _ c => if p c = true then .inl () else .inr false) (fun _ => true) l () = l.all p := by
    intro l
    induction l with
    | nil => rfl
    | cons c cs ih =>
      rw [List.all_cons]
      unfold runL
      by_cases hp : p c = true
      · simp only [hp, if_true, Bool.true_and]; exact ih
      · simp only [(by simpa using hp : p c = false), Bool.false_and, Bool.false_eq_true, if_false]
  rw [e] at h
  exact h
theorem runL_all {β : Type} (p : Int → Bool) (r b : β) (l : List Int) : runL (σ := Unit) (fun _ c => if p c = true then .inl () else .inr b) (fun _ => r) l () = if l.all p = true then r else b := by
  induction l with
  | nil => rfl
  | cons c cs ih =>
    rw [List.all_cons]
    unfold runL
    by_cases hp : p c = true
    · simp only [hp, if_true, Bool.true_and]; exact ih
    · simp only [(by simpa using hp : p c = false), Bool.false_and, Bool.false_eq_true, if_false]
/-- A loop that asks each byte, and goes on behind it. -/
theorem ev_allr {β : Type} (s : ByteArray) (p : Int → Bool) (r b : β) (g : Nat → Int → Option β) (K : Nat)
    (h1 : ∀ k (i : Nat), K ≤ k → i < s.size → p (bt s i) = true → g (k + 1) i = g k ((i + 1 : Nat) : Int))
    (h0 : ∀ k (i : Nat), K ≤ k → i < s.size → p (bt s i) = false → g (k + 1) i = some b)
    (he : ∀ k, K ≤ k → g (k + 1) (s.size : Int) = some r) : Ev (fun k => g k 0) (if (bytesOf s).all p = true then r else b) := by
  rw [← runL_all p r b (bytesOf s)]
  refine ev_run (σ := Unit) s (fun _ _ => True) (fun _ c => if p c = true then .inl () else .inr b) (fun _ => r) (fun k _ i => g k i) K
    (fun k st i hk hi _ => ⟨fun st' e => ⟨h1 k i hk hi (by
        by_cases hp : p (bt s i) = true
        · exact hp
        · rw [if_neg hp] at e; cases e), trivial⟩, fun b' e => by
        by_cases hp : p (bt s i) = true
        · rw [if_pos hp] at e; cases e
        · rw [if_neg hp] at e
          obtain rfl : b = b' := by injection e
          exact h0 k i hk hi (by simpa using hp)⟩)
    (fun k st hk _ => he k hk) () trivial
/-- A loop that puts something behind a list for each byte. -/
theorem runL_flat {β : Type} (f : Int → List Int) (fin : List Int → β) (l st : List Int) : runL (fun st c => .inl (st ++ f c)) fin l st = fin (st ++ l.flatMap f) := by
  induction l generalizing st with
  | nil => simp [runL]
  | cons c cs ih =>
    unfold runL
    simp only [ih, List.flatMap_cons, List.append_assoc]
theorem ev_const {α : Type} {x : Option α} {r : α} (h : x = some r) : Ev (fun _ => x) r := ⟨0, fun _ _ => h⟩
theorem ev_eq {α : Type} {g : Nat → Option α} {r r' : α} (h : Ev g r) (e : r = r') : Ev g r' := e ▸ h
/-- From a number of rounds on: a law that holds at each such number. -/
theorem ev_now {α : Type} {g : Nat → Option α} {r : α} (K : Nat) (h : ∀ k, K ≤ k → g k = some r) : Ev g r := ⟨K, h⟩
theorem all_congr' {l : List Int} {p q : Int → Bool} (h : ∀ c ∈ l, p c = q c) : l.all p = l.all q := by
  induction l with
  | nil => rfl
  | cons a l ih =>
    rw [List.all_cons, List.all_cons, h a List.mem_cons_self, ih fun c hc => h c (List.mem_cons_of_mem _ hc)]
theorem strOfNums_size (l : List Int) : (strOfNums l).size = l.length := by
  show (strOfNums l).data.size = _
  rw [← Array.length_toList, strOfNums_data, List.length_map]
end Go.Proofs.Ytpgpjgdcfhodgaa.Q
namespace Go.Proofs.Ytpgpjgdcfhodgaa.Q
set_option linter.unusedVariables false
set_option linter.unusedSimpArgs false
open Go.RowKit Go.Proofs.Ytpgpjgdcfhodgaa.P Go.Proofs.YtpgpjgdcfhodgaaW.PrintWords Go.Proofs.YtpgpjgdcfhodgaaW.PrintLast Go.Proofs.YtpgpjgdcfhodgaaW.PrintMore

theorem bytes_extract (s : ByteArray) (a b : Nat) : bytesOf (s.extract a b) = ((bytesOf s).drop a).take (b - a) := by
  unfold bytesOf
  rw [Lib.extract_data, List.map_take, List.map_drop]
theorem bytes_last (s : ByteArray) (h : 0 < s.size) : bytesOf s = bytesOf (s.extract 0 (s.size - 1)) ++ [bt s ((s.size - 1 : Nat) : Int)] := by
  rw [bytes_extract, List.drop_zero, Nat.sub_zero]
  have h1 := drop_bt s (s.size - 1) (by omega)
  have h2 : (bytesOf s).drop (s.size - 1 + 1) = [] := List.drop_of_length_le (by rw [bytesOf_length]; omega)
  rw [h2] at h1
  rw [← h1, List.take_append_drop]
theorem bytes_first (s : ByteArray) (h : 0 < s.size) : bytesOf s = bt s 0 :: bytesOf (s.extract 1 s.size) := by
  rw [bytes_extract]
  have h1 := drop_bt s 0 h
  rw [List.drop_zero] at h1
  rw [List.take_of_length_le (by rw [List.length_drop, bytesOf_length]; exact Nat.le_refl _)]
  exact h1
theorem size_extract (s : ByteArray) (a b : Nat) (hb : b ≤ s.size) : (s.extract a b).size = b - a := by
  rw [← bytesOf_length, bytes_extract, List.length_take, List.length_drop, bytesOf_length]
  omega
theorem toList_nil (s : ByteArray) : s.toList = [] ↔ s.size = 0 := by
  rw [toList_data, ← data_length]
  exact List.length_eq_zero_iff.symm
theorem bytes_nil (s : ByteArray) (h : s.size = 0) : bytesOf s = [] := List.eq_nil_of_length_eq_zero (by rw [bytesOf_length]; exact h)
theorem bytes_ofList (l : List UInt8) : bytesOf ⟨l.toArray⟩ = l.map fun b => (b.toNat : Int) := by
  unfold bytesOf
  rfl
theorem bytes_two (s : ByteArray) (i : Nat) (h : i + 2 ≤ s.size) : bytesOf (s.extract i (i + 2)) = [bt s (i : Int), bt s ((i + 1 : Nat) : Int)] := by
  rw [bytes_extract, drop_bt s i (by omega), drop_bt s (i + 1) (by omega), show i + 2 - i = 2 from by omega]
  rfl
def visB (c : Int) : Bool := decide (32 ≤ c) && decide (c ≤ 126) || decide (c = 9)
def digB (c : Int) : Bool := decide (48 ≤ c) && decide (c ≤ 57)
def letB (c : Int) : Bool := decide (97 ≤ c) && decide (c ≤ 122) || decide (65 ≤ c) && decide (c ≤ 90)
def hexB (c : Int) : Bool := digB c || decide (97 ≤ c) && decide (c ≤ 102) || decide (65 ≤ c) && decide (c ≤ 70)
def tagB (c : Int) : Bool := decide (33 ≤ c) && decide (c ≤ 126) && decide (c ≠ 34)
def tokB (c : Int) : Bool := letB c || digB c || decide (c ∈ [33, 35, 36, 37, 38, 39, 42, 43, 45, 46, 94, 95, 124, 126, 96])
def plaB (c : Int) : Bool := letB c || digB c || decide (c ∈ [45, 46, 95, 126, 47, 58, 64, 33, 36, 38, 39, 40, 41, 42, 43, 44, 59, 61])

theorem impl_isVisible_is (c : Int) : impl_isVisible.f c = some (visB c) := by
  unfold impl_isVisible.f visB
  by_cases h1 : c ≥ 32 <;> by_cases h2 : c ≤ 126 <;> simp [h1, h2] <;> (try omega) <;> (try (by_cases h3 : c = 9 <;> simp [h3] <;> omega))

/-- A law on bytes, tried at each. -/
theorem byte_cases {p : Int → Prop} (h : ∀ n : Fin 256, p (n.val : Int)) (c : Int) (h0 : 0 ≤ c) (h1 : c ≤ 255) : p c := by
  have := h ⟨c.toNat, by omega⟩
  rwa [show ((⟨c.toNat, by omega⟩ : Fin 256).val : Int) = c from by show (c.toNat : Int) = c; omega] at this
/-- A hexadecimal digit's value, or -1. -/
def hexV (c : Int) : Int := if digB c = true then c - 48 else if 97 ≤ c ∧ c ≤ 102 then c - 87 else if 65 ≤ c ∧ c ≤ 70 then c - 55 else -1
theorem hexV_neg (c : Int) : decide (hexV c < 0) = !hexB c := by
  unfold hexV hexB
  cases h0 : digB c
  · by_cases h1 : 97 ≤ c ∧ c ≤ 102
    · simp [h1]; omega
    · by_cases h2 : 65 ≤ c ∧ c ≤ 70
      · have h1' : (decide (97 ≤ c) && decide (c ≤ 102)) = false := by simp; omega
        simp [h1, h1', h2]; omega
      · have h1' : (decide (97 ≤ c) && decide (c ≤ 102)) = false := by simp; omega
        have h2' : (decide (65 ≤ c) && decide (c ≤ 70)) = false := by simp; omega
        simp [h1, h1', h2, h2']
  · unfold digB at h0
    simp at h0
    simp
    omega
/-- 'all' over a predicate. -/
theorem all_vis (s : ByteArray) (hs : s.size ≤ 9223372036854775807) : impl_all.f s 14 = some ((bytesOf s).all visB) := by
  unfold impl_all.f
  rw [if_pos hs]
  simp only [Nat.reduceEqDiff, if_true, if_false, reduceIte]
  rw [all_congr' fun c hc => (by rw [impl_isVisible_is]; cases visB c <;> rfl : (impl_isVisible.f c == some true) = visB c)]
def visOk (s : ByteArray) : Bool := decide (s.size ≤ 400) && (bytesOf s).all visB
theorem spec_VisibleOk_ev (s : ByteArray) (hs : s.size ≤ 4611686018427387904) : Ev (fun k => spec_VisibleOk.f k s) (visOk s) := by
  unfold spec_VisibleOk.f visOk
  by_cases h : (s.size : Int) > 400
  · simp only [if_pos h]
    exact ev_const (by rw [decide_eq_false (by omega), Bool.false_and])
  · simp only [if_neg h]
    rw [decide_eq_true (by omega), Bool.true_and]
    refine ev_all s visB (fun k i => spec_VisibleOk.l0 k s i) 0 (fun k i _ hi hp => ?_) (fun k i _ hi hp => ?_) (fun k _ => ?_)
    · simp only [spec_VisibleOk.l0]
      rw [if_pos (by omega), if_pos (by omega), wrap_next hi hs]
      unfold visB at hp
      by_cases h1 : bt s i < 32
      · have h9 : bt s i = 9 := by simp at hp; omega
        rw [if_pos h1, if_pos h9]
      · rw [if_neg h1]
        by_cases h2 : bt s i > 126
        · have h9 : bt s i = 9 := by simp at hp; omega
          rw [if_pos h2, if_pos h9]
        · rw [if_neg h2]
    · simp only [spec_VisibleOk.l0]
      rw [if_pos (by omega), if_pos (by omega)]
      unfold visB at hp
      simp at hp
      by_cases h1 : bt s i < 32
      · rw [if_pos h1, if_neg hp.2]
      · rw [if_neg h1, if_pos (by omega), if_neg hp.2]
    · simp only [spec_VisibleOk.l0]
      rw [if_neg (by omega)]
theorem impl_VisibleOk_is (s : ByteArray) (hs : s.size ≤ 4611686018427387904) : impl_VisibleOk.f s = some (visOk s) := by
  unfold impl_VisibleOk.f visOk
  by_cases h : (s.size : Int) ≤ 400
  · rw [if_pos h, all_vis s (by omega), decide_eq_true (by omega), Bool.true_and]; rfl
  · rw [if_neg h, decide_eq_false (by omega), Bool.false_and]
/-- A byte in a quotation. -/
def quoB (c : Int) : List Int := if c = 34 ∨ c = 92 then [92, c] else [c]
def quoI (l : List Int) : List Int := 34 :: (l.flatMap quoB ++ [34])
def quoT (s : ByteArray) : ByteArray := strOfNums (quoI (bytesOf s))
theorem quoB_range (c : Int) (h : 0 ≤ c ∧ c ≤ 255) : ∀ x ∈ quoB c, 0 ≤ x ∧ x ≤ 255 := by
  unfold quoB
  split
  · intro x hx
    simp only [List.mem_cons, List.not_mem_nil, or_false] at hx
    omega
  · intro x hx
    rw [List.mem_singleton.1 hx]
    exact h
theorem quo_bytes (s : ByteArray) : bytesOf (quoT s) = quoI (bytesOf s) := by
  unfold quoT
  refine bytes_nums _ fun c hc => ?_
  unfold quoI at hc
  rcases List.mem_cons.1 hc with rfl | hc
  · decide
  · rcases List.mem_append.1 hc with hc | hc
    · obtain ⟨b, hb, hcb⟩ := List.mem_flatMap.1 hc
      exact quoB_range b (mem_bytes hb) c hcb
    · rw [List.mem_singleton.1 hc]
      decide
theorem quoB_len (c : Int) : (quoB c).length ≤ 2 := by unfold quoB; split <;> simp
theorem spec_l1Quoted_ev (s : ByteArray) (hs : s.size ≤ 1048576) : Ev (fun k => spec_l1Quoted.f k s) (quoT s) := by
  unfold spec_l1Quoted.f
  have h := ev_run (σ := List Int) (β := ByteArray) s (fun st i => st.length ≤ 2 * i + 1) (fun st c => .inl (st ++ quoB c)) (fun st => strOfNums (st ++ [34])) (fun k st i => spec_l1Quoted.l0 k s st i) 0
    (fun k st i _ hi hI => ⟨fun st' e => by
      obtain rfl := Sum.inl.inj e
      have hl := quoB_len (bt s i)
      refine ⟨?_, by rw [List.length_append]; omega⟩
      simp only [spec_l1Quoted.l0]
      rw [if_pos (by omega), if_pos (by omega), wrap_next hi (by omega)]
      unfold quoB
      have z1 : st.length < 140737488355328 := by omega
      have z2 : (st ++ [92]).length < 140737488355328 := by rw [List.length_append, List.length_singleton]; omega
      by_cases c : bt s (i : Int) = 34 ∨ bt s (i : Int) = 92
      · rw [if_pos c]
        have e2 : st ++ [92, bt s (i : Int)] = st ++ [92] ++ [bt s (i : Int)] := by simp
        rw [e2]
        by_cases c34 : bt s (i : Int) = 34
        · rw [if_pos c34, if_pos z1]
          simp only [Option.bind_some]
          rw [if_pos z2]
        · rw [if_neg c34, if_pos (c.resolve_left c34), if_pos z1]
          simp only [Option.bind_some]
          rw [if_pos z2]
      · rw [if_neg c, if_neg (fun x => c (.inl x)), if_neg (fun x => c (.inr x)), if_pos z1], fun b e => by cases e⟩)
    (fun k st _ hI => by simp only [spec_l1Quoted.l0]; rw [if_neg (by omega), if_pos (by omega)]) [34] (by simp)
  rw [runL_flat] at h
  unfold quoT quoI
  rw [List.singleton_append, List.cons_append] at h
  exact h
theorem escL_ints (l : List UInt8) : (escL l).map (fun b => ((b.toNat : Nat) : Int)) = (l.map fun b => ((b.toNat : Nat) : Int)).flatMap quoB := by
  unfold escL
  induction l with
  | nil => rfl
  | cons b l ih =>
    rw [List.flatMap_cons, List.map_append, ih, List.map_cons, List.flatMap_cons]
    congr 1
    unfold quoB escB
    have h34 : ((b.toNat : Nat) : Int) = 34 ↔ b = 34 := ⟨fun h => UInt8.toNat_inj.1 (by show b.toNat = 34; omega), fun h => by rw [h]; rfl⟩
    have h92 : ((b.toNat : Nat) : Int) = 92 ↔ b = 92 := ⟨fun h => UInt8.toNat_inj.1 (by show b.toNat = 92; omega), fun h => by rw [h]; rfl⟩
    by_cases h1 : b = 34
    · subst h1; rfl
    · by_cases h2 : b = 92
      · subst h2; rfl
      · rw [if_neg (by simp [h1, h2]), if_neg (by rw [h34, h92]; simp [h1, h2])]
        rfl
theorem impl_quoted_is (s : ByteArray) (hs : s.size ≤ 1048576) : impl_quoted.f s = some (quoT s) := by
  unfold impl_quoted.f
  rw [if_pos (by omega)]
  congr 1
  apply bytes_inj
  rw [quo_bytes, bytes_append, bytes_append, bytes_ofList (escL s.data.toList), escL_ints]
  rfl
def quotedR (s : ByteArray) : ByteArray := if visOk s = true then quoT s else ⟨#[]⟩
theorem spec_Quoted_ev (s : ByteArray) (hs : s.size ≤ 1048576) : Ev (fun k => spec_Quoted.f k s) (quotedR s) := by
  unfold spec_Quoted.f quotedR
  refine Ev.bind (spec_VisibleOk_ev s (by omega)) ?_
  by_cases v : visOk s = true
  · simp only [if_pos v]
    exact Ev.bind (spec_l1Quoted_ev s hs) (Ev.now _)
  · simp only [if_neg v]
    exact Ev.now _
theorem impl_Quoted_is (s : ByteArray) (hs : s.size ≤ 1048576) : impl_Quoted.f s = some (quotedR s) := by
  unfold impl_Quoted.f quotedR
  rw [impl_VisibleOk_is s (by omega)]
  simp only [Option.bind_some]
  by_cases v : visOk s = true
  · rw [if_pos v, if_pos v, impl_quoted_is s hs]
    rfl
  · rw [if_neg v, if_neg v]
/-- A quotation's bytes without backslashes; the last byte is left. -/
def unqF : List Int → List Int
  | a :: b :: l => if a = 92 then b :: unqF l else a :: unqF (b :: l)
  | _ => []
theorem unqF_quo (l : List Int) (x : Int) : unqF (l.flatMap quoB ++ [x]) = l := by
  induction l with
  | nil => rfl
  | cons c l ih =>
    rw [List.flatMap_cons]
    unfold quoB
    by_cases h : c = 34 ∨ c = 92
    · rw [if_pos h]
      show unqF (92 :: c :: (l.flatMap quoB ++ [x])) = _
      rw [unqF, if_pos rfl, ih]
    · rw [if_neg h]
      obtain ⟨a, r, e⟩ : ∃ a r, l.flatMap quoB ++ [x] = a :: r := by
        cases hq : l.flatMap quoB ++ [x] with
        | nil => exact absurd (congrArg List.length hq) (by rw [List.length_append]; simp)
        | cons a r => exact ⟨a, r, rfl⟩
      show unqF (c :: (l.flatMap quoB ++ [x])) = _
      rw [e, unqF, if_neg (fun h2 => h (.inr h2)), ← e, ih]
theorem unqF_len (n : Nat) : ∀ l : List Int, l.length ≤ n → (unqF l).length ≤ l.length := by
  induction n using Nat.strongRecOn with
  | _ n ih =>
    intro l hl
    match l with
    | [] => exact Nat.le_refl _
    | [a] => exact Nat.zero_le _
    | a :: b :: l =>
      simp only [List.length_cons] at hl
      rw [unqF]
      split
      · have := ih (n - 2) (by omega) l (by omega)
        simp only [List.length_cons]
        omega
      · have := ih (n - 1) (by omega) (b :: l) (by simp only [List.length_cons]; omega)
        simp only [List.length_cons] at this ⊢
        omega
def unqT (s : ByteArray) : ByteArray := strOfNums (unqF ((bytesOf s).drop 1))
def unqR (s t : ByteArray) : ByteArray × Bool := if visOk t = true ∧ quoT t = s then (t, true) else (⟨#[]⟩, false)
theorem unq_loop {g : Nat → ByteArray → List Int → Int → Option (ByteArray × Bool)} (s : ByteArray) (hs : s.size ≤ 1048576)
    (stop : ∀ (x : List Int) (i : Int), ¬ i < wrap64 ((s.size : Int) - 1) → x.length ≤ 1048576 → Ev (fun k => g k s x i) (unqR s (strOfNums x)))
    (esc : ∀ k (x : List Int) (i : Nat), i + 1 < s.size → bt s (i : Int) = 92 → x.length ≤ 1048576 → g (k + 1) s x (i : Int) = g k s (x ++ [bt s ((i + 1 : Nat) : Int)]) ((i + 2 : Nat) : Int))
    (plain : ∀ k (x : List Int) (i : Nat), i + 1 < s.size → ¬ bt s (i : Int) = 92 → x.length ≤ 1048576 → g (k + 1) s x (i : Int) = g k s (x ++ [bt s (i : Int)]) ((i + 1 : Nat) : Int)) :
    ∀ (n i : Nat) (x : List Int), s.size - i ≤ n → x.length + 1 ≤ i → i ≤ s.size + 1 → Ev (fun k => g k s x (i : Int)) (unqR s (strOfNums (x ++ unqF ((bytesOf s).drop i)))) := by
  intro n
  induction n using Nat.strongRecOn with
  | _ n ih =>
    intro i x hn hx hi
    by_cases hlt : i + 1 < s.size
    · have e := drop_bt s i (by omega)
      have e2 := drop_bt s (i + 1) (by omega)
      by_cases h92 : bt s (i : Int) = 92
      · have := ih (n - 2) (by omega) (i + 2) (x ++ [bt s ((i + 1 : Nat) : Int)]) (by omega) (by rw [List.length_append, List.length_singleton]; omega) (by omega)
        rw [e, e2, unqF, if_pos h92]
        rw [List.append_assoc, List.singleton_append] at this
        exact Ev.step (fun k => esc k x i hlt h92 (by omega)) this
      · have := ih (n - 1) (by omega) (i + 1) (x ++ [bt s (i : Int)]) (by omega) (by rw [List.length_append, List.length_singleton]; omega) (by omega)
        rw [e2, List.append_assoc, List.singleton_append] at this
        rw [e, e2, unqF, if_neg h92]
        exact Ev.step (fun k => plain k x i hlt h92 (by omega)) this
    · have hw : wrap64 ((s.size : Int) - 1) = (s.size : Int) - 1 := wrap_in (by omega) (by omega)
      have hnil : unqF ((bytesOf s).drop i) = [] := by
        have hl : ((bytesOf s).drop i).length ≤ 1 := by rw [List.length_drop, bytesOf_length]; omega
        match (bytesOf s).drop i, hl with
        | [], _ => rfl
        | [a], _ => rfl
        | a :: b :: l, h => simp at h
      rw [hnil, List.append_nil]
      exact stop x i (by rw [hw]; omega) (by omega)
theorem spec_Unquoted_ev (s : ByteArray) (hs : s.size ≤ 1048576) : Ev (fun k => spec_Unquoted.f k s) (unqR s (unqT s)) := by
  have hw1 : wrap64 ((s.size : Int) - 1) = (s.size : Int) - 1 := wrap_in (by omega) (by omega)
  unfold spec_Unquoted.f unqT
  have := unq_loop (g := fun k s x i => spec_Unquoted.l0 k s x i) s hs (fun x i hi hx => ?_) (fun k x i hi h hx => ?_) (fun k x i hi h hx => ?_) s.size 1 [] (by omega) (Nat.le_refl _) (by omega)
  · rw [List.nil_append] at this
    exact this
  · refine Ev.step (fun k => by simp only [spec_Unquoted.l0]; rw [if_neg hi]) ?_
    have hz : (strOfNums x).size ≤ 1048576 := by rw [strOfNums_size]; exact hx
    refine Ev.bind (spec_VisibleOk_ev _ (by omega)) ?_
    by_cases v : visOk (strOfNums x) = true
    · simp only [if_pos v]
      refine Ev.bind (spec_l1Quoted_ev _ hz) ?_
      by_cases q : quoT (strOfNums x) = s
      · rw [show unqR s (strOfNums x) = (strOfNums x, true) from if_pos ⟨v, q⟩]
        simp only [q, if_true]
        exact Ev.now _
      · rw [show unqR s (strOfNums x) = (⟨#[]⟩, false) from if_neg (fun h => q h.2)]
        have q2 : ¬ (quoT (strOfNums x)).toList = s.toList := fun h => q (eq_of_toList h)
        simp only [if_neg q2]
        exact Ev.now _
    · simp only [if_neg v]
      rw [show unqR s (strOfNums x) = (⟨#[]⟩, false) from if_neg (fun h => v h.1)]
      exact Ev.now _
  · simp only [spec_Unquoted.l0]
    rw [if_pos (by rw [hw1]; omega), if_pos (by omega), if_pos (by omega), if_pos h, wrap_in (i := (i : Int) + 1) (by omega) (by omega), if_pos (by omega), if_pos (by omega), if_pos (by omega), wrap_in (i := (i : Int) + 1 + 1) (by omega) (by omega)]
    rfl
  · simp only [spec_Unquoted.l0]
    rw [if_pos (by rw [hw1]; omega), if_pos (by omega), if_pos (by omega), if_neg h, if_pos (by omega), wrap_in (i := (i : Int) + 1) (by omega) (by omega)]
    rfl
theorem impl_Unquoted_ev (s : ByteArray) (hs : s.size ≤ 1048576) : Ev (fun k => impl_Unquoted.f k s) (unqR s (unqT s)) := by
  have hw1 : wrap64 ((s.size : Int) - 1) = (s.size : Int) - 1 := wrap_in (by omega) (by omega)
  unfold impl_Unquoted.f unqT
  have := unq_loop (g := fun k s x i => impl_Unquoted.l0 k s x i) s hs (fun x i hi hx => ?_) (fun k x i hi h hx => ?_) (fun k x i hi h hx => ?_) s.size 1 [] (by omega) (Nat.le_refl _) (by omega)
  · rw [List.nil_append] at this
    exact this
  · have hz : (strOfNums x).size ≤ 1048576 := by rw [strOfNums_size]; exact hx
    refine Ev.step (fun k => by simp only [impl_Unquoted.l0]; rw [if_neg hi, impl_VisibleOk_is _ (by omega)]) ?_
    simp only [Option.bind_some]
    by_cases v : visOk (strOfNums x) = true
    · simp only [if_pos v]
      rw [impl_quoted_is _ hz]
      simp only [Option.bind_some]
      by_cases q : quoT (strOfNums x) = s
      · rw [show unqR s (strOfNums x) = (strOfNums x, true) from if_pos ⟨v, q⟩]
        simp only [q, if_true]
        exact Ev.now _
      · rw [show unqR s (strOfNums x) = (⟨#[]⟩, false) from if_neg (fun h => q h.2)]
        have q2 : ¬ (quoT (strOfNums x)).toList = s.toList := fun h => q (eq_of_toList h)
        simp only [if_neg q2]
        exact Ev.now _
    · simp only [if_neg v]
      rw [show unqR s (strOfNums x) = (⟨#[]⟩, false) from if_neg (fun h => v h.1)]
      exact Ev.now _
  · simp only [impl_Unquoted.l0]
    rw [if_pos (by rw [hw1]; omega), if_pos (by omega), if_pos (by omega), if_pos h, wrap_in (i := (i : Int) + 1) (by omega) (by omega), if_pos (by omega), if_pos (by omega), if_pos (by omega), wrap_in (i := (i : Int) + 1 + 1) (by omega) (by omega)]
    rfl
  · simp only [impl_Unquoted.l0]
    rw [if_pos (by rw [hw1]; omega), if_pos (by omega), if_pos (by omega), if_neg h, if_pos (by omega), wrap_in (i := (i : Int) + 1) (by omega) (by omega)]
    rfl
/-- A text is unquoted from its quotation. -/
theorem unq_quo (s : ByteArray) (hv : visOk s = true) : unqR (quoT s) (unqT (quoT s)) = (s, true) := by
  have e : unqT (quoT s) = s := by
    unfold unqT
    rw [quo_bytes]
    unfold quoI
    rw [List.drop_succ_cons, List.drop_zero, unqF_quo, nums_bytes]
  rw [e]
  unfold unqR
  rw [if_pos ⟨hv, rfl⟩]
end Go.Proofs.Ytpgpjgdcfhodgaa.Q
namespace Go.Proofs.Ytpgpjgdcfhodgaa.Pure
set_option linter.unusedVariables false
set_option linter.unusedSimpArgs false
open Go.RowKit Go.Proofs.Ytpgpjgdcfhodgaa.P Go.Proofs.Ytpgpjgdcfhodgaa.Q Go.Proofs.YtpgpjgdcfhodgaaW.PrintWords
theorem FnExactUnquoted : laws_FnExactUnquoted.Pure := by
 intro s hs
 unfold laws_FnExactUnquoted.f
 by_cases hb : (s.size : Int) > 1048576
 ·
  exact ⟨0, by rw [if_pos hb]⟩
 ·
  simp only [if_neg hb]
  refine Ev.rounds (r := true) (Ev.bind (spec_Unquoted_ev s (by omega)) (Ev.bind (impl_Unquoted_ev s (by omega)) ?_))
  simp only [if_true, bne_self_eq_false, Bool.false_eq_true, if_false]
  exact Ev.now _
end Go.Proofs.Ytpgpjgdcfhodgaa.Pure
namespace Go.Proofs.Ytpgpjgdcfhodgaa.fnExactUnquoted
open Go.ChangeShapes Go.WideShapes Go.ChangeAt Go.RowKit
open Go.ChangeMaps (open_string shut_string)
set_option linter.unusedVariables false
theorem own : ownKnob Try.prog.godebug = none := by kernel_rfl
set_option maxRecDepth 100000 in
theorem lifted (os : Os) (started : os.Started) (H : Type) (enc : TypeId × Value → H) :
    ReturnsInHanded {} Try.checked os 4 .any (Rows.fnExactUnquotedSpec.pre6 enc Try.prog Try.f4 Rows.fnExactUnquotedRow.domain false) (Rows.fnExactUnquotedSpec.post enc Try.prog Try.f4 false true false false) := by
  refine returnsInHanded_of_change_sized (C := Try.checked) own started (by kernel_rfl) Try.func4
    (ChangeSpec.witness6 (enc := enc) (C := Try.checked) false ⟨#[], #[.string ByteArray.empty], []⟩ 8 (by kernel_rfl) (by kernel_rfl) (by kernel_rfl) (by kernel_rfl)) ?_
  intro W base args ds gs before hval0 hW hcnd hsz0 _
  have hsz : (DataW.weightsEach Try.prog (Try.f4.params.toList ++ Rows.fnExactUnquotedSpec.plain.varTypes Try.prog) (ds ++ gs)).all (· ≤ reachBytes) = true := hsz0
  have hval : ∀ (j : Nat) t v, Try.f4.params[j]? = some t → args[j]? = some v → Value.okWide Try.prog W .any base t v := hval0
  have hW' := hW
  obtain ⟨p, q, hA0, hV, rfl, hfz, hnd⟩ := hW
  have hA : DataW.TrodAll enc Try.prog W 0 (fun _ => true) true Try.f4.params.toList args.toList ds p := hA0
  rw [Try.params4] at hA hval hsz
  obtain ⟨v0, vs0, d0, ds0, p0, q0, hargs, rfl, rfl, h0, r0⟩ := trodAll_cons hA
  obtain ⟨rfl, rfl, rfl⟩ := trodAll_nil r0
  obtain rfl : args = #[v0] := by cases args; simp_all
  obtain ⟨rfl, rfl⟩ := trodVars_none hV
  obtain ⟨a0, rfl, rfl, rfl, y0⟩ := open_string Try.underlying9 (hval 0 9 v0 rfl rfl) h0
  have w0 : a0.size ≤ 140737488351232 := by
    have z := sized_string hsz (j := 0) (t := 9) rfl rfl
    rw [Array.length_toList] at z
    exact z
  clear hA0 hval0 hsz0 hsz
  refine (P.laws_FnExactUnquoted.walk Pure.FnExactUnquoted a0 W w0).mono fun e W' ⟨he, bel⟩ => ?_
  subst he
  exact ⟨_, rfl, _, _, _, [], _, [], hW', trodAll_mk1 (shut_bool Try.underlying4 _), (trodAll_cons_mk (shut_string Try.underlying9 y0) trodAll_mk0), rfl, bel.frame _, fun h => by cases h⟩
theorem over : Rows.fnExactUnquotedRow.holds Try.pinned (OpenSpec.ofChange Rows.fnExactUnquotedSpec) :=
  OpenClaim.holds_of_wide 4 Try.f4 rfl rfl rfl rfl rfl rfl rfl ⟨rfl, rfl, rfl, rfl, rfl⟩ rfl rfl rfl rfl rfl (by kernel_rfl) Try.func4 (by kernel_rfl)
    (of_decide_eq_true (by kernel_rfl)) (by unfold Func.isWrapper; first | (rw [if_pos (by decide +kernel)]; kernel_rfl) | (rw [if_neg (by decide +kernel)]; exact ⟨rfl, rfl⟩))
    (fun os started H enc _ => lifted os started H enc)
theorem proved : Rows.FnExactUnquotedSaid := over
#print axioms proved
end Go.Proofs.Ytpgpjgdcfhodgaa.fnExactUnquoted
namespace Go.Proofs.Ytpgpjgdcfhodgaa
/-- The row, under a short name, for the claim. -/
theorem fnExactUnquoted_holds : Rows.FnExactUnquotedSaid := fnExactUnquoted.proved
end Go.Proofs.Ytpgpjgdcfhodgaa
