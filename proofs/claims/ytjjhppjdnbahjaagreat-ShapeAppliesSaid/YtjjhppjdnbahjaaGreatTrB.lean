/- A part of the proof: TrP2, TrP3, TrP4, TrP5. -/
import Derived.Test.YtjjhppjdnbahjaaGreatTrA
set_option linter.unusedVariables false
set_option linter.unusedSimpArgs false
namespace Go.Tr
open Go Go.Dv
theorem first_false (ok : Nat → Bool) : ∀ n, (List.range n).all ok = false → ∃ k, k < n ∧ ok k = false ∧ ∀ i, i < k → ok i = true
  | 0, h => by simp at h
  | n + 1, h => by
    rw [List.range_succ, List.all_append, Bool.and_eq_false_iff] at h
    cases hn : (List.range n).all ok with
    | false => obtain ⟨k, h1, h2⟩ := first_false ok n hn; exact ⟨k, by omega, h2⟩
    | true =>
      rw [hn] at h
      have h : ok n = false := by simpa using h
      exact ⟨n, by omega, h, fun i hi => by
        rw [List.all_eq_true] at hn; exact hn i (List.mem_range.2 hi)⟩
theorem u16 {σ ρ : Type} {f : σ → Option (σ ⊕ ρ)} {s0 : σ} (inv : Nat → σ) (n : Nat) (ok : Nat → Bool) (good bad : ρ) (hstep : ∀ i, i < n → ok i = true → f (inv i) = some (.inl (inv (i + 1)))) (hbad : ∀ i, i < n → ok i = false → f (inv i) = some (.inr bad))
    (hend : f (inv n) = some (.inr good)) (h0 : s0 = inv 0 := by rfl) : iter f s0 = some (if (List.range n).all ok = true then good else bad) := by
  subst h0
  cases h : (List.range n).all ok with
  | true =>
    rw [if_pos rfl]
    rw [List.all_eq_true] at h
    exact iter_run inv n (fun i hi => hstep i hi (h i (List.mem_range.2 hi))) hend
  | false =>
    obtain ⟨k, h1, h2, h3⟩ := first_false ok n h
    rw [if_neg (by simp)]
    exact iter_run inv k (fun i hi => hstep i (by omega) (h3 i hi)) (hbad k h1 h2)
theorem all_range {α : Type} [Inhabited α] (l : List α) (p : α → Bool) : (List.range l.length).all (fun i => p (l.getD i default)) = l.all p := by
  rw [Bool.eq_iff_iff, List.all_eq_true, List.all_eq_true]
  constructor
  · intro h x hx
    obtain ⟨i, hi, rfl⟩ := List.mem_iff_getElem.1 hx
    have := h i (List.mem_range.2 hi)
    simpa [List.getD_eq_getElem?_getD, hi] using this
  · intro h i hi
    have hi := List.mem_range.1 hi
    have := h (l[i]) (List.getElem_mem hi)
    simpa [List.getD_eq_getElem?_getD, hi] using this
theorem u09 {α : Type} [Inhabited α] (l : List α) (i : Nat) (h : i < l.length) : getI l (i : Int) = some (l.getD i default) := by
  rw [getI_lt l i h]; simp [List.getD_eq_getElem?_getD, h]

def stOk (s : Sp) : Bool := decide (1 ≤ s.1) && decide (s.1 ≤ 1099511627776) && decide (0 ≤ s.2) && decide (s.2 ≤ 15)
theorem u2d (s : Sp) : u2L s = stOk s := by
  unfold u2L stOk
  by_cases h1 : 1 ≤ s.1 <;> by_cases h2 : s.1 ≤ 1099511627776 <;> by_cases h3 : 0 ≤ s.2 <;> simp [h1, h2, h3] <;> omega
theorem u1U (s : Sp) : u0s s = stOk s := by
  unfold u0s u1e stOk
  by_cases h1 : 1 ≤ s.1 <;> by_cases h2 : s.1 ≤ 1099511627776 <;> by_cases h3 : 0 ≤ s.2 <;> simp [h1, h2, h3]
def plOk (s : Sp) : Bool := stOk s || decide (s = (0, 0)) || decide (s = (0, 1))
theorem u2P (a b : Sp) : ((a.1 == b.1) && (a.2 == b.2)) = decide (a = b) := by
  rw [Bool.eq_iff_iff]; simp [Prod.ext_iff]
theorem u4s (s : Sp) : u2F s = plOk s := by
  unfold u2F plOk
  rw [u2d, u2P, u2P]
  simp only [u0i, u2E]
  cases stOk s <;> by_cases h : s = ((0, 0) : Sp) <;> by_cases h2 : s = ((0, 1) : Sp) <;> simp [h, h2]
theorem ref_Place_eq (s : Sp) : u1q s = plOk s := by
  unfold u1q plOk
  rw [u1U, u2P, u2P]
  simp only [u1P, u1p]
  cases stOk s <;> by_cases h : s = ((0, 0) : Sp) <;> by_cases h2 : s = ((0, 1) : Sp) <;> simp [h, h2]
def vecOk (v : List Int) : Bool := v.all (fun n => decide (0 ≤ n) && decide (n ≤ 1099511627776)) && decide (1 ≤ v.length) && decide (v.length ≤ 16)
theorem u4Z (v : List Int) (h : v.length < 9223372036854775807) : u1I v = some (vecOk v) := by
  unfold u1I
  rw [u16 (inv := fun i => (v, (i : Int))) (n := v.length) (ok := fun i => decide (0 ≤ v.getD i default) && decide (v.getD i default ≤ 1099511627776)) (good := .inl v) (bad := .inr false)]
  · rw [all_range v fun n => decide (0 ≤ n) && decide (n ≤ 1099511627776)]
    unfold vecOk
    cases v.all fun n => decide (0 ≤ n) && decide (n ≤ 1099511627776)
    · simp
    · simp; by_cases h1 : 1 ≤ v.length
      · have : (1 : Int) ≤ (v.length : Int) := by omega
        simp [h1, this]; omega
      · have : ¬ (1 : Int) ≤ (v.length : Int) := by omega
        simp [h1, this]
  · intro i hi hok
    have h1 : (i : Int) < (v.length : Int) := by omega
    simp only [h1, decide_true, cond_true, u09 v i hi, Option.bind_some, u1e]
    generalize v.getD i default = n at hok ⊢
    simp only [Bool.and_eq_true, decide_eq_true_eq] at hok
    simp [hok.1, hok.2, u04 (show i < 9223372036854775807 by omega)]
  · intro i hi hok
    have h1 : (i : Int) < (v.length : Int) := by omega
    simp only [h1, decide_true, cond_true, u09 v i hi, Option.bind_some, u1e]
    generalize v.getD i default = n at hok ⊢
    by_cases h3 : 0 ≤ n <;> by_cases h4 : n ≤ 1099511627776 <;> first | (exfalso; simp [h3, h4] at hok; done) | simp [h3, h4]
  · simp
theorem have_Is_eq (v : List Int) (h : v.length < 9223372036854775807) : have_Is v = some (vecOk v) := by
  unfold have_Is
  rw [u16 (inv := fun i => (v, (i : Int))) (n := v.length) (ok := fun i => decide (0 ≤ v.getD i default) && decide (v.getD i default ≤ 1099511627776)) (good := (decide (1 ≤ v.length) && decide (v.length ≤ 16))) (bad := false)]
  · rw [all_range v fun n => decide (0 ≤ n) && decide (n ≤ 1099511627776)]
    unfold vecOk
    cases v.all fun n => decide (0 ≤ n) && decide (n ≤ 1099511627776) <;> simp
  · intro i hi hok
    have h1 : ¬ ((i : Int) = (v.length : Int)) := by omega
    have h1' : ((i : Int) == (v.length : Int)) = false := by simpa using h1
    simp only [h1', cond_false, u09 v i hi, Option.bind_some]
    generalize v.getD i default = n at hok ⊢
    simp only [Bool.and_eq_true, decide_eq_true_eq] at hok
    simp [hok.1, hok.2, u04 (show i < 9223372036854775807 by omega)]
  · intro i hi hok
    have h1 : ¬ ((i : Int) = (v.length : Int)) := by omega
    have h1' : ((i : Int) == (v.length : Int)) = false := by simpa using h1
    simp only [h1', cond_false, u09 v i hi, Option.bind_some]
    generalize v.getD i default = n at hok ⊢
    by_cases h3 : 0 ≤ n <;> by_cases h4 : n ≤ 1099511627776 <;> first | (exfalso; simp [h3, h4] at hok; done) | simp [h3, h4]
  · simp only [beq_self_eq_true, cond_true]
    congr 2
    by_cases h1 : 1 ≤ v.length
    · have h2 : (1 : Int) ≤ (v.length : Int) := by omega
      simp [h1, h2]; omega
    · have h2 : ¬ (1 : Int) ≤ (v.length : Int) := by omega
      simp [h1, h2]
def keyOk (x : ByteArray) : Bool := decide (1 ≤ x.size) && decide (x.size ≤ 64) && (getB x ((x.size : Int) - 1) != some 0)
end Go.Tr
set_option linter.unusedVariables false
set_option linter.unusedSimpArgs false
namespace Go.Tr
open Go Go.Dv
instance i0 : DecidableEq Stamp := inferInstanceAs (DecidableEq (Int × Int))
instance i1 : DecidableEq (ByteArray × Stamp) := inferInstance
instance i2 : DecidableEq (Stamp × Stamp × ByteArray × Stamp) := inferInstance
instance i3 : DecidableEq (List Int × Int × Stamp × Stamp × ByteArray × Stamp) := inferInstance
instance i4 : DecidableEq Go.Dv.Op := inferInstance
instance i5 : DecidableEq Go.Dv.Entry := inferInstance
instance i6 : DecidableEq Go.Dv.Node := inferInstance
theorem u2Y {α : Type} [Inhabited α] [DecidableEq α] (a b : List α) (h : a.length = b.length) : (List.range a.length).all (fun i => decide (a.getD i default = b.getD i default)) = decide (a = b) := by
  rw [Bool.eq_iff_iff, List.all_eq_true, decide_eq_true_iff]
  constructor
  · intro k
    apply List.ext_getElem h
    intro i h1 h2
    have := k i (List.mem_range.2 h1)
    simpa [List.getD_eq_getElem?_getD, h1, h2] using this
  · rintro rfl i _; simp
theorem toList_data (a : ByteArray) : ByteArray.toList a = a.data.toList := by
  unfold ByteArray.toList
  rw [ByteArray.toList_loop_eq a a.size 0 [] (by omega) (by omega)]; simp
theorem toList_eq (a b : ByteArray) : (ByteArray.toList a == ByteArray.toList b) = decide (a = b) := by
  rw [toList_data, toList_data, Bool.eq_iff_iff, beq_iff_eq, decide_eq_true_iff]
  constructor
  · intro h
    have : a.data = b.data := Array.toList_inj.1 h
    cases a; cases b; simp at this; rw [this]
  · rintro rfl; rfl
theorem len_ne {α β : Type} (a : List α) (b : List β) : (((a.length : Nat) : Int) != ((b.length : Nat) : Int)) = !decide (a.length = b.length) := by
  rw [Bool.eq_iff_iff]; simp only [bne_iff_ne, ne_eq, Bool.not_eq_true', decide_eq_false_iff_not]; omega
theorem EqNumbers_eq (a b : List Int) (ha : a.length < 9223372036854775807) : u0Z (a, b) = some (decide (a = b)) := by
  unfold u0Z
  simp only [len_ne]
  by_cases hl : a.length = b.length
  · simp only [hl, decide_true, Bool.not_true, cond_false]
    rw [u16 (inv := fun i => (a, (b, (i : Int)))) (n := a.length) (ok := fun i => decide (a.getD i default = b.getD i default)) (good := .inl ()) (bad := .inr false), u2Y a b hl]
    · by_cases h : a = b <;> simp [h]
    · intro i hi hok
      have h1 : (i : Int) < (a.length : Int) := by omega
      simp only [h1, decide_true, cond_true, u09 a i hi, u09 b i (by omega), Option.bind_some]
      generalize a.getD i default = n at hok ⊢
      generalize b.getD i default = m at hok ⊢
      have hok : n = m := by simpa using hok
      simp [hok, u04 (show i < 9223372036854775807 by omega)]
    · intro i hi hok
      have h1 : (i : Int) < (a.length : Int) := by omega
      simp only [h1, decide_true, cond_true, u09 a i hi, u09 b i (by omega), Option.bind_some]
      generalize a.getD i default = n at hok ⊢
      generalize b.getD i default = m at hok ⊢
      have hok : (n != m) = true := by simpa using hok
      simp [hok]
    · simp
  · have : a ≠ b := by rintro rfl; exact hl rfl
    simp [hl, this]
theorem Equal_int_eq (a b : List Int) (ha : a.length < 9223372036854775807) : u1H (a, b) = some (decide (a = b)) := by
  unfold u1H
  simp only [len_ne]
  by_cases hl : a.length = b.length
  · simp only [hl, decide_true, Bool.not_true, cond_false]
    rw [← hl, u16 (inv := fun i => (a, (b, ((a.length : Int), (i : Int))))) (n := a.length) (ok := fun i => decide (a.getD i default = b.getD i default)) (good := .inl ()) (bad := .inr false), u2Y a b hl]
    · by_cases h : a = b <;> simp [h]
    · intro i hi hok
      have h1 : (i : Int) < (a.length : Int) := by omega
      simp only [h1, decide_true, cond_true, u09 a i hi, u09 b i (by omega), Option.bind_some]
      generalize a.getD i default = n at hok ⊢
      generalize b.getD i default = m at hok ⊢
      have hok : n = m := by simpa using hok
      simp [hok, u04 (show i < 9223372036854775807 by omega)]
    · intro i hi hok
      have h1 : (i : Int) < (a.length : Int) := by omega
      simp only [h1, decide_true, cond_true, u09 a i hi, u09 b i (by omega), Option.bind_some]
      generalize a.getD i default = n at hok ⊢
      generalize b.getD i default = m at hok ⊢
      have hok : (n != m) = true := by simpa using hok
      simp [hok]
    · simp
  · have : a ≠ b := by rintro rfl; exact hl rfl
    simp [hl, this]
theorem u2l (a b : Go.Dv.Op) : a = b ↔ a.1 = b.1 ∧ a.2.1 = b.2.1 ∧ a.2.2.1 = b.2.2.1 ∧ a.2.2.2.1 = b.2.2.2.1 ∧ a.2.2.2.2.1 = b.2.2.2.2.1 ∧ a.2.2.2.2.2.1 = b.2.2.2.2.2.1 ∧ a.2.2.2.2.2.2.1 = b.2.2.2.2.2.2.1 ∧ a.2.2.2.2.2.2.2.1 = b.2.2.2.2.2.2.2.1 ∧ a.2.2.2.2.2.2.2.2 = b.2.2.2.2.2.2.2.2 := by
  simp only [Prod.ext_iff]
theorem EqOp_eq (a b : Go.Dv.Op) (ha : a.2.2.1.length < 9223372036854775807) : u0I (a, b) = some (decide (a = b)) := by
  unfold u0I
  simp only [u2P, EqNumbers_eq a.2.2.1 b.2.2.1 ha, toList_eq, Option.bind_some]
  by_cases h1 : a.1 = b.1
  · by_cases h2 : a.2.1 = b.2.1
    · by_cases h3 : a.2.2.1 = b.2.2.1
      · by_cases h4 : a.2.2.2.1 = b.2.2.2.1
        · by_cases h5 : a.2.2.2.2.1 = b.2.2.2.2.1
          · by_cases h6 : a.2.2.2.2.2.1 = b.2.2.2.2.2.1
            · by_cases h7 : a.2.2.2.2.2.2.1 = b.2.2.2.2.2.2.1
              · by_cases h8 : a.2.2.2.2.2.2.2.1 = b.2.2.2.2.2.2.2.1
                · simp only [h1, h2, h3, h4, h5, h6, h7, h8, decide_true, cond_true, beq_self_eq_true, Option.bind_some, u2l, true_and]; simp only [Option.some.injEq]; rw [Bool.eq_iff_iff]; simp
                · have h8' : (a.2.2.2.2.2.2.2.1 == b.2.2.2.2.2.2.2.1) = false := by simpa using h8
                  simp [h1, h2, h3, h4, h5, h6, h7, h8', u2l, h8]
              · simp [h1, h2, h3, h4, h5, h6, h7, u2l]
            · simp [h1, h2, h3, h4, h5, h6, u2l]
          · simp [h1, h2, h3, h4, h5, u2l]
        · have h4' : (a.2.2.2.1 == b.2.2.2.1) = false := by simpa using h4
          simp [h1, h2, h3, h4', u2l, h4]
      · simp [h1, h2, h3, u2l]
    · have h2' : (a.2.1 == b.2.1) = false := by simpa using h2
      simp [h1, h2', u2l, h2]
  · simp [h1, u2l]
theorem op_Same_eq (a b : Go.Dv.Op) (ha : a.2.2.1.length < 9223372036854775807) : u6I (a, b) = some (decide (a = b)) := by
  unfold u6I
  simp only [u2P, Equal_int_eq a.2.2.1 b.2.2.1 ha, toList_eq, Option.bind_some]
  by_cases h1 : a.1 = b.1
  · by_cases h2 : a.2.1 = b.2.1
    · by_cases h3 : a.2.2.1 = b.2.2.1
      · by_cases h4 : a.2.2.2.1 = b.2.2.2.1
        · by_cases h5 : a.2.2.2.2.1 = b.2.2.2.2.1
          · by_cases h6 : a.2.2.2.2.2.1 = b.2.2.2.2.2.1
            · by_cases h7 : a.2.2.2.2.2.2.1 = b.2.2.2.2.2.2.1
              · by_cases h8 : a.2.2.2.2.2.2.2.1 = b.2.2.2.2.2.2.2.1
                · simp only [h1, h2, h3, h4, h5, h6, h7, h8, decide_true, cond_true, beq_self_eq_true, Option.bind_some, u2l, true_and]; simp only [Option.some.injEq]; rw [Bool.eq_iff_iff]; simp
                · have h8' : (a.2.2.2.2.2.2.2.1 == b.2.2.2.2.2.2.2.1) = false := by simpa using h8
                  simp [h1, h2, h3, h4, h5, h6, h7, h8', u2l, h8]
              · simp [h1, h2, h3, h4, h5, h6, h7, u2l]
            · simp [h1, h2, h3, h4, h5, h6, u2l]
          · simp [h1, h2, h3, h4, h5, u2l]
        · have h4' : (a.2.2.2.1 == b.2.2.2.1) = false := by simpa using h4
          simp [h1, h2, h3, h4', u2l, h4]
      · simp [h1, h2, h3, u2l]
    · have h2' : (a.2.1 == b.2.1) = false := by simpa using h2
      simp [h1, h2', u2l, h2]
  · simp [h1, u2l]

theorem bytes_beq (a b : ByteArray) : (a == b) = decide (a = b) := by
  rw [Bool.eq_iff_iff, decide_eq_true_iff]
  obtain ⟨x⟩ := a; obtain ⟨y⟩ := b
  show ByteArray.beq ⟨x⟩ ⟨y⟩ = true ↔ _
  simp [ByteArray.beq]
theorem nd_eq (a b : Go.Dv.Node) : ((a.1.1 == b.1.1) && ((a.1.2 == b.1.2) && ((a.2.1.1 == b.2.1.1) && ((a.2.1.2 == b.2.1.2) && (a.2.2 == b.2.2))))) = decide (a = b) := by
  rw [bytes_beq, Bool.eq_iff_iff]; simp [Prod.ext_iff, and_assoc]
theorem eq_loop {α : Type} [Inhabited α] [DecidableEq α] (a b : List α) (ha : a.length < 9223372036854775807) (hl : a.length = b.length) {f : (List α × (List α × Int)) → Option ((List α × (List α × Int)) ⊕ (Unit ⊕ Bool))}
    (hf : ∀ (i : Nat), i < a.length → f (a, (b, (i : Int))) = if a.getD i default = b.getD i default then some (.inl (a, (b, ((i + 1 : Nat) : Int)))) else some (.inr (.inr false))) (he : f (a, (b, (a.length : Int))) = some (.inr (.inl ()))) :
    iter f (a, (b, (0 : Int))) = some (if a = b then .inl () else .inr false) := by
  rw [u16 (inv := fun i => (a, (b, (i : Int)))) (n := a.length) (ok := fun i => decide (a.getD i default = b.getD i default)) (good := .inl ()) (bad := .inr false), u2Y a b hl]
  · simp
  · intro i hi hok
    rw [hf i hi, if_pos (by simpa using hok)]
  · intro i hi hok
    rw [hf i hi, if_neg (by simpa using hok)]
  · exact he
theorem eq_loop4 {α : Type} [Inhabited α] [DecidableEq α] (a b : List α) (ha : a.length < 9223372036854775807) (hl : a.length = b.length) {f : (List α × (List α × (Int × Int))) → Option ((List α × (List α × (Int × Int))) ⊕ (Unit ⊕ Bool))}
    (hf : ∀ (i : Nat), i < a.length → f (a, (b, ((a.length : Int), (i : Int)))) = if a.getD i default = b.getD i default then some (.inl (a, (b, ((a.length : Int), ((i + 1 : Nat) : Int))))) else some (.inr (.inr false))) (he : f (a, (b, ((a.length : Int), (a.length : Int)))) = some (.inr (.inl ()))) :
    iter f (a, (b, ((a.length : Int), (0 : Int)))) = some (if a = b then .inl () else .inr false) := by
  rw [u16 (inv := fun i => (a, (b, ((a.length : Int), (i : Int))))) (n := a.length) (ok := fun i => decide (a.getD i default = b.getD i default)) (good := .inl ()) (bad := .inr false), u2Y a b hl]
  · simp
  · intro i hi hok
    rw [hf i hi, if_pos (by simpa using hok)]
  · intro i hi hok
    rw [hf i hi, if_neg (by simpa using hok)]
  · exact he
theorem EqNodes_eq (a b : List Go.Dv.Node) (ha : a.length < 9223372036854775807) : u1t (a, b) = some (decide (a = b)) := by
  unfold u1t
  simp only [len_ne, nd_eq]
  by_cases hl : a.length = b.length
  · simp only [hl, decide_true, Bool.not_true, cond_false]
    rw [eq_loop a b ha hl]
    · by_cases h : a = b <;> simp [h]
    · intro i hi
      have h1 : (i : Int) < (a.length : Int) := by omega
      simp only [h1, decide_true, cond_true, u09 a i hi, u09 b i (by omega), Option.bind_some, u04 (show i < 9223372036854775807 by omega)]
      by_cases h : a.getD i default = b.getD i default <;> simp [h]
    · simp
  · have : a ≠ b := by rintro rfl; exact hl rfl
    simp [hl, this]
theorem Equal_Node_eq (a b : List Go.Dv.Node) (ha : a.length < 9223372036854775807) : u1m (a, b) = some (decide (a = b)) := by
  unfold u1m
  simp only [len_ne, nd_eq]
  by_cases hl : a.length = b.length
  · simp only [← hl, decide_true, Bool.not_true, cond_false]
    rw [eq_loop4 a b ha hl]
    · by_cases h : a = b <;> simp [h]
    · intro i hi
      have h1 : (i : Int) < (a.length : Int) := by omega
      simp only [h1, decide_true, cond_true, u09 a i hi, u09 b i (by omega), Option.bind_some, u04 (show i < 9223372036854775807 by omega)]
      by_cases h : a.getD i default = b.getD i default <;> simp [h]
    · simp
  · have : a ≠ b := by rintro rfl; exact hl rfl
    simp [hl, this]
theorem u2c (a b : Entry) : a = b ↔ a.1 = b.1 ∧ a.2.1 = b.2.1 ∧ a.2.2.1 = b.2.2.1 ∧ a.2.2.2.1 = b.2.2.2.1 ∧ a.2.2.2.2 = b.2.2.2.2 := by
  simp only [Prod.ext_iff]
theorem EqEntry_eq (a b : Entry) (ha : a.1.2.2.1.length < 9223372036854775807) : u1w (a, b) = some (decide (a = b)) := by
  unfold u1w
  simp only [u2P, EqOp_eq a.1 b.1 ha, toList_eq, Option.bind_some]
  by_cases h1 : a.1 = b.1
  · by_cases h2 : a.2.1 = b.2.1
    · by_cases h3 : a.2.2.1 = b.2.2.1
      · by_cases h4 : a.2.2.2.1 = b.2.2.2.1
        · simp only [h1, h2, h3, h4, decide_true, cond_true, beq_self_eq_true, Option.bind_some, u2c, true_and]; simp only [Option.some.injEq]; rw [Bool.eq_iff_iff]; simp
        · simp [h1, h2, h3, h4, u2c]
      · simp [h1, h2, h3, u2c]
    · have h2' : (a.2.1 == b.2.1) = false := by simpa using h2
      simp [h1, h2', u2c, h2]
  · simp [h1, u2c]
theorem u5Q (a b : Entry) (ha : a.1.2.2.1.length < 9223372036854775807) : u34 (a, b) = some (decide (a = b)) := by
  unfold u34
  simp only [u2P, op_Same_eq a.1 b.1 ha, toList_eq, Option.bind_some]
  by_cases h1 : a.1 = b.1
  · by_cases h2 : a.2.1 = b.2.1
    · by_cases h3 : a.2.2.1 = b.2.2.1
      · by_cases h4 : a.2.2.2.1 = b.2.2.2.1
        · simp only [h1, h2, h3, h4, decide_true, cond_true, beq_self_eq_true, Option.bind_some, u2c, true_and]; simp only [Option.some.injEq]; rw [Bool.eq_iff_iff]; simp
        · simp [h1, h2, h3, h4, u2c]
      · simp [h1, h2, h3, u2c]
    · have h2' : (a.2.1 == b.2.1) = false := by simpa using h2
      simp [h1, h2', u2c, h2]
  · simp [h1, u2c]
def Cnt (l : List Entry) : Prop := l.length < 9223372036854775807 ∧ ∀ e ∈ l, e.1.2.2.1.length < 9223372036854775807
theorem u0j {α : Type} [Inhabited α] {l : List α} {i : Nat} (h : i < l.length) : l.getD i default ∈ l := by
  rw [List.getD_eq_getElem?_getD, List.getElem?_eq_getElem h]; exact List.getElem_mem h
theorem EqMoves_eq (a b : List Entry) (ha : Cnt a) : u1u (a, b) = some (decide (a = b)) := by
  unfold u1u
  simp only [len_ne]
  by_cases hl : a.length = b.length
  · simp only [hl, decide_true, Bool.not_true, cond_false]
    rw [eq_loop a b ha.1 hl]
    · by_cases h : a = b <;> simp [h]
    · intro i hi
      have h1 : (i : Int) < (a.length : Int) := by omega
      simp only [h1, decide_true, cond_true, u09 a i hi, u09 b i (by omega), Option.bind_some, EqEntry_eq _ _ (ha.2 _ (u0j hi)), u04 (show i < 9223372036854775807 by have := ha.1; omega)]
      by_cases h : a.getD i default = b.getD i default <;> simp [h]
    · simp
  · have : a ≠ b := by rintro rfl; exact hl rfl
    simp [hl, this]
theorem EqTree_eq (a b : Tree) (h1 : a.1.length < 9223372036854775807) (h2 : Cnt a.2) : u18 (a, b) = some (decide (a = b)) := by
  unfold u18
  simp only [EqNodes_eq a.1 b.1 h1, EqMoves_eq a.2 b.2 h2, Option.bind_some]
  by_cases h : a.1 = b.1 <;> by_cases k : a.2 = b.2 <;> simp [h, k, Prod.ext_iff]
end Go.Tr
set_option linter.unusedVariables false
set_option linter.unusedSimpArgs false
namespace Go.Tr
open Go Go.Dv
theorem cond_some {α : Type} (b : Bool) (u v : α) : (bif b then some u else some v) = some (bif b then u else v) := by cases b <;> rfl
theorem u65 (x : Int) : ∃ r, u2g x = some r := by
  unfold u2g
  simp only [cond_some, Option.bind_some]
  exact ⟨_, rfl⟩
theorem prop_May_some (x : Int × Int) : ∃ r, u2X x = some r := by
  obtain ⟨r, hr⟩ := u65 x.1
  unfold u2X
  simp only [hr, Option.bind_some, cond_some]
  exact ⟨_, rfl⟩
theorem key_some (x : ByteArray) : ∃ b, u3P x = some b := by
  unfold u3P
  by_cases h1 : (1 : Int) ≤ (x.size : Int)
  · by_cases h2 : (x.size : Int) ≤ 64
    · have hw : IntKind.wrap .i64 ((x.size : Int) - 1) = ((x.size - 1 : Nat) : Int) := by rw [wrap_small] <;> omega
      have hb : ∃ c, getB x ((x.size - 1 : Nat) : Int) = some c := by
        unfold getB
        rw [if_pos (by omega), Int.toNat_natCast, toList_data]
        have : x.size - 1 < x.data.toList.length := by
          have : x.data.toList.length = x.size := by cases x; rfl
          omega
        rw [List.getElem?_eq_getElem this]; exact ⟨_, rfl⟩
      obtain ⟨c, hc⟩ := hb
      simp only [h1, h2, decide_true, cond_true, hw, hc, Option.bind_some]
      exact ⟨_, rfl⟩
    · simp [h1, h2]
  · simp [h1]
noncomputable def keyB (x : ByteArray) : Bool := (u3P x).getD false
theorem key_Is_eq (x : ByteArray) : u3P x = some (keyB x) := by
  obtain ⟨b, hb⟩ := key_some x
  simp [keyB, hb]
theorem ref_Key_eq (x : ByteArray) : u2Z x = some (keyB x) := key_Is_eq x
def depAt (o : Go.Dv.Op) : Int := (getI o.2.2.1 o.1.2).getD 0
noncomputable def mvOk (o : Go.Dv.Op) : Bool :=
  stOk o.1 && vecOk o.2.2.1 && decide (o.1.2 < (o.2.2.1.length : Int)) && stOk o.2.2.2.2.1 && (o.2.1 == IntKind.wrap .i64 (depAt o + 1)) && decide (o.2.1 ≤ 1099511627776) && (o.2.2.2.1 == 1) && plOk o.2.2.2.2.2.1 && keyB o.2.2.2.2.2.2.1 && (o.2.2.2.2.2.2.2.1 == 0) && (o.2.2.2.2.2.2.2.2 == 0)
theorem u5h {o : Go.Dv.Op} (h1 : stOk o.1 = true) (h2 : o.1.2 < (o.2.2.1.length : Int)) : getI o.2.2.1 o.1.2 = some (depAt o) := by
  have h3 : 0 ≤ o.1.2 := by simp only [stOk, Bool.and_eq_true, decide_eq_true_eq] at h1; exact h1.1.2
  unfold depAt
  obtain ⟨n, hn⟩ : ∃ n : Nat, o.1.2 = (n : Int) := ⟨o.1.2.toNat, by omega⟩
  rw [hn, getI_lt _ n (by omega)]; rfl
theorem dep_ok {o : Go.Dv.Op} (h1 : stOk o.1 = true) (h2 : o.1.2 < (o.2.2.1.length : Int)) (h3 : vecOk o.2.2.1 = true) : 0 ≤ depAt o ∧ depAt o ≤ 1099511627776 := by
  have hs := u5h h1 h2
  have h0 : 0 ≤ o.1.2 := by simp only [stOk, Bool.and_eq_true, decide_eq_true_eq] at h1; exact h1.1.2
  obtain ⟨n, hn⟩ : ∃ n : Nat, o.1.2 = (n : Int) := ⟨o.1.2.toNat, by omega⟩
  rw [hn, u0p] at hs
  have hm := List.mem_of_getElem? hs
  simp only [vecOk, Bool.and_eq_true, List.all_eq_true, decide_eq_true_eq] at h3
  exact h3.1.1 _ hm
theorem u5R (o : Go.Dv.Op) (h : o.2.2.1.length < 9223372036854775807) : u3S o = some (mvOk o) := by
  obtain ⟨r, hr⟩ := prop_May_some o.2.2.2.2.2.2.2
  unfold u3S u5W mvOk
  simp only [u2d, have_Is_eq _ h, Option.bind_some]
  cases h1 : stOk o.1 with
  | false => simp
  | true =>
    cases h2 : vecOk o.2.2.1 with
    | false => simp
    | true =>
      by_cases h3 : o.1.2 < (o.2.2.1.length : Int)
      · have h3' : ¬ (o.2.2.1.length : Int) ≤ o.1.2 := by omega
        cases h4 : stOk o.2.2.2.2.1 with
        | false => simp [h3']
        | true =>
          simp only [h3, h3', decide_true, decide_false, Bool.not_true, cond_false, Option.bind_some, u5h h1 h3, Bool.and_self, Bool.true_and]
          cases h5 : o.2.1 == IntKind.wrap .i64 (depAt o + 1) with
          | false => simp
          | true =>
            by_cases h6 : o.2.1 ≤ 1099511627776
            · simp only [h6, decide_true, cond_true, Option.bind_some, Bool.true_and]
              unfold u6H
              simp only [u4s, key_Is_eq, Option.bind_some]
              cases h7 : o.2.2.2.1 == 1 with
              | true =>
                simp only [cond_true, Bool.true_and]
                cases plOk o.2.2.2.2.2.1 <;> cases keyB o.2.2.2.2.2.2.1 <;> cases o.2.2.2.2.2.2.2.1 == 0 <;> cases o.2.2.2.2.2.2.2.2 == 0 <;> rfl
              | false =>
                simp only [cond_false, hr, Option.bind_some, cond_some, Bool.false_and]
                cases o.2.2.2.1 == 2 <;> simp
            · simp [h6]
      · have h3' : (o.2.2.1.length : Int) ≤ o.1.2 := by omega
        simp [h3, h3']
theorem u4B (o : Go.Dv.Op) (h : o.2.2.1.length < 9223372036854775807) : u1r o = some (mvOk o) := by
  unfold u1r mvOk
  cases h7 : o.2.2.2.1 == 1 with
  | false => simp
  | true =>
    unfold u1E
    have hE := EqOp_eq (o.1, o.2.1, o.2.2.1, o.2.2.2.1, o.2.2.2.2.1, o.2.2.2.2.2.1, o.2.2.2.2.2.2.1, (0 : Int), (0 : Int)) o h
    have hE2 : decide (((o.1, o.2.1, o.2.2.1, o.2.2.2.1, o.2.2.2.2.1, o.2.2.2.2.2.1, o.2.2.2.2.2.2.1, (0 : Int), (0 : Int)) : Go.Dv.Op) = o) = ((o.2.2.2.2.2.2.2.1 == 0) && (o.2.2.2.2.2.2.2.2 == 0)) := by
      rw [Bool.eq_iff_iff, decide_eq_true_iff, u2l]
      simp only [true_and, Bool.and_eq_true, beq_iff_eq]
      exact ⟨fun ⟨a, b⟩ => ⟨a.symm, b.symm⟩, fun ⟨a, b⟩ => ⟨a.symm, b.symm⟩⟩
    rw [hE2] at hE
    simp only [h7, cond_true, u1U, u4Z _ h, ref_Place_eq, ref_Key_eq, hE, Option.bind_some]
    cases h1 : stOk o.1 with
    | false => simp
    | true =>
      cases h2 : vecOk o.2.2.1 with
      | false => simp
      | true =>
        by_cases h3 : o.1.2 < (o.2.2.1.length : Int)
        · have h3' : ¬ (o.2.2.1.length : Int) ≤ o.1.2 := by omega
          obtain ⟨d1, d2⟩ := dep_ok h1 h3 h2
          have hw : IntKind.wrap .i64 (depAt o + 1) = depAt o + 1 := by rw [wrap_small] <;> omega
          simp only [h3, h3', decide_true, decide_false, Bool.not_true, cond_false, Option.bind_some, u5h h1 h3, Bool.and_self, Bool.true_and, hw]
          by_cases h5 : o.2.1 = depAt o + 1
          · have e1 : ¬ o.2.1 < 1 := by omega
            have e2 : (o.2.1 == depAt o + 1) = true := by simpa using h5
            have e3 : (o.2.1 != depAt o + 1) = false := by simp [h5]
            by_cases h6 : o.2.1 ≤ 1099511627776
            · have e4 : ¬ 1099511627776 < o.2.1 := by omega
              simp only [e1, e2, e3, e4, h6, decide_true, decide_false, cond_false, Option.bind_some, Bool.and_true, Bool.true_and]
              cases stOk o.2.2.2.2.1 <;> cases o.2.2.2.2.2.2.2.1 == 0 <;> cases o.2.2.2.2.2.2.2.2 == 0 <;> cases plOk o.2.2.2.2.2.1 <;> cases keyB o.2.2.2.2.2.2.1 <;> rfl
            · have e4 : 1099511627776 < o.2.1 := by omega
              simp [e1, e4, h6]
          · have e2 : (o.2.1 == depAt o + 1) = false := by simpa using h5
            have e3 : (o.2.1 != depAt o + 1) = true := by simpa using h5
            simp only [e2, e3, cond_true, Bool.and_false, Bool.false_and]
            by_cases e1 : o.2.1 < 1 <;> by_cases e4 : 1099511627776 < o.2.1 <;> simp [e1, e4]
        · have h3' : (o.2.2.1.length : Int) ≤ o.1.2 := by omega
          simp [h3, h3']
end Go.Tr
set_option linter.unusedVariables false
set_option linter.unusedSimpArgs false
namespace Go.Tr
open Go Go.Dv
theorem u21 (a b : Sp) : scmp a b < 0 ↔ slt a b := by
  unfold scmp
  split
  · simp [*]
  · split
    · rename_i h e; subst e; simp [u2e]
    · simp [*]
theorem u6w (a b : Sp) : scmp a b = 0 ↔ a = b := by
  unfold scmp
  split
  · rename_i h; simp [slt_ne h]
  · split <;> simp [*]
theorem find_1_eq (m : Nd) (id : Sp) : u2D (m, id) = some (scmp m.1 id) := by simp [u2D, u1R]
theorem wrap_u64 {n : Int} (h1 : 0 ≤ n) (h2 : n < 18446744073709551616) : IntKind.wrap .u64 n = n := by simp [IntKind.wrap, IntKind.bits, IntKind.signed]; omega
theorem mid_eq {i j : Nat} (h : i + j < 4611686018427387904) : IntKind.wrap .i64 (Int.fdiv (IntKind.wrap .u64 (IntKind.wrap .i64 ((i : Int) + (j : Int)))) (2 ^ (Min.min (Int.toNat 1) (IntKind.bits .u64)))) = (((i + j) / 2 : Nat) : Int) := by
  have e1 : (2 : Int) ^ (Min.min (Int.toNat 1) (IntKind.bits .u64)) = 2 := by decide
  rw [e1, wrap_small (n := (i : Int) + (j : Int)) (by omega) (by omega), wrap_u64 (by omega) (by omega), Int.fdiv_eq_ediv_of_nonneg _ (by omega), wrap_small] <;> omega
def Sm {α : Type} (l : List α) : Prop := l.length < 1000000
theorem find_loop {l : List Nd} {id : Sp} (hs : Srt l) (hl : Sm l) {f : (List Nd × (Int × (Int × (Int × Sp)))) → Option ((List Nd × (Int × (Int × (Int × Sp)))) ⊕ (List Nd × (Int × (Int × Sp))))}
    (hin : ∀ (i j : Nat) (m : Nd), i < j → j ≤ l.length → l[(i + j) / 2]? = some m → f (l, ((l.length : Int), ((i : Int), ((j : Int), id)))) = if slt m.1 id then some (.inl (l, ((l.length : Int), ((((i + j) / 2 + 1 : Nat) : Int), ((j : Int), id))))) else some (.inl (l, ((l.length : Int), ((i : Int), ((((i + j) / 2 : Nat) : Int), id))))))
    (hout : ∀ i : Nat, f (l, ((l.length : Int), ((i : Int), ((i : Int), id)))) = some (.inr (l, ((l.length : Int), ((i : Int), id))))) :
    ∀ (d i j : Nat), j - i ≤ d → i ≤ posN l id → posN l id ≤ j → j ≤ l.length → iter f (l, ((l.length : Int), ((i : Int), ((j : Int), id)))) = some (l, ((l.length : Int), (((posN l id : Nat) : Int), id)))
  | 0, i, j, h0, h1, h2, h3 => by
    obtain rfl : i = j := by omega
    obtain e : posN l id = i := by omega
    rw [e]; exact u0H (hout i)
  | d + 1, i, j, h0, h1, h2, h3 => by
    by_cases hij : i < j
    · have hm : (i + j) / 2 < l.length := by omega
      have hme := List.getElem?_eq_getElem hm
      have hb := u4e (id := id) hs hme
      have := hin i j _ hij h3 hme
      by_cases hc : slt (l[(i + j) / 2]).1 id
      · rw [if_pos hc] at this
        rw [u1A this]
        have := hb.2 hc
        exact find_loop hs hl hin hout d _ j (by omega) (by omega) h2 h3
      · rw [if_neg hc] at this
        rw [u1A this]
        have : ¬ (i + j) / 2 < posN l id := fun h => hc (hb.1 h)
        exact find_loop hs hl hin hout d i _ (by omega) h1 (by omega) (by omega)
    · obtain rfl : i = j := by omega
      obtain e : posN l id = i := by omega
      rw [e]; exact u0H (hout i)
theorem u3g {l : List Nd} (id : Sp) (hs : Srt l) (hl : Sm l) : u2Q (l, id) = some (((posN l id : Nat) : Int), (look l id).isSome) := by
  unfold u2Q u0g
  have hl' : l.length < 1000000 := hl
  have hp := u5x l id
  rw [show ((l, id).1, (((List.length (l, id).1 : Nat) : Int), ((0 : Int), (((List.length (l, id).1 : Nat) : Int), (l, id).2)))) = (l, ((l.length : Int), (((0 : Nat) : Int), ((l.length : Int), id)))) from rfl,
    find_loop hs hl ?_ ?_ l.length 0 l.length (by omega) (by omega) hp (Nat.le_refl _)]
  · simp only [Option.bind_some]
    rw [look_pos hs]
    by_cases h : posN l id < l.length
    · have h' : ((posN l id : Nat) : Int) < (l.length : Int) := by omega
      simp only [h', decide_true, cond_true, getI_lt l _ h, Option.bind_some, find_1_eq, List.getElem?_eq_getElem h]
      by_cases e : (l[posN l id]).1 = id
      · have : scmp (l[posN l id]).1 id = 0 := (u6w _ _).2 e
        simp [e, this]
        simp [scmp, u2e]
      · have : ¬ scmp (l[posN l id]).1 id = 0 := fun h => e ((u6w _ _).1 h)
        simp [e, this]
    · have h' : ¬ ((posN l id : Nat) : Int) < (l.length : Int) := by omega
      simp only [h', decide_false, cond_false, Option.bind_some, List.getElem?_eq_none (Nat.le_of_not_lt h)]
      rfl
  · intro i j m hij hj hm
    have h1 : (i : Int) < (j : Int) := by omega
    have h2 : ¬ ((1 : Int) < 0) := by omega
    simp only [h1, decide_true, cond_true, h2, decide_false, cond_false]
    rw [mid_eq (by omega), u0p, hm]
    simp only [Option.bind_some, find_1_eq, u21]
    rw [u04 (by omega)]
    by_cases hc : slt m.1 id <;> simp [hc]
  · intro i
    simp

theorem circle_loop {l : List Nd} {id : Sp} {f : (List Nd × (Sp × Sp)) → Option ((List Nd × (Sp × Sp)) ⊕ Bool)}
    (hf : ∀ p, f (l, (id, p)) = if p = id then some (.inr true) else match par l p with | some q => some (.inl (l, (id, q))) | none => some (.inr false)) :
    ∀ (n : Nat) (p : Sp), u0S l n p → iter f (l, (id, p)) = some (ov l id n p)
  | 0, p, h => by
    simp only [u0S] at h
    rw [u0H (r := ov l id 0 p)]
    rw [hf, h]; simp only [ov]
    by_cases e : p = id <;> simp [e]
  | n + 1, p, h => by
    obtain ⟨q, hq, h⟩ := h
    by_cases e : p = id
    · rw [u0H (r := true) (by rw [hf, if_pos e])]; simp [ov, e]
    · rw [u1A (s' := (l, (id, q))) (by rw [hf, if_neg e, hq]), circle_loop hf n q h]; simp [ov, e, hq]
theorem u4j {l : List Nd} {id : Sp} {n : Nd} (hs : Srt l) (h : look l id = some n) : getI l ((posN l id : Nat) : Int) = some n := by
  rw [u0p]; exact u3D hs h
theorem circle_eq {l : List Nd} (id p : Sp) (hs : Srt l) (hl : Sm l) (ha : Acy l) : u1F (l, (id, p)) = some (circ l id p) := by
  unfold u1F
  obtain ⟨n, hn⟩ := ha p
  rw [circle_loop (l := l) (id := id) ?_ n p hn, ← circ_ends hn]; · rfl
  intro q
  simp only [u2P, u3g q hs hl, Option.bind_some]
  by_cases e : q = id
  · simp [e]
  · simp only [e, decide_false, cond_false, if_false]
    cases h : look l q with
    | none => simp [par, h]
    | some m => simp [par, h, u4j hs h]
def doE (l : List Nd) (o : Go.Dv.Op) : Entry := (o, (look l o.2.2.2.2.1).isSome, ((look l o.2.2.2.2.1).map (·.2.1)).getD (0, 0), ((look l o.2.2.2.2.1).map (·.2.2)).getD ⟨#[]⟩, circ l o.2.2.2.2.1 o.2.2.2.2.2.1)
def doL (l : List Nd) (o : Go.Dv.Op) : List Nd := if circ l o.2.2.2.2.1 o.2.2.2.2.2.1 = true then l else putN l (o.2.2.2.2.1, o.2.2.2.2.2.1, o.2.2.2.2.2.2.1)
theorem do_eq {l : List Nd} (o : Go.Dv.Op) (hs : Srt l) (hl : Sm l) (ha : Acy l) (ho : Sm o.2.2.1) : u19 (o, l) = some ((doE l o).1.1, (doE l o).1.2.1, (doE l o).1.2.2.1, (doE l o).1.2.2.2, (doE l o).2, doL l o) := by
  have hl' : l.length < 1000000 := hl
  have ho' : o.2.2.1.length < 1000000 := ho
  have hp := u5x l o.2.2.2.2.1
  unfold u19 op_Own
  simp only [u03 (show o.2.2.1.length ≤ 1000000 by omega) (show 8 ≤ 1000000 by decide), cond_true, Option.bind_some, circle_eq _ _ hs hl ha, u3g _ hs hl]
  cases h : look l o.2.2.2.2.1 with
  | some m =>
    simp only [Option.isSome_some, cond_true, u4j hs h, Option.bind_some, doE, doL, h, Option.map_some, Option.getD_some]
    cases hc : circ l o.2.2.2.2.1 o.2.2.2.2.2.1 with
    | true => simp
    | false =>
      have := put_set (n := (o.2.2.2.2.1, o.2.2.2.2.2.1, o.2.2.2.2.2.2.1)) hs h
      simp [this]
  | none =>
    simp only [Option.isSome_none, cond_false, Option.bind_some, doE, doL, h, Option.map_none, Option.getD_none]
    cases hc : circ l o.2.2.2.2.1 o.2.2.2.2.2.1 with
    | true => simp
    | false =>
      have := put_ins (n := (o.2.2.2.2.1, o.2.2.2.2.2.1, o.2.2.2.2.2.2.1)) hs h
      have e1 : (0 : Int) ≤ ((posN l o.2.2.2.2.1 : Nat) : Int) := by omega
      have e2 : ((posN l o.2.2.2.2.1 : Nat) : Int) ≤ (l.length : Int) := by omega
      simp only [cond_false, e1, e2, decide_true, Bool.and_self, u03 (show l.length + 1 ≤ 1000000 by omega) (show 48 ≤ 1000000 by decide), cond_true, Int.toNat_natCast, this]
      simp
theorem doL_srt {l : List Nd} {o : Go.Dv.Op} (hs : Srt l) : Srt (doL l o) := by unfold doL; split; exact hs; exact put_srt hs
theorem doL_acy {l : List Nd} {o : Go.Dv.Op} (hs : Srt l) (ha : Acy l) : Acy (doL l o) := by
  unfold doL; split
  · exact ha
  · rename_i h; exact acy_put hs ha (by simpa using h)
theorem doL_len {l : List Nd} {o : Go.Dv.Op} : (doL l o).length ≤ l.length + 1 := by unfold doL; split; omega; exact put_len
theorem undo_eq {l : List Nd} (o : Go.Dv.Op) (hs : Srt l) (hl : l.length + 1 < 1000000) : u28 (doE l o, doL l o) = some l := by
  have hsm : Sm (doL l o) := by have := doL_len (l := l) (o := o); unfold Sm; omega
  have hs2 := doL_srt (o := o) hs
  have hp := u5x l o.2.2.2.2.1
  unfold u28
  rw [show (doE l o, doL l o).1.1.2.2.2.2.1 = o.2.2.2.2.1 from rfl]
  simp only [u3g _ hs2 hsm, Option.bind_some]
  simp only [doE]
  cases hc : circ l o.2.2.2.2.1 o.2.2.2.2.2.1 with
  | true => simp [doL, hc]
  | false =>
    simp only [cond_false]
    have hd : doL l o = putN l (o.2.2.2.2.1, o.2.2.2.2.2.1, o.2.2.2.2.2.2.1) := by simp [doL, hc]
    rw [hd] at hs2 hsm ⊢
    have hpp := pos_put (l := l) (n := (o.2.2.2.2.1, o.2.2.2.2.2.1, o.2.2.2.2.2.2.1))
    simp only at hpp
    rw [hpp]
    cases h : look l o.2.2.2.2.1 with
    | some m =>
      obtain ⟨m1, m2⟩ := u5E h
      have hps := put_set (n := (o.2.2.2.2.1, o.2.2.2.2.2.1, o.2.2.2.2.2.2.1)) hs h
      simp only at hps
      have hm := u3D hs h
      have hlt : posN l o.2.2.2.2.1 < l.length := (List.getElem?_eq_some_iff.1 hm).1
      have hmm := (List.getElem?_eq_some_iff.1 hm).2
      simp only [Option.isSome_some, cond_true, hps, u0p, List.getElem?_set_self hlt, Option.bind_some, Int.toNat_natCast, List.set_set, List.length_set, Option.map_some, Option.getD_some]
      congr 1
      rw [← m1, show ((m.1, m.2.1, m.2.2) : Nd) = m from rfl, m1]
      have : l.set (posN l o.2.2.2.2.1) (l[posN l o.2.2.2.2.1]) = l := List.set_getElem_self hlt
      rw [hmm] at this
      exact this
    | none =>
      have hps := put_ins (n := (o.2.2.2.2.1, o.2.2.2.2.2.1, o.2.2.2.2.2.2.1)) hs h
      simp only at hps
      have e1 : IntKind.wrap .i64 (((posN l o.2.2.2.2.1 : Nat) : Int) + 1) = ((posN l o.2.2.2.2.1 + 1 : Nat) : Int) := u04 (by omega)
      have hlen : (l.take (posN l o.2.2.2.2.1) ++ (o.2.2.2.2.1, o.2.2.2.2.2.1, o.2.2.2.2.2.2.1) :: l.drop (posN l o.2.2.2.2.1)).length = l.length + 1 := by
        simp only [List.length_append, List.length_take, List.length_cons, List.length_drop]; omega
      simp only [Option.isSome_none, cond_false, hps, e1, hlen]
      have e2 : (0 : Int) ≤ ((posN l o.2.2.2.2.1 : Nat) : Int) := by omega
      have e3 : ((posN l o.2.2.2.2.1 : Nat) : Int) ≤ ((posN l o.2.2.2.2.1 + 1 : Nat) : Int) := by omega
      have e4 : ((posN l o.2.2.2.2.1 + 1 : Nat) : Int) ≤ ((l.length + 1 : Nat) : Int) := by omega
      simp only [e2, e3, e4, decide_true, Bool.and_self, u03 (show l.length + 1 ≤ 1000000 by omega) (show 48 ≤ 1000000 by decide), cond_true, Option.bind_some, Int.toNat_natCast]
      have htl : (l.take (posN l o.2.2.2.2.1)).length = posN l o.2.2.2.2.1 := by rw [List.length_take]; omega
      congr 1
      rw [List.take_append_of_le_length (by omega), List.take_of_length_le (by omega), List.drop_append, htl, List.drop_eq_nil_of_le (by omega), List.nil_append,
        show posN l o.2.2.2.2.1 + 1 - posN l o.2.2.2.2.1 = 1 by omega, List.drop_one, List.tail_cons, List.take_append_drop]
end Go.Tr
