/- Plain lemmas on keys as lists of bytes: what lies between two, that it lies between, and how often one finds room. No program. -/
import GoSem.Op.String
namespace Go.Proofs.YthcadjfkbkegcaaKeyMath
open Go
abbrev L := List UInt8
def hd (a : L) : Nat := match a with | [] => 0 | x :: _ => x.toNat
def hb (b : Option L) : Nat := match b with | none => 256 | some [] => 256 | some (y :: _) => y.toNat
def nx (x y : Nat) (b : Option L) : Option L := if y = x + 1 then none else b.map List.tail
def go : Nat → L → Option L → Option L
  | 0, _, _ => none
  | n + 1, a, b => if hd a + 2 ≤ hb b then some [UInt8.ofNat (hd a + (hb b - hd a) / 2)] else (go n a.tail (nx (hd a) (hb b) b)).map (UInt8.ofNat (hd a) :: ·)
theorem hd_lt (a : L) : hd a < 256 := by cases a with | nil => decide | cons x _ => exact UInt8.toNat_lt x
theorem hb_le (b : Option L) : hb b ≤ 256 := by
  match b with
  | none => decide
  | some [] => decide
  | some (y :: _) => have := UInt8.toNat_lt y; simp only [hb]; omega
theorem ofNat_toNat' (n : Nat) (h : n < 256) : (UInt8.ofNat n).toNat = n := by simp; omega
/-- A key's form, but for its length: not empty, the last byte is not 0. -/
def Ends8 : L → Prop
  | [] => False
  | [x] => x ≠ 0
  | _ :: y :: r => Ends8 (y :: r)
theorem ends_ne {l : L} (h : Ends8 l) : l ≠ [] := by rintro rfl; exact h
theorem ends_cons {x : UInt8} {l : L} (h : Ends8 l) : Ends8 (x :: l) := by
  cases l with
  | nil => exact h.elim
  | cons y r => exact h
theorem ends_tail {x : UInt8} {l : L} (h : Ends8 (x :: l)) (hl : l ≠ []) : Ends8 l := by
  cases l with
  | nil => exact absurd rfl hl
  | cons y r => exact h
theorem ends_last (l : L) (h : l ≠ []) : Ends8 l ↔ l.getLast h ≠ 0 := by
  induction l with
  | nil => exact absurd rfl h
  | cons x r ih =>
    cases r with
    | nil => exact Iff.rfl
    | cons y s => rw [List.getLast_cons (by simp)]; exact ih (by simp)

theorem go_ends (n : Nat) : ∀ (a : L) (b : Option L) (s : L), go n a b = some s → Ends8 s ∧ s.length ≤ n := by
  induction n with
  | zero => intro a b s h; simp [go] at h
  | succ n ih =>
    intro a b s h
    simp only [go] at h
    split at h
    · rename_i h1
      obtain rfl := Option.some.inj h
      refine ⟨?_, by simp⟩
      have := hb_le b
      show UInt8.ofNat _ ≠ 0
      intro h2
      have h3 := congrArg UInt8.toNat h2
      rw [ofNat_toNat' _ (by omega)] at h3
      simp at h3
      omega
    · obtain ⟨t, ht, rfl⟩ := Option.map_eq_some_iff.mp h
      have := ih _ _ _ ht
      exact ⟨ends_cons this.1, by simpa using this.2⟩

theorem less_cons (x y : UInt8) (a b : L) : Op.bytesLess (x :: a) (y :: b) = (decide (x < y) || (x == y && Op.bytesLess a b)) := rfl
theorem ofNat_hd (x : UInt8) (a : L) : UInt8.ofNat (hd (x :: a)) = x := by simp [hd]

theorem go_above (n : Nat) : ∀ (a : L) (b : Option L) (s : L), go n a b = some s → Op.bytesLess a s = true := by
  induction n with
  | zero => intro a b s h; simp [go] at h
  | succ n ih =>
    intro a b s h
    simp only [go] at h
    split at h
    · rename_i h1
      obtain rfl := Option.some.inj h
      have := hb_le b
      cases a with
      | nil => rfl
      | cons x r =>
        rw [less_cons]
        have : x < UInt8.ofNat (hd (x :: r) + (hb b - hd (x :: r)) / 2) := by
          rw [UInt8.lt_iff_toNat_lt, ofNat_toNat' _ (by omega)]
          simp only [hd] at h1 ⊢
          omega
        rw [decide_eq_true this]; rfl
    · obtain ⟨t, ht, rfl⟩ := Option.map_eq_some_iff.mp h
      have := ih _ _ _ ht
      cases a with
      | nil => rfl
      | cons x r => rw [ofNat_hd, less_cons, show Op.bytesLess r t = true from this]; simp

/-- What a bound is that may be used: none, or one above a whose last byte is not 0. -/
def Fit (a : L) : Option L → Prop
  | none => True
  | some l => Ends8 l ∧ Op.bytesLess a l = true
theorem fit_cons {a : L} {y : UInt8} {l : L} (h : Fit a (some (y :: l))) : hd a < y.toNat ∨ (hd a = y.toNat ∧ l ≠ [] ∧ Fit a.tail (some l)) := by
  obtain ⟨he, hl⟩ := h
  cases a with
  | nil =>
    by_cases h0 : y = 0
    · subst h0
      have : l ≠ [] := by rintro rfl; exact he rfl
      refine .inr ⟨rfl, this, ends_tail he this, ?_⟩
      cases l with
      | nil => exact absurd rfl this
      | cons z r => rfl
    · refine .inl ?_
      have : y.toNat ≠ 0 := fun h => h0 (UInt8.toNat_inj.mp (by simpa using h))
      show 0 < y.toNat
      omega
  | cons x r =>
    rw [less_cons] at hl
    simp only [Bool.or_eq_true, decide_eq_true_eq, Bool.and_eq_true, beq_iff_eq] at hl
    rcases hl with h | ⟨rfl, h⟩
    · exact .inl h
    · have : l ≠ [] := by rintro rfl; cases r <;> cases h
      exact .inr ⟨rfl, this, ends_tail he this, h⟩
theorem fit_ne {a : L} {l : L} (h : Fit a (some l)) : l ≠ [] := ends_ne h.1
theorem fit_next {a : L} {b : Option L} (h : Fit a b) (h1 : ¬ hd a + 2 ≤ hb b) : Fit a.tail (nx (hd a) (hb b) b) := by
  unfold nx
  split
  · trivial
  · rename_i h2
    match b, h with
    | none, _ => trivial
    | some [], h => exact h.1.elim
    | some (y :: l), h =>
      rcases fit_cons h with h3 | h3
      · simp only [hb] at h1 h2; omega
      · exact h3.2.2

theorem go_below (n : Nat) : ∀ (a : L) (l : L) (s : L), Fit a (some l) → go n a (some l) = some s → Op.bytesLess s l = true := by
  induction n with
  | zero => intro a b s _ h; simp [go] at h
  | succ n ih =>
    intro a l s hf h
    cases l with
    | nil => exact hf.1.elim
    | cons y l =>
      simp only [go] at h
      have hy := hd_lt a
      have hy2 := UInt8.toNat_lt y
      split at h
      · rename_i h1
        obtain rfl := Option.some.inj h
        simp only [hb] at h1 ⊢
        rw [less_cons]
        have : UInt8.ofNat (hd a + (y.toNat - hd a) / 2) < y := by
          rw [UInt8.lt_iff_toNat_lt, ofNat_toNat' _ (by omega)]
          omega
        rw [decide_eq_true this]; rfl
      · rename_i h1
        obtain ⟨t, ht, rfl⟩ := Option.map_eq_some_iff.mp h
        simp only [hb] at h1 ht
        rw [less_cons]
        rcases fit_cons hf with h3 | ⟨h3, h4, h5⟩
        · have : UInt8.ofNat (hd a) < y := by rw [UInt8.lt_iff_toNat_lt, ofNat_toNat' _ hy]; omega
          rw [decide_eq_true this]; rfl
        · have h6 : UInt8.ofNat (hd a) = y := UInt8.toNat_inj.mp (by rw [ofNat_toNat' _ hy]; exact h3)
          have h7 : nx (hd a) y.toNat (some (y :: l)) = some l := by unfold nx; rw [if_neg (by omega)]; rfl
          rw [h7] at ht
          rw [h6, ih _ _ _ h5 ht]; simp

theorem go_mono (n : Nat) : ∀ (a : L) (b : Option L) (s : L), go n a b = some s → go (n + 1) a b = some s := by
  induction n with
  | zero => intro a b s h; simp [go] at h
  | succ n ih =>
    intro a b s h
    rw [go] at h
    rw [go]
    split at h
    · rename_i h1; rw [if_pos h1]; exact h
    · rename_i h1
      rw [if_neg h1]
      obtain ⟨t, ht, rfl⟩ := Option.map_eq_some_iff.mp h
      rw [ih _ _ _ ht]; rfl

/-! ### How often there is room -/
/-- i bytes are settled, and then there is a gap d. -/
inductive Gap : Nat → L → Option L → Nat → Prop
  | stop {a : L} {b : Option L} {d : Nat} (ha : a.tail = []) (hbt : ∀ l, b = some l → l.tail = [] ) (h : hb b = hd a + d) (h2 : 2 ≤ d) : Gap 0 a b d
  | next {i : Nat} {a : L} {b : Option L} {d : Nat} (h1 : ¬ hd a + 2 ≤ hb b) (h2 : hd a ≤ hb b) (h : Gap i a.tail (nx (hd a) (hb b) b) d) : Gap (i + 1) a b d

theorem Gap.two {i d : Nat} {a : L} {b : Option L} (h : Gap i a b d) : 2 ≤ d := by
  induction h with
  | stop _ _ _ h2 => exact h2
  | next _ _ _ ih => exact ih

theorem gap_wide : Gap 0 [] none 256 := .stop rfl (by intro l h; cases h) rfl (by decide)
theorem tail_one (x : UInt8) : [x].tail = ([] : L) := rfl

/-- What is placed, and what then is. -/
theorem Gap.put {i d : Nat} {a : L} {b : Option L} (h : Gap i a b d) : ∃ s, go (i + 1) a b = some s ∧
    (if 2 ≤ d - d / 2 then Gap i s b (d - d / 2) else Gap (i + 1) s b 256) ∧ (if 2 ≤ d / 2 then Gap i a (some s) (d / 2) else Gap (i + 1) a (some s) 256) := by
  induction h with
  | @stop a b d ha hbt h h2 =>
    have h3 := hd_lt a
    have h4 := hb_le b
    have hs : (UInt8.ofNat (hd a + d / 2)).toNat = hd a + d / 2 := ofNat_toNat' _ (by omega)
    refine ⟨[UInt8.ofNat (hd a + d / 2)], ?_, ?_, ?_⟩
    · rw [go, if_pos (by omega), h, show hd a + d - hd a = d by omega]
    · have e : hd [UInt8.ofNat (hd a + d / 2)] = hd a + d / 2 := hs
      split
      · exact .stop rfl hbt (by rw [e]; omega) (by omega)
      · refine .next (by rw [e]; omega) (by rw [e]; omega) ?_
        rw [e, h]
        have : nx (hd a + d / 2) (hd a + d) b = none := by unfold nx; rw [if_pos (by omega)]
        rw [this]
        exact gap_wide
    · have e : hb (some [UInt8.ofNat (hd a + d / 2)]) = hd a + d / 2 := hs
      split
      · exact .stop ha (by intro l hl; cases hl; rfl) (by rw [e]) (by omega)
      · refine .next (by rw [e]; omega) (by rw [e]; omega) ?_
        rw [e]
        have : nx (hd a) (hd a + d / 2) (some [UInt8.ofNat (hd a + d / 2)]) = none := by unfold nx; rw [if_pos (by omega)]
        rw [this, ha]
        exact gap_wide
  | @next i a b d h1 h2 h ih =>
    obtain ⟨s, hg, ga, gb⟩ := ih
    have h3 := hd_lt a
    have hs : (UInt8.ofNat (hd a)).toNat = hd a := ofNat_toNat' _ h3
    refine ⟨UInt8.ofNat (hd a) :: s, ?_, ?_, ?_⟩
    · rw [go, if_neg h1, hg]; rfl
    · have e : hd (UInt8.ofNat (hd a) :: s) = hd a := hs
      split at ga
      · rename_i h5; rw [if_pos h5]; exact .next (by rw [e]; exact h1) (by rw [e]; exact h2) (by rw [e]; exact ga)
      · rename_i h5; rw [if_neg h5]; exact .next (by rw [e]; exact h1) (by rw [e]; exact h2) (by rw [e]; exact ga)
    · have e : hb (some (UInt8.ofNat (hd a) :: s)) = hd a := hs
      have e2 : nx (hd a) (hd a) (some (UInt8.ofNat (hd a) :: s)) = some s := by unfold nx; rw [if_neg (by omega)]; rfl
      split at gb
      · rename_i h5; rw [if_pos h5]; exact .next (by rw [e]; omega) (by rw [e]; omega) (by rw [e, e2]; exact gb)
      · rename_i h5; rw [if_neg h5]; exact .next (by rw [e]; omega) (by rw [e]; omega) (by rw [e, e2]; exact gb)

/-- Behind c placings the gap is this. -/
def At (c : Nat) (a : L) (b : Option L) : Prop := Gap (c / 8) a b (2 ^ (8 - c % 8))
theorem at_start : At 0 [] none := gap_wide
theorem pow8 (t : Nat) (h : t < 8) : (2 ^ (8 - t) - 2 ^ (8 - t) / 2 = 2 ^ (8 - (t + 1))) ∧ (2 ^ (8 - t) / 2 = 2 ^ (8 - (t + 1))) := by
  match t, h with
  | 0, _ => decide
  | 1, _ => decide
  | 2, _ => decide
  | 3, _ => decide
  | 4, _ => decide
  | 5, _ => decide
  | 6, _ => decide
  | 7, _ => decide
theorem At.put {c : Nat} {a : L} {b : Option L} (h : At c a b) : ∃ s, go (c / 8 + 1) a b = some s ∧ At (c + 1) s b ∧ At (c + 1) a (some s) := by
  obtain ⟨s, hg, ga, gb⟩ := Gap.put h
  have ht : c % 8 < 8 := Nat.mod_lt _ (by decide)
  have hp := pow8 (c % 8) ht
  rw [hp.1] at ga
  rw [hp.2] at gb
  refine ⟨s, hg, ?_, ?_⟩
  · by_cases h7 : c % 8 = 7
    · rw [h7] at ga
      rw [if_neg (by decide)] at ga
      unfold At
      rw [show (c + 1) / 8 = c / 8 + 1 by omega, show (c + 1) % 8 = 0 by omega]
      exact ga
    · have : 2 ≤ 2 ^ (8 - (c % 8 + 1)) := by
        have : 2 ^ 1 ≤ 2 ^ (8 - (c % 8 + 1)) := Nat.pow_le_pow_right (by decide) (by omega)
        simpa using this
      rw [if_pos this] at ga
      unfold At
      rw [show (c + 1) / 8 = c / 8 by omega, show (c + 1) % 8 = c % 8 + 1 by omega]
      exact ga
  · by_cases h7 : c % 8 = 7
    · rw [h7] at gb
      rw [if_neg (by decide)] at gb
      unfold At
      rw [show (c + 1) / 8 = c / 8 + 1 by omega, show (c + 1) % 8 = 0 by omega]
      exact gb
    · have : 2 ≤ 2 ^ (8 - (c % 8 + 1)) := by
        have : 2 ^ 1 ≤ 2 ^ (8 - (c % 8 + 1)) := Nat.pow_le_pow_right (by decide) (by omega)
        simpa using this
      rw [if_pos this] at gb
      unfold At
      rw [show (c + 1) / 8 = c / 8 by omega, show (c + 1) % 8 = c % 8 + 1 by omega]
      exact gb
theorem go_more {n : Nat} {a : L} {b : Option L} {s : L} (h : go n a b = some s) (m : Nat) (hm : n ≤ m) : go m a b = some s := by
  induction m with
  | zero => obtain rfl : n = 0 := by omega
            exact h
  | succ m ih =>
    by_cases e : n = m + 1
    · subst e; exact h
    · exact go_mono _ _ _ _ (ih (by omega))
theorem less_trans : ∀ a b c : L, Op.bytesLess a b = true → Op.bytesLess b c = true → Op.bytesLess a c = true
  | a, [], _, h, _ => by simp [Op.bytesLess] at h
  | _, b :: bs, [], _, h => by simp [Op.bytesLess] at h
  | [], _ :: _, _ :: _, _, _ => rfl
  | x :: a, y :: b, z :: c, h1, h2 => by
    rw [less_cons] at h1 h2 ⊢
    simp only [Bool.or_eq_true, decide_eq_true_eq, Bool.and_eq_true, beq_iff_eq] at h1 h2 ⊢
    rcases h1 with h1 | ⟨rfl, h1⟩
    · rcases h2 with h2 | ⟨rfl, h2⟩
      · exact .inl (UInt8.lt_trans h1 h2)
      · exact .inl h1
    · rcases h2 with h2 | ⟨rfl, h2⟩
      · exact .inl h2
      · exact .inr ⟨rfl, less_trans a b c h1 h2⟩
end Go.Proofs.YthcadjfkbkegcaaKeyMath
