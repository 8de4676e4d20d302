/- A part of the proof: TrP0, TrM, TrP1, LsBase. -/
import Derived.Test.YtjjhppjdnbahjaaGreatDvI
import Derived.Test.YtjjhppjdnbahjaaGreatNat
set_option linter.unusedVariables false
namespace Go.Dv
open Go (IntKind)
theorem u5H {σ ρ : Type} {f : σ → Option (σ ⊕ ρ)} : ∀ {n m : Nat} {s : σ} {r : ρ}, iterN f n s = some r → n ≤ m → iterN f m s = some r
  | 0, _, _, _, h, _ => by simp [iterN] at h
  | n + 1, 0, _, _, _, h => by omega
  | n + 1, m + 1, s, r, h, hm => by
    simp only [iterN] at h ⊢
    split at h
    · exact u5H h (by omega)
    · exact h
    · cases h
theorem iter_of {σ ρ : Type} {f : σ → Option (σ ⊕ ρ)} {n : Nat} {s : σ} {r : ρ} (h : iterN f n s = some r) : iter f s = some r := by
  have e : ∃ n r, iterN f n s = some r := ⟨n, r, h⟩
  unfold iter
  rw [dif_pos e]
  have h2 := e.choose_spec.choose_spec
  rcases Nat.le_total n e.choose with hn | hn
  · have := u5H h hn; rw [h2] at this; exact this
  · have := u5H h2 hn; rw [h] at this; exact this.symm
theorem u0H {σ ρ : Type} {f : σ → Option (σ ⊕ ρ)} {s : σ} {r : ρ} (h : f s = some (.inr r)) : iter f s = some r := iter_of (n := 1) (by simp [iterN, h])
theorem u1A {σ ρ : Type} {f : σ → Option (σ ⊕ ρ)} {s s' : σ} (h : f s = some (.inl s')) : iter f s = iter f s' := by
  by_cases e : ∃ n r, iterN f n s' = some r
  · obtain ⟨n, r, hr⟩ := e
    rw [iter_of hr, iter_of (n := n + 1) (r := r) (by simp [iterN, h, hr])]
  · have e2 : ¬ ∃ n r, iterN f n s = some r := by
      rintro ⟨n, r, hr⟩
      cases n with
      | zero => simp [iterN] at hr
      | succ n => simp [iterN, h] at hr; exact e ⟨n, r, hr⟩
    unfold iter; rw [dif_neg e, dif_neg e2]
theorem iter_run {σ ρ : Type} {f : σ → Option (σ ⊕ ρ)} {r : ρ} (inv : Nat → σ) (k : Nat) (hs : ∀ i, i < k → f (inv i) = some (.inl (inv (i + 1)))) (hf : f (inv k) = some (.inr r)) : iter f (inv 0) = some r := by
  have : ∀ j, j ≤ k → iter f (inv (k - j)) = some r := by
    intro j
    induction j with
    | zero => intro _; exact u0H hf
    | succ j ih =>
      intro hj
      have h1 := hs (k - (j + 1)) (by omega)
      rw [u1A h1, show k - (j + 1) + 1 = k - j by omega]
      exact ih (by omega)
  have := this k (Nat.le_refl _)
  rwa [Nat.sub_self] at this

theorem u0p {α : Type} (l : List α) (n : Nat) : getI l (n : Int) = l[n]? := by simp [getI]
theorem getI_lt {α : Type} (l : List α) (n : Nat) (h : n < l.length) : getI l (n : Int) = some l[n] := by rw [u0p, List.getElem?_eq_getElem h]
theorem wrap_small {n : Int} (h1 : -9223372036854775808 ≤ n) (h2 : n ≤ 9223372036854775807) : IntKind.wrap .i64 n = n := by rw [IntKind.wrap_i64]; omega
theorem u04 {n : Nat} (h : n < 9223372036854775807) : IntKind.wrap .i64 ((n : Int) + 1) = ((n + 1 : Nat) : Int) := by rw [wrap_small] <;> omega
theorem u03 {n b : Nat} (h : n ≤ 1000000) (hb : b ≤ 1000000) : room n b = true := by
  simp only [room, decide_eq_true_eq]
  calc (2 * n + 192) * b ≤ (2 * 1000000 + 192) * 1000000 := Nat.mul_le_mul (by omega) hb
    _ ≤ 2 ^ 47 := by decide
end Go.Dv
/- Forests: nodes by their stamps, each beneath a place; moves that make no circle. Plain Lean. -/
set_option linter.unusedVariables false
set_option linter.unusedSimpArgs false
namespace Go.Tr
abbrev Sp : Type := Int × Int
abbrev Nd : Type := Sp × Sp × ByteArray
def slt (a b : Sp) : Prop := a.1 < b.1 ∨ (a.1 = b.1 ∧ a.2 < b.2)
instance (a b : Sp) : Decidable (slt a b) := by unfold slt; exact inferInstance
theorem u2e (a : Sp) : ¬ slt a a := by unfold slt; omega
theorem u2s {a b c : Sp} (h : slt a b) (k : slt b c) : slt a c := by unfold slt at *; omega
theorem slt_ne {a b : Sp} (h : slt a b) : a ≠ b := by rintro rfl; exact u2e _ h
theorem u6s {a b : Sp} (h : slt a b) : ¬ slt b a := fun k => u2e _ (u2s h k)
theorem u3X (a b : Sp) : slt a b ∨ a = b ∨ slt b a := by
  unfold slt
  obtain ⟨a1, a2⟩ := a
  obtain ⟨b1, b2⟩ := b
  simp only [Prod.mk.injEq]; omega

def Srt (l : List Nd) : Prop := l.Pairwise fun a b => slt a.1 b.1
def look : List Nd → Sp → Option Nd
  | [], _ => none
  | m :: l, id => if m.1 = id then some m else look l id
def posN : List Nd → Sp → Nat
  | [], _ => 0
  | m :: l, id => if slt m.1 id then posN l id + 1 else 0
def putN : List Nd → Nd → List Nd
  | [], n => [n]
  | m :: l, n => if slt m.1 n.1 then m :: putN l n else if m.1 = n.1 then n :: l else n :: m :: l
theorem u5E {l : List Nd} {id : Sp} {n : Nd} (h : look l id = some n) : n.1 = id ∧ n ∈ l := by
  induction l with
  | nil => simp [look] at h
  | cons m l ih =>
    simp only [look] at h
    split at h
    · cases h; exact ⟨by assumption, List.mem_cons_self ..⟩
    · exact ⟨(ih h).1, List.mem_cons_of_mem _ (ih h).2⟩
theorem look_none {l : List Nd} {id : Sp} (h : look l id = none) : ∀ n ∈ l, n.1 ≠ id := by
  induction l with
  | nil => simp
  | cons m l ih =>
    simp only [look] at h
    split at h
    · cases h
    · intro n hn
      rcases List.mem_cons.1 hn with rfl | hn
      · assumption
      · exact ih h n hn
theorem u5x : ∀ (l : List Nd) (id : Sp), posN l id ≤ l.length
  | [], _ => Nat.le_refl _
  | m :: l, id => by simp only [posN]; split <;> simp [u5x l id]
theorem u4e : ∀ {l : List Nd} {id : Sp} {i : Nat} {n : Nd}, Srt l → l[i]? = some n → (i < posN l id ↔ slt n.1 id)
  | [], _, _, _, _, h => by simp at h
  | m :: l, id, 0, n, hs, h => by
    simp at h; subst h
    simp only [posN]
    split <;> simp_all
  | m :: l, id, i + 1, n, hs, h => by
    have h : l[i]? = some n := by simpa using h
    have hs' := List.pairwise_cons.1 hs
    have hmn : slt m.1 n.1 := hs'.1 n (List.mem_of_getElem? h)
    simp only [posN]
    split
    · rename_i hm
      rw [Nat.add_lt_add_iff_right]; exact u4e hs'.2 h
    · rename_i hm
      exact ⟨fun h => absurd h (Nat.not_lt_zero _), fun k => absurd (u2s hmn k) hm⟩
theorem look_pos {l : List Nd} {id : Sp} (hs : Srt l) : look l id = match l[posN l id]? with
    | some n => if n.1 = id then some n else none
    | none => none := by
  induction l with
  | nil => simp [look]
  | cons m l ih =>
    have hs' := List.pairwise_cons.1 hs
    simp only [look, posN]
    by_cases h : slt m.1 id
    · rw [if_pos h, if_neg (slt_ne h), ih hs'.2]; simp
    · rw [if_neg h]
      by_cases e : m.1 = id
      · simp [e]
      · rw [if_neg e]
        have hg : slt id m.1 := ((u3X m.1 id).resolve_left h).resolve_left e
        simp only [List.getElem?_cons_zero, if_neg e]
        cases hl : look l id with
        | none => rfl
        | some n =>
          obtain ⟨h1, h2⟩ := u5E hl
          have := hs'.1 n h2
          rw [h1] at this
          exact absurd (u2s hg this) (u2e _)
theorem u3D {l : List Nd} {id : Sp} {n : Nd} (hs : Srt l) (h : look l id = some n) : l[posN l id]? = some n := by
  rw [look_pos hs] at h
  split at h
  · rename_i m hm
    split at h
    · cases h; exact hm
    · cases h
  · cases h
theorem put_set {l : List Nd} {n m : Nd} (hs : Srt l) (h : look l n.1 = some m) : putN l n = l.set (posN l n.1) n := by
  induction l with
  | nil => simp [look] at h
  | cons q l ih =>
    have hs' := List.pairwise_cons.1 hs
    simp only [look] at h
    simp only [putN, posN]
    by_cases c : slt q.1 n.1
    · rw [if_pos c, if_pos c, List.set_cons_succ]
      rw [if_neg (slt_ne c)] at h
      rw [ih hs'.2 h]
    · rw [if_neg c, if_neg c]
      by_cases e : q.1 = n.1
      · rw [if_pos e]; rfl
      · rw [if_neg e] at h
        obtain ⟨h1, h2⟩ := u5E h
        have h3 := hs'.1 m h2
        rw [h1] at h3
        exact absurd h3 c
theorem put_ins {l : List Nd} {n : Nd} (hs : Srt l) (h : look l n.1 = none) : putN l n = l.take (posN l n.1) ++ n :: l.drop (posN l n.1) := by
  induction l with
  | nil => rfl
  | cons q l ih =>
    have hs' := List.pairwise_cons.1 hs
    simp only [look] at h
    simp only [putN, posN]
    split at h
    · cases h
    · rename_i e
      by_cases c : slt q.1 n.1
      · rw [if_pos c, if_pos c, ih hs'.2 h]; rfl
      · rw [if_neg c, if_neg c, if_neg e]; rfl
theorem put_mem {l : List Nd} {n m : Nd} (h : m ∈ putN l n) : m = n ∨ m ∈ l := by
  induction l with
  | nil => simp [putN] at h; exact .inl h
  | cons q l ih =>
    simp only [putN] at h
    split at h
    · rcases List.mem_cons.1 h with h | h
      · exact .inr (by simp [h])
      · rcases ih h with h | h
        · exact .inl h
        · exact .inr (by simp [h])
    · split at h
      · rcases List.mem_cons.1 h with h | h
        · exact .inl h
        · exact .inr (by simp [h])
      · rcases List.mem_cons.1 h with h | h
        · exact .inl h
        · exact .inr h
theorem put_srt {l : List Nd} {n : Nd} (hs : Srt l) : Srt (putN l n) := by
  induction l with
  | nil => simp [putN, Srt]
  | cons q l ih =>
    have hs' := List.pairwise_cons.1 hs
    simp only [putN]
    by_cases c : slt q.1 n.1
    · rw [if_pos c]
      refine List.pairwise_cons.2 ⟨fun m hm => ?_, ih hs'.2⟩
      rcases put_mem hm with rfl | hm
      · exact c
      · exact hs'.1 m hm
    · rw [if_neg c]
      by_cases e : q.1 = n.1
      · rw [if_pos e]
        exact List.pairwise_cons.2 ⟨fun m hm => by rw [← e]; exact hs'.1 m hm, hs'.2⟩
      · rw [if_neg e]
        have hg : slt n.1 q.1 := ((u3X q.1 n.1).resolve_left c).resolve_left e
        refine List.pairwise_cons.2 ⟨fun m hm => ?_, hs⟩
        rcases List.mem_cons.1 hm with rfl | hm
        · exact hg
        · exact u2s hg (hs'.1 m hm)
theorem look_put {l : List Nd} {n : Nd} {id : Sp} (hs : Srt l) : look (putN l n) id = if id = n.1 then some n else look l id := by
  induction l with
  | nil => simp only [putN, look]; by_cases e : n.1 = id <;> simp [e]; intro h; exact absurd h.symm e
  | cons q l ih =>
    have hs' := List.pairwise_cons.1 hs
    simp only [putN]
    by_cases c : slt q.1 n.1
    · rw [if_pos c]
      simp only [look, ih hs'.2]
      by_cases e : q.1 = id
      · rw [if_pos e, if_neg (by rw [← e]; exact slt_ne c), if_pos e]
      · rw [if_neg e, if_neg e]
    · rw [if_neg c]
      by_cases e : q.1 = n.1
      · rw [if_pos e]
        simp only [look]
        by_cases e2 : n.1 = id
        · rw [if_pos e2, if_pos e2.symm]
        · rw [if_neg e2, if_neg (Ne.symm e2), if_neg (by rw [e]; exact e2)]
      · rw [if_neg e]
        rw [look]
        by_cases e2 : n.1 = id
        · rw [if_pos e2, if_pos e2.symm]
        · rw [if_neg e2, if_neg (Ne.symm e2)]
theorem pos_put {l : List Nd} {n : Nd} : posN (putN l n) n.1 = posN l n.1 := by
  induction l with
  | nil => simp [putN, posN, u2e]
  | cons q l ih =>
    simp only [putN]
    by_cases c : slt q.1 n.1
    · rw [if_pos c]; simp only [posN, if_pos c, ih]
    · rw [if_neg c]
      by_cases e : q.1 = n.1
      · rw [if_pos e]; simp only [posN, u2e, if_false, if_neg c]
      · rw [if_neg e]; simp only [posN, u2e, if_false, if_neg c]
theorem put_len {l : List Nd} {n : Nd} : (putN l n).length ≤ l.length + 1 := by
  induction l with
  | nil => simp [putN]
  | cons q l ih =>
    simp only [putN]
    split
    · simp; exact ih
    · split <;> simp

def par (l : List Nd) (s : Sp) : Option Sp := (look l s).map (·.2.1)
def u0S (l : List Nd) : Nat → Sp → Prop
  | 0, s => par l s = none
  | n + 1, s => ∃ p, par l s = some p ∧ u0S l n p
def Acy (l : List Nd) : Prop := ∀ s, ∃ n, u0S l n s
def ov (l : List Nd) (id : Sp) : Nat → Sp → Bool
  | 0, s => decide (s = id)
  | n + 1, s => decide (s = id) || match par l s with
    | some p => ov l id n p
    | none => false
theorem ends_unique {l : List Nd} : ∀ {n m : Nat} {s : Sp}, u0S l n s → u0S l m s → n = m
  | 0, 0, _, _, _ => rfl
  | 0, m + 1, s, h, ⟨p, k, _⟩ => by simp only [u0S] at h; rw [h] at k; cases k
  | n + 1, 0, s, ⟨p, k, _⟩, h => by simp only [u0S] at h; rw [h] at k; cases k
  | n + 1, m + 1, s, ⟨p, k, h⟩, ⟨q, k2, h2⟩ => by
    rw [k] at k2; cases k2
    rw [ends_unique h h2]
theorem ov_more {l : List Nd} {id : Sp} : ∀ {n m : Nat} {s : Sp}, u0S l n s → n ≤ m → ov l id m s = ov l id n s
  | 0, 0, _, _, _ => rfl
  | 0, m + 1, s, h, _ => by simp only [u0S] at h; simp [ov, h]
  | n + 1, 0, _, _, h => by omega
  | n + 1, m + 1, s, ⟨p, k, h⟩, hm => by simp only [ov, k]; rw [ov_more h (by omega)]
def path (l : List Nd) : Nat → Sp → List Sp
  | 0, s => []
  | n + 1, s => s :: match par l s with
    | some p => path l n p
    | none => []
theorem path_ends {l : List Nd} : ∀ {n : Nat} {s : Sp}, u0S l n s → (path l n s).length = n ∧ (∀ q ∈ path l n s, ∃ m, m ∈ l ∧ m.1 = q) ∧ (∀ q ∈ path l n s, ∃ k, k ≤ n ∧ u0S l k q) ∧ (path l n s).Nodup
  | 0, s, h => by simp [path]
  | n + 1, s, ⟨p, k, h⟩ => by
    obtain ⟨h1, h2, h3, h4⟩ := path_ends h
    simp only [path, k]
    refine ⟨by simp [h1], ?_, ?_, ?_⟩
    · intro q hq
      rcases List.mem_cons.1 hq with rfl | hq
      · simp only [par, Option.map_eq_some_iff] at k
        obtain ⟨m, hm, _⟩ := k
        exact ⟨m, (u5E hm).2, (u5E hm).1⟩
      · exact h2 q hq
    · intro q hq
      rcases List.mem_cons.1 hq with rfl | hq
      · exact ⟨n + 1, Nat.le_refl _, p, k, h⟩
      · obtain ⟨j, hj, hj2⟩ := h3 q hq
        exact ⟨j, by omega, hj2⟩
    · refine List.nodup_cons.2 ⟨fun hs => ?_, h4⟩
      obtain ⟨j, hj, hj2⟩ := h3 s hs
      have := ends_unique hj2 (show u0S l (n + 1) s from ⟨p, k, h⟩)
      omega
theorem u6K {α : Type} [DecidableEq α] : ∀ {a b : List α}, a.Nodup → (∀ x ∈ a, x ∈ b) → a.length ≤ b.length
  | [], b, _, _ => Nat.zero_le _
  | x :: a, b, hn, hs => by
    obtain ⟨h1, h2⟩ := List.nodup_cons.1 hn
    have hx : x ∈ b := hs x (List.mem_cons_self ..)
    have := u6K (a := a) (b := b.erase x) h2 fun y hy => by
      have hne : y ≠ x := fun e => h1 (e ▸ hy)
      exact (List.mem_erase_of_ne hne).2 (hs y (List.mem_cons_of_mem _ hy))
    rw [List.length_erase_of_mem hx] at this
    have hl : 0 < b.length := List.length_pos_of_mem hx
    simp only [List.length_cons]; omega
theorem ends_le {l : List Nd} {n : Nat} {s : Sp} (h : u0S l n s) : n ≤ l.length := by
  obtain ⟨h1, h2, _, h4⟩ := path_ends h
  rw [← h1, ← List.length_map (f := fun m : Nd => m.1)]
  refine u6K h4 fun q hq => ?_
  obtain ⟨m, hm, rfl⟩ := h2 q hq
  exact List.mem_map_of_mem hm
def circ (l : List Nd) (id at_ : Sp) : Bool := ov l id l.length at_
theorem circ_ends {l : List Nd} {id s : Sp} {n : Nat} (h : u0S l n s) : circ l id s = ov l id n s := ov_more h (ends_le h)
theorem ov_false {l : List Nd} {id : Sp} : ∀ {n : Nat} {s : Sp}, u0S l n s → ov l id n s = false → s ≠ id ∧ ∀ p, par l s = some p → ∃ k, n = k + 1 ∧ u0S l k p ∧ ov l id k p = false
  | 0, s, h, k => by
    simp [ov] at k
    exact ⟨k, fun p hp => by simp only [u0S] at h; rw [h] at hp; cases hp⟩
  | n + 1, s, ⟨p, hp, h⟩, k => by
    simp only [ov, hp, Bool.or_eq_false_iff, decide_eq_false_iff_not] at k
    exact ⟨k.1, fun q hq => by rw [hp] at hq; cases hq; exact ⟨n, rfl, h, k.2⟩⟩
theorem u5z {l : List Nd} {n : Nd} {s : Sp} (hs : Srt l) : par (putN l n) s = if s = n.1 then some n.2.1 else par l s := by
  simp only [par, look_put hs]
  split <;> rfl
theorem ends_put {l : List Nd} {n : Nd} (hs : Srt l) : ∀ {k : Nat} {s : Sp}, u0S l k s → ov l n.1 k s = false → u0S (putN l n) k s
  | 0, s, h, e => by
    have := (ov_false h e).1
    simp only [u0S] at h ⊢
    rw [u5z hs, if_neg this]; exact h
  | k + 1, s, h, e => by
    obtain ⟨h1, h2⟩ := ov_false h e
    obtain ⟨p, hp, h3⟩ := h
    obtain ⟨j, hj, h4, h5⟩ := h2 p hp
    obtain rfl : k = j := by omega
    exact ⟨p, by rw [u5z hs, if_neg h1]; exact hp, ends_put hs h4 h5⟩
theorem acy_put {l : List Nd} {n : Nd} (hs : Srt l) (ha : Acy l) (hc : circ l n.1 n.2.1 = false) : Acy (putN l n) := by
  obtain ⟨m, hm⟩ := ha n.2.1
  rw [circ_ends hm] at hc
  have hp := ends_put hs hm hc
  have key : ∀ (k : Nat) (s : Sp), u0S l k s → ∃ j, u0S (putN l n) j s := by
    intro k
    induction k with
    | zero =>
      intro s h
      by_cases e : s = n.1
      · exact ⟨m + 1, n.2.1, by rw [u5z hs, if_pos e], hp⟩
      · exact ⟨0, by simp only [u0S] at h ⊢; rw [u5z hs, if_neg e]; exact h⟩
    | succ k ih =>
      intro s h
      by_cases e : s = n.1
      · exact ⟨m + 1, n.2.1, by rw [u5z hs, if_pos e], hp⟩
      · obtain ⟨p, h1, h2⟩ := h
        obtain ⟨j, hj⟩ := ih p h2
        exact ⟨j + 1, p, by rw [u5z hs, if_neg e]; exact h1, hj⟩
  intro s
  obtain ⟨k, hk⟩ := ha s
  exact key k s hk
theorem acy_nil : Acy [] := fun s => ⟨0, rfl⟩
end Go.Tr
set_option linter.unusedVariables false
set_option linter.unusedSimpArgs false
namespace Go.Tr
open Go Go.Dv Go.Sort Go.Proofs
def scmp (a b : Sp) : Int := if slt a b then -1 else if a = b then 0 else 1
def cmpI (a b : Int) : Int := if a < b then -1 else if b < a then 1 else 0
theorem u2z (a b : Int) : u0r (a, b) = cmpI a b := by
  simp only [u0r, cmp_isNaN_int, cmpI]
  simp only [bne_self_eq_false, cond_false]
  by_cases h : a < b
  · simp [h]
  · by_cases h2 : b < a <;> simp [h, h2]
theorem cmp_Or_two (a b : Int) : u2n [a, b] = some (if a ≠ 0 then a else b) := by
  unfold u2n
  by_cases h : a = 0
  · rw [u1A (s' := (0, [a, b], 2, 1)) (by simp [getI, h]; rfl)]
    by_cases h2 : b = 0
    · rw [u1A (s' := (0, [a, b], 2, 2)) (by simp [getI, h2]; rfl), u0H (r := .inl 0) (by simp)]
      simp [h, h2]
    · have e : (b != 0) = true := by simp [h2]
      rw [u0H (r := .inr b) (by simp [getI, e])]
      simp [h]
  · have e : (a != 0) = true := by simp [h]
    rw [u0H (r := .inr a) (by simp [getI, e])]
    simp [h]
theorem u1R (a b : Sp) : u1G (a, b) = some (scmp a b) := by
  simp only [u1G, u2z, cmp_Or_two, Option.bind_some]
  obtain ⟨a1, a2⟩ := a
  obtain ⟨b1, b2⟩ := b
  simp only [scmp, slt, cmpI, Prod.mk.injEq, Option.some.injEq]
  split <;> split <;> split <;> (try split) <;> (try split) <;> (try split) <;> first | omega | (simp_all; try omega)
theorem cmpStr_lt : ∀ (a b : List UInt8), (Go.Lib.compareBytes a b < 0 ↔ a < b) ∧ (Go.Lib.compareBytes a b = 0 ↔ a = b) ∧ (0 < Go.Lib.compareBytes a b ↔ b < a)
  | [], [] => by simp [Go.Lib.compareBytes]
  | [], _ :: _ => by simp [Go.Lib.compareBytes]
  | _ :: _, [] => by simp [Go.Lib.compareBytes]
  | x :: a, y :: b => by
    simp only [Go.Lib.compareBytes, List.cons_lt_cons_iff, List.cons.injEq]
    have ih := cmpStr_lt a b
    by_cases h : x < y
    · have h2 : ¬ y < x := UInt8.not_lt.2 (UInt8.le_of_lt h)
      have h3 : x ≠ y := UInt8.ne_of_lt h
      simp [h, h2, h3, h3.symm]
    · by_cases h2 : y < x
      · have h3 : x ≠ y := (UInt8.ne_of_lt h2).symm
        simp [h, h2, h3, h3.symm]
      · have h3 : x = y := UInt8.le_antisymm (UInt8.not_lt.1 h2) (UInt8.not_lt.1 h)
        subst h3
        simp [h, ih]
def klt (a b : Nd) : Prop := a.2.2.data.toList < b.2.2.data.toList ∨ (a.2.2.data.toList = b.2.2.data.toList ∧ slt a.1 b.1)
instance (a b : Nd) : Decidable (klt a b) := by unfold klt; exact inferInstance
theorem cf_lt (a b : Nd) : (u01 a b < 0 ↔ klt a b) ∧ (u0J (a, b)).isSome = true := by
  have hk := cmpStr_lt a.2.2.data.toList b.2.2.data.toList
  simp only [u01, u0J, u1R, Option.bind_some, u1Q, cmp_Or_two, cmpStr, Option.getD_some, Option.isSome_some, and_true, klt]
  by_cases h0 : Go.Lib.compareBytes a.2.2.data.toList b.2.2.data.toList = 0
  · have h1 := hk.2.1.1 h0
    rw [if_neg (by simp [h0])]
    simp only [h1, List.lt_irrefl, false_or, true_and, scmp]
    split
    · simp [*]
    · split
      · rename_i h2 h3; simp [h3, u2e]
      · simp [*]
  · rw [if_pos h0, hk.1]
    constructor
    · exact .inl
    · rintro (h | ⟨h, _⟩)
      · exact h
      · exact absurd (hk.2.1.2 h) h0
theorem klt_trans {a b c : Nd} (h : klt a b) (k : klt b c) : klt a c := by
  unfold klt at *
  rcases h with h | ⟨h, h2⟩ <;> rcases k with k | ⟨k, k2⟩
  · exact .inl (List.lt_trans h k)
  · exact .inl (k ▸ h)
  · exact .inl (h ▸ k)
  · exact .inr ⟨h.trans k, u2s h2 k2⟩
theorem klt_irr (a : Nd) : ¬ klt a a := by
  unfold klt
  rintro (h | ⟨_, h⟩)
  · exact List.lt_irrefl _ h
  · exact u2e _ h
theorem klt_tri (a b : Nd) : klt a b ∨ klt b a ∨ (a.1 = b.1 ∧ a.2.2 = b.2.2) := by
  unfold klt
  have hk := cmpStr_lt a.2.2.data.toList b.2.2.data.toList
  rcases Int.lt_trichotomy (Go.Lib.compareBytes a.2.2.data.toList b.2.2.data.toList) 0 with h | h | h
  · exact .inl (.inl (hk.1.1 h))
  · have h1 := hk.2.1.1 h
    rcases u3X a.1 b.1 with h2 | h2 | h2
    · exact .inl (.inr ⟨h1, h2⟩)
    · refine .inr (.inr ⟨h2, ?_⟩)
      have : a.2.2.data = b.2.2.data := Array.toList_inj.1 h1
      cases ha : a.2.2; cases hb : b.2.2; simp [ha, hb] at this; rw [this]
    · exact .inr (.inl (.inr ⟨h1.symm, h2⟩))
  · exact .inr (.inl (.inl (hk.2.2.1 h)))
theorem ltOf_cf (a b : Nd) : ltOf u01 a b = decide (klt a b) := by
  unfold ltOf
  rw [decide_eq_decide]; exact (cf_lt a b).1
theorem swo_cf : SWO (ltOf u01) where
  irrefl x := by rw [ltOf_cf]; simpa using klt_irr x
  trans x y z h k := by rw [ltOf_cf] at *; simp at *; exact klt_trans h k
  ntrans x y z h k := by
    rw [ltOf_cf] at *; simp at *
    intro hxz
    rcases klt_tri x y with h1 | h1 | h1
    · exact h h1
    · exact k (klt_trans h1 hxz)
    · -- x and y are alike
      apply k
      unfold klt at hxz ⊢
      rw [← h1.1, ← h1.2]; exact hxz
end Go.Tr
namespace Go.Dv
open Go.Sort Go.Proofs
theorem u1k : SWO (ltOf u01) := Go.Tr.swo_cf
theorem u3f (x y : El sNode) : (u0J (x, y)).isSome = true := (Go.Tr.cf_lt x y).2
end Go.Dv
