/- Lists in the order of a key: finding, putting, and that two puts may change places. Plain Lean. -/
import Derived.Test.YtjjhppjdnbahjaaGreatTrA
import Derived.Test.YtjjhppjdnbahjaaGreatTrC
set_option linter.unusedVariables false
set_option linter.unusedSimpArgs false
namespace Go.Tr
structure Lin {κ : Type} (lt : κ → κ → Prop) : Prop where
  irr : ∀ a, ¬ lt a a
  trans : ∀ {a b c}, lt a b → lt b c → lt a c
  tri : ∀ a b, lt a b ∨ a = b ∨ lt b a
theorem u3E : Lin slt := ⟨u2e, u2s, u3X⟩
theorem lin_int : Lin (fun a b : Int => a < b) := ⟨fun a => by omega, fun h k => by omega, fun a b => by omega⟩
section
variable {α κ : Type} (ky : α → κ) (lt : κ → κ → Prop)
def GS (l : List α) : Prop := l.Pairwise fun a b => lt (ky a) (ky b)
def glook [DecidableEq κ] : List α → κ → Option α
  | [], _ => none
  | m :: l, k => if ky m = k then some m else glook l k
def gpos [DecidableRel lt] : List α → κ → Nat
  | [], _ => 0
  | m :: l, k => if lt (ky m) k then gpos l k + 1 else 0
def gput [DecidableEq κ] [DecidableRel lt] : List α → α → List α
  | [], n => [n]
  | m :: l, n => if lt (ky m) (ky n) then m :: gput l n else if ky m = ky n then n :: l else n :: m :: l
variable {ky lt}
theorem u2y [DecidableEq κ] {l : List α} {k : κ} {n : α} (h : glook ky l k = some n) : ky n = k ∧ n ∈ l := by
  induction l with
  | nil => simp [glook] at h
  | cons m l ih =>
    simp only [glook] at h
    split at h
    · cases h; exact ⟨by assumption, List.mem_cons_self ..⟩
    · exact ⟨(ih h).1, List.mem_cons_of_mem _ (ih h).2⟩
theorem glook_none [DecidableEq κ] {l : List α} {k : κ} (h : glook ky l k = none) : ∀ n ∈ l, ky n ≠ k := by
  induction l with
  | nil => simp
  | cons m l ih =>
    simp only [glook] at h
    split at h
    · cases h
    · intro n hn
      rcases List.mem_cons.1 hn with rfl | hn
      · assumption
      · exact ih h n hn
theorem u5L [DecidableRel lt] : ∀ (l : List α) (k : κ), gpos ky lt l k ≤ l.length
  | [], _ => Nat.le_refl _
  | m :: l, k => by simp only [gpos]; split <;> simp [u5L l k]
theorem u3w [DecidableRel lt] (L : Lin lt) : ∀ {l : List α} {k : κ} {i : Nat} {n : α}, GS ky lt l → l[i]? = some n → (i < gpos ky lt l k ↔ lt (ky n) k)
  | [], _, _, _, _, h => by simp at h
  | m :: l, k, 0, n, hs, h => by
    simp at h; subst h
    simp only [gpos]
    split <;> simp_all
  | m :: l, k, i + 1, n, hs, h => by
    have h : l[i]? = some n := by simpa using h
    have hs' := List.pairwise_cons.1 hs
    have hmn : lt (ky m) (ky n) := hs'.1 n (List.mem_of_getElem? h)
    simp only [gpos]
    split
    · rename_i hm
      rw [Nat.add_lt_add_iff_right]; exact u3w L hs'.2 h
    · rename_i hm
      exact ⟨fun h => absurd h (Nat.not_lt_zero _), fun j => absurd (L.trans hmn j) hm⟩
theorem lt_ne (L : Lin lt) {a b : κ} (h : lt a b) : a ≠ b := by rintro rfl; exact L.irr _ h
theorem glook_pos [DecidableEq κ] [DecidableRel lt] (L : Lin lt) {l : List α} {k : κ} (hs : GS ky lt l) : glook ky l k = match l[gpos ky lt l k]? with
    | some n => if ky n = k then some n else none
    | none => none := by
  induction l with
  | nil => simp [glook]
  | cons m l ih =>
    have hs' := List.pairwise_cons.1 hs
    simp only [glook, gpos]
    by_cases h : lt (ky m) k
    · rw [if_pos h, if_neg (lt_ne L h), ih hs'.2]; simp
    · rw [if_neg h]
      by_cases e : ky m = k
      · simp [e]
      · rw [if_neg e]
        have hg : lt k (ky m) := ((L.tri (ky m) k).resolve_left h).resolve_left e
        simp only [List.getElem?_cons_zero, if_neg e]
        cases hl : glook ky l k with
        | none => rfl
        | some n =>
          obtain ⟨h1, h2⟩ := u2y hl
          have := hs'.1 n h2
          rw [h1] at this
          exact absurd (L.trans hg this) (L.irr _)
theorem u2O [DecidableEq κ] [DecidableRel lt] (L : Lin lt) {l : List α} {k : κ} {n : α} (hs : GS ky lt l) (h : glook ky l k = some n) : l[gpos ky lt l k]? = some n := by
  rw [glook_pos L hs] at h
  split at h
  · rename_i m hm
    split at h
    · cases h; exact hm
    · cases h
  · cases h
theorem u6h [DecidableEq κ] [DecidableRel lt] (L : Lin lt) {l : List α} {n m : α} (hs : GS ky lt l) (h : glook ky l (ky n) = some m) : gput ky lt l n = l.set (gpos ky lt l (ky n)) n := by
  induction l with
  | nil => simp [glook] at h
  | cons q l ih =>
    have hs' := List.pairwise_cons.1 hs
    simp only [glook] at h
    simp only [gput, gpos]
    by_cases c : lt (ky q) (ky n)
    · rw [if_pos c, if_pos c, List.set_cons_succ]
      rw [if_neg (lt_ne L c)] at h
      rw [ih hs'.2 h]
    · rw [if_neg c, if_neg c]
      by_cases e : ky q = ky n
      · rw [if_pos e]; rfl
      · rw [if_neg e] at h
        obtain ⟨h1, h2⟩ := u2y h
        have h3 := hs'.1 m h2
        rw [h1] at h3
        exact absurd h3 c
theorem u59 [DecidableEq κ] [DecidableRel lt] {l : List α} {n : α} (h : glook ky l (ky n) = none) : gput ky lt l n = l.take (gpos ky lt l (ky n)) ++ n :: l.drop (gpos ky lt l (ky n)) := by
  induction l with
  | nil => rfl
  | cons q l ih =>
    simp only [glook] at h
    simp only [gput, gpos]
    split at h
    · cases h
    · rename_i e
      by_cases c : lt (ky q) (ky n)
      · rw [if_pos c, if_pos c, ih h]; rfl
      · rw [if_neg c, if_neg c, if_neg e]; rfl
theorem u6i [DecidableEq κ] [DecidableRel lt] {l : List α} {n m : α} (h : m ∈ gput ky lt l n) : m = n ∨ m ∈ l := by
  induction l with
  | nil => simp [gput] at h; exact .inl h
  | cons q l ih =>
    simp only [gput] at h
    split at h
    · rcases List.mem_cons.1 h with h | h
      · exact .inr (by simp [h])
      · rcases ih h with h | h
        · exact .inl h
        · exact .inr (by simp [h])
    · split at h
      · rcases List.mem_cons.1 h with h | h
        · exact .inl h
        · exact .inr (by simp [h])
      · rcases List.mem_cons.1 h with h | h
        · exact .inl h
        · exact .inr h
theorem gput_srt [DecidableEq κ] [DecidableRel lt] (L : Lin lt) {l : List α} {n : α} (hs : GS ky lt l) : GS ky lt (gput ky lt l n) := by
  induction l with
  | nil => simp [gput, GS]
  | cons q l ih =>
    have hs' := List.pairwise_cons.1 hs
    simp only [gput]
    by_cases c : lt (ky q) (ky n)
    · rw [if_pos c]
      refine List.pairwise_cons.2 ⟨fun m hm => ?_, ih hs'.2⟩
      rcases u6i hm with rfl | hm
      · exact c
      · exact hs'.1 m hm
    · rw [if_neg c]
      by_cases e : ky q = ky n
      · rw [if_pos e]
        exact List.pairwise_cons.2 ⟨fun m hm => by rw [← e]; exact hs'.1 m hm, hs'.2⟩
      · rw [if_neg e]
        have hg : lt (ky n) (ky q) := ((L.tri (ky q) (ky n)).resolve_left c).resolve_left e
        refine List.pairwise_cons.2 ⟨fun m hm => ?_, hs⟩
        rcases List.mem_cons.1 hm with rfl | hm
        · exact hg
        · exact L.trans hg (hs'.1 m hm)
theorem gput_len [DecidableEq κ] [DecidableRel lt] {l : List α} {n : α} : (gput ky lt l n).length ≤ l.length + 1 := by
  induction l with
  | nil => simp [gput]
  | cons q l ih =>
    simp only [gput]
    split
    · simp; exact ih
    · split <;> simp
end

abbrev Rg : Type := Int × Int × Sp
abbrev Lk : Type := Sp × List Rg
def rk (r : Rg) : Int := r.1
def lk (l : Lk) : Sp := l.1
abbrev ilt (a b : Int) : Prop := a < b
theorem u3F : Lin ilt := lin_int
def putR (l : List Rg) (x : Rg) : List Rg := match glook rk l (rk x) with
  | none => gput rk ilt l x
  | some q => if slt q.2.2 x.2.2 then gput rk ilt l x else l
theorem putR_srt {l : List Rg} {x : Rg} (h : GS rk ilt l) : GS rk ilt (putR l x) := by
  unfold putR; split
  · exact gput_srt u3F h
  · split
    · exact gput_srt u3F h
    · exact h
theorem putR_mem {l : List Rg} {x q : Rg} (h : q ∈ putR l x) : q = x ∨ q ∈ l := by
  unfold putR at h; split at h
  · exact u6i h
  · split at h
    · exact u6i h
    · exact .inr h
def mx (q : Option Rg) (x : Rg) : Rg := match q with
  | none => x
  | some q => if slt q.2.2 x.2.2 then x else q
def u2B (l : List Lk) (id : Sp) : List Rg := match glook lk l id with
  | none => []
  | some q => q.2
def putLk (l : List Lk) (id : Sp) (x : Rg) : List Lk := gput lk slt l (id, putR (u2B l id) x)
theorem putLk_srt {l : List Lk} {id : Sp} {x : Rg} (h : GS lk slt l) : GS lk slt (putLk l id x) := gput_srt u3E h
end Go.Tr
set_option linter.unusedVariables false
set_option linter.unusedSimpArgs false
namespace Go.Tr
open Go Go.Dv
def prLo (p : Int) : Int := if p = 3 ∨ p = 4 ∨ p = 6 ∨ p = 8 ∨ p = 11 then -1 else if p = 18 then 64 else 0
def prHi (p : Int) : Int := if p = 0 then 2 else if p = 1 ∨ p = 2 then 1 else if p = 3 ∨ p = 4 ∨ p = 6 ∨ p = 8 ∨ p = 11 ∨ p = 5 ∨ p = 7 then 1099511627776 else if p = 9 ∨ p = 10 then 1048576 else if p = 15 then 4 else if p = 16 then 3 else if p = 17 then 16777215 else if p = 18 then 64000 else 1073741824
def prDef (p : Int) : Int := if p = 3 ∨ p = 4 ∨ p = 6 ∨ p = 8 ∨ p = 11 then -1 else if p = 10 then 1 else if p = 18 then 1024 else 0
def prGo (p : Int) : Bool := decide (p = 17) || decide (p = 18)
def prIs (p : Int) : Bool := decide (0 ≤ p) && decide (p < 19)
def prOk (p v : Int) : Bool := prIs p && decide (prLo p ≤ v) && decide (v ≤ prHi p)
theorem pr_cases {p : Int} (h : prIs p = true) : p = 0 ∨ p = 1 ∨ p = 2 ∨ p = 3 ∨ p = 4 ∨ p = 5 ∨ p = 6 ∨ p = 7 ∨ p = 8 ∨ p = 9 ∨ p = 10 ∨ p = 11 ∨ p = 12 ∨ p = 13 ∨ p = 14 ∨ p = 15 ∨ p = 16 ∨ p = 17 ∨ p = 18 := by
  simp only [prIs, Bool.and_eq_true, decide_eq_true_eq] at h; omega
theorem prop_ruleOf_eq {p : Int} (h : prIs p = true) : u2g p = some (prLo p, prHi p, prDef p, prGo p) := by
  rcases pr_cases h with h | h | h | h | h | h | h | h | h | h | h | h | h | h | h | h | h | h | h <;> subst h <;> rfl
theorem prop_Is_eq (p : Int) : u5w p = prIs p := by
  unfold u5w prIs
  by_cases h : 0 ≤ p <;> by_cases k : p < 19 <;> simp [h, k]
theorem u4C (p v : Int) : u2X (p, v) = some (prOk p v) := by
  unfold u2X prOk
  simp only [prop_Is_eq]
  cases h : prIs p with
  | false => rfl
  | true =>
    simp only [cond_true, prop_ruleOf_eq h, Option.bind_some, Bool.true_and]
    by_cases k : prLo p ≤ v <;> simp [k]
theorem ref_value_eq {p : Int} (h : prIs p = true) : u1o p = some (prLo p, prHi p, prDef p, true) := by
  rcases pr_cases h with h | h | h | h | h | h | h | h | h | h | h | h | h | h | h | h | h | h | h <;> subst h <;> rfl
theorem ref_value_none {p : Int} (h : prIs p = false) : u1o p = some (0, 0, 0, false) := by
  have e : ∀ k : Int, 0 ≤ k → k < 19 → (p == k) = false := by
    intro k h1 h2
    rw [beq_eq_false_iff_ne]
    rintro rfl
    simp [prIs, h1, h2] at h
  unfold u1o
  simp only [e 0 (by decide) (by decide), e 1 (by decide) (by decide), e 2 (by decide) (by decide), e 3 (by decide) (by decide), e 4 (by decide) (by decide), e 5 (by decide) (by decide), e 6 (by decide) (by decide), e 7 (by decide) (by decide), e 8 (by decide) (by decide), e 9 (by decide) (by decide), e 10 (by decide) (by decide), e 11 (by decide) (by decide), e 12 (by decide) (by decide), e 13 (by decide) (by decide), e 14 (by decide) (by decide), e 15 (by decide) (by decide), e 16 (by decide) (by decide), e 17 (by decide) (by decide), e 18 (by decide) (by decide), cond_false, Option.bind_some]
def ckP (p v : Int) : Int := if prIs p = true then (if prLo p ≤ v ∧ v ≤ prHi p then 0 else 9) else 3
theorem u3Y (p v : Int) : u0X (p, v) = some (ckP p v) := by
  unfold u0X ckP
  cases h : prIs p with
  | false => simp only [ref_value_none h, Option.bind_some]; rfl
  | true =>
    simp only [ref_value_eq h, Option.bind_some, Bool.not_true, cond_false, if_true]
    by_cases a : v < prLo p
    · have : ¬ (prLo p ≤ v ∧ v ≤ prHi p) := by omega
      simp only [a, decide_true, cond_true, if_neg this]
    · by_cases b : prHi p < v
      · have : ¬ (prLo p ≤ v ∧ v ≤ prHi p) := by omega
        simp only [a, b, decide_true, decide_false, cond_false, cond_true, if_neg this]
      · have : prLo p ≤ v ∧ v ≤ prHi p := by omega
        simp [a, b, this]
theorem ckP_ok (p v : Int) : (ckP p v == 0) = prOk p v := by
  unfold ckP prOk
  cases h : prIs p with
  | false => simp
  | true =>
    by_cases a : prLo p ≤ v <;> by_cases b : v ≤ prHi p <;> simp [a, b]
noncomputable def hdOk (o : Op') : Bool :=
  stOk o.1 && vecOk o.2.2.1 && decide (o.1.2 < (o.2.2.1.length : Int)) && stOk o.2.2.2.2.1 && (o.2.1 == IntKind.wrap .i64 (depAt o + 1)) && decide (o.2.1 ≤ 1099511627776)
def empB (x : ByteArray) : Bool := decide (x = ByteArray.mk #[])
noncomputable def opOk (o : Op') : Bool := hdOk o && ((o.2.2.2.1 == 1) && plOk o.2.2.2.2.2.1 && keyB o.2.2.2.2.2.2.1 && (o.2.2.2.2.2.2.2.1 == 0) && (o.2.2.2.2.2.2.2.2 == 0) || (o.2.2.2.1 == 2) && prOk o.2.2.2.2.2.2.2.1 o.2.2.2.2.2.2.2.2 && rootB' o.2.2.2.2.2.1 && empB o.2.2.2.2.2.2.1)
  where rootB' (s : Sp) : Bool := decide (s = (0, 0))
theorem mv_op {o : Op'} (h : (o.2.2.2.1 == 1) = true) : mvOk o = opOk o := by
  have h2 : (o.2.2.2.1 == 2) = false := by simp only [beq_iff_eq, beq_eq_false_iff_ne] at *; omega
  simp only [mvOk, opOk, hdOk, h, h2, Bool.false_and, Bool.or_false, Bool.true_and, Bool.and_true]
  simp only [Bool.and_assoc]
theorem op_May_eq (o : Op') (h : o.2.2.1.length < 9223372036854775807) : u5W o = some (opOk o) := by
  unfold u5W opOk hdOk
  simp only [u2d, have_Is_eq _ h, Option.bind_some]
  cases h1 : stOk o.1 with
  | false => simp
  | true =>
    cases h2 : vecOk o.2.2.1 with
    | false => simp
    | true =>
      by_cases h3 : o.1.2 < (o.2.2.1.length : Int)
      · have h3' : ¬ (o.2.2.1.length : Int) ≤ o.1.2 := by omega
        cases h4 : stOk o.2.2.2.2.1 with
        | false => simp [h3']
        | true =>
          simp only [h3, h3', decide_true, decide_false, Bool.not_true, cond_false, Option.bind_some, u5h h1 h3, Bool.and_self, Bool.true_and]
          cases h5 : o.2.1 == IntKind.wrap .i64 (depAt o + 1) with
          | false => simp
          | true =>
            by_cases h6 : o.2.1 ≤ 1099511627776
            · simp only [h6, decide_true, cond_true, Option.bind_some, Bool.true_and]
              unfold u6H
              simp only [u4s, key_Is_eq, Option.bind_some]
              cases h7 : o.2.2.2.1 == 1 with
              | true =>
                have h8 : (o.2.2.2.1 == 2) = false := by simp only [beq_iff_eq, beq_eq_false_iff_ne] at *; omega
                simp only [cond_true, Bool.true_and, h8, Bool.false_and, Bool.or_false]
                cases plOk o.2.2.2.2.2.1 <;> cases keyB o.2.2.2.2.2.2.1 <;> cases o.2.2.2.2.2.2.2.1 == 0 <;> cases o.2.2.2.2.2.2.2.2 == 0 <;> rfl
              | false =>
                have hm := u4C o.2.2.2.2.2.2.2.1 o.2.2.2.2.2.2.2.2
                have hr : ((o.2.2.2.2.2.1.1 == (u0i ()).1) && (o.2.2.2.2.2.1.2 == (u0i ()).2)) = opOk.rootB' o.2.2.2.2.2.1 := u2P _ (u0i ())
                have he : ((ByteArray.toList o.2.2.2.2.2.2.1) == (ByteArray.toList (ByteArray.mk ([]).toArray))) = empB o.2.2.2.2.2.2.1 := toList_eq _ _
                simp only [cond_false, Bool.false_and, Bool.false_or, show u2X o.2.2.2.2.2.2.2 = _ from hm, Option.bind_some, hr, he]
                cases o.2.2.2.1 == 2 <;> cases prOk o.2.2.2.2.2.2.2.1 o.2.2.2.2.2.2.2.2 <;> cases opOk.rootB' o.2.2.2.2.2.1 <;> cases empB o.2.2.2.2.2.2.1 <;> rfl
            · simp [h6]
      · have h3' : (o.2.2.1.length : Int) ≤ o.1.2 := by omega
        simp [h3, h3']
theorem ref_Op_eq (o : Op') (h : o.2.2.1.length < 9223372036854775807) : u1E o = some (opOk o) := by
  cases h7 : o.2.2.2.1 == 1 with
  | true =>
    have := u4B o h
    unfold u1r at this
    rw [h7, mv_op h7] at this
    simpa using this
  | false =>
    unfold u1E opOk
    have hE := EqOp_eq (o.1, o.2.1, o.2.2.1, o.2.2.2.1, o.2.2.2.2.1, ((0 : Int), (0 : Int)), (ByteArray.mk ([]).toArray), o.2.2.2.2.2.2.2.1, o.2.2.2.2.2.2.2.2) o h
    have hE2 : decide (((o.1, o.2.1, o.2.2.1, o.2.2.2.1, o.2.2.2.2.1, ((0 : Int), (0 : Int)), (ByteArray.mk ([]).toArray), o.2.2.2.2.2.2.2.1, o.2.2.2.2.2.2.2.2) : Go.Dv.Op) = o) = (opOk.rootB' o.2.2.2.2.2.1 && empB o.2.2.2.2.2.2.1) := by
      rw [Bool.eq_iff_iff, decide_eq_true_iff, u2l]
      simp only [true_and, and_true, Bool.and_eq_true, opOk.rootB', empB, decide_eq_true_eq]
      exact ⟨fun ⟨a, b⟩ => ⟨a.symm, b.symm⟩, fun ⟨a, b⟩ => ⟨a.symm, b.symm⟩⟩
    rw [hE2] at hE
    simp only [h7, cond_false, Bool.false_and, Bool.false_or, u1U, u4Z _ h, hE, Option.bind_some, hdOk]
    cases h1 : stOk o.1 with
    | false => simp
    | true =>
      cases h2 : vecOk o.2.2.1 with
      | false => simp
      | true =>
        by_cases h3 : o.1.2 < (o.2.2.1.length : Int)
        · have h3' : ¬ (o.2.2.1.length : Int) ≤ o.1.2 := by omega
          obtain ⟨d1, d2⟩ := dep_ok h1 h3 h2
          have hw : IntKind.wrap .i64 (depAt o + 1) = depAt o + 1 := by rw [Go.Dv.wrap_small] <;> omega
          simp only [h3, h3', decide_true, decide_false, Bool.not_true, cond_false, Option.bind_some, u5h h1 h3, Bool.and_self, Bool.true_and, hw]
          by_cases h5 : o.2.1 = depAt o + 1
          · have e1 : ¬ o.2.1 < 1 := by omega
            have e2 : (o.2.1 == depAt o + 1) = true := by simpa using h5
            have e3 : (o.2.1 != depAt o + 1) = false := by simp [h5]
            by_cases h6 : o.2.1 ≤ 1099511627776
            · have e4 : ¬ 1099511627776 < o.2.1 := by omega
              simp only [e1, e2, e3, e4, h6, decide_true, decide_false, cond_false, Option.bind_some, Bool.and_true, Bool.true_and]
              have hC := u3Y o.2.2.2.2.2.2.2.1 o.2.2.2.2.2.2.2.2
              simp only [show u0X o.2.2.2.2.2.2.2 = _ from hC, Option.bind_some, ckP_ok]
              cases stOk o.2.2.2.2.1 <;> cases o.2.2.2.1 == 2 <;> cases prOk o.2.2.2.2.2.2.2.1 o.2.2.2.2.2.2.2.2 <;> cases opOk.rootB' o.2.2.2.2.2.1 <;> cases empB o.2.2.2.2.2.2.1 <;> rfl
            · have e4 : 1099511627776 < o.2.1 := by omega
              simp [e1, e4, h6]
          · have e2 : (o.2.1 == depAt o + 1) = false := by simpa using h5
            have e3 : (o.2.1 != depAt o + 1) = true := by simpa using h5
            simp only [e2, e3, cond_true, Bool.and_false, Bool.false_and]
            by_cases e1 : o.2.1 < 1 <;> by_cases e4 : 1099511627776 < o.2.1 <;> simp [e1, e4]
        · have h3' : (o.2.2.1.length : Int) ≤ o.1.2 := by omega
          simp [h3, h3']
structure OkL (l : List Lk) : Prop where
  srt : GS lk slt l
  id : ∀ q ∈ l, stOk q.1 = true
  some : ∀ q ∈ l, q.2 ≠ []
  rsrt : ∀ q ∈ l, GS rk ilt q.2
  reg : ∀ q ∈ l, ∀ r ∈ q.2, prOk r.1 r.2.1 = true ∧ stOk r.2.2 = true
theorem okl_nil : OkL [] := ⟨by simp [GS], by simp, by simp, by simp, by simp⟩
def u2a (o : Op') : Sp := o.2.2.2.2.1
def regOf (o : Op') : Rg := (o.2.2.2.2.2.2.2.1, o.2.2.2.2.2.2.2.2, o.1)
theorem putR_ne {l : List Rg} {x : Rg} : putR l x ≠ [] := by
  intro h
  have hg : ∀ l : List Rg, gput rk ilt l x ≠ [] := by
    intro l
    cases l with
    | nil => simp [gput]
    | cons q l => simp only [gput]; split; simp; split <;> simp
  unfold putR at h
  cases hq : glook rk l (rk x) with
  | none => rw [hq] at h; exact hg _ h
  | some q =>
    rw [hq] at h
    simp only at h
    split at h
    · exact hg _ h
    · subst h; simp [glook] at hq
theorem regsAt_ok {l : List Lk} (h : OkL l) (id : Sp) : GS rk ilt (u2B l id) ∧ ∀ r ∈ u2B l id, prOk r.1 r.2.1 = true ∧ stOk r.2.2 = true := by
  unfold u2B
  split
  · exact ⟨by simp [GS], by simp⟩
  · rename_i q hq
    exact ⟨h.rsrt _ (u2y hq).2, h.reg _ (u2y hq).2⟩
theorem putLk_ok {l : List Lk} {id : Sp} {x : Rg} (h : OkL l) (hid : stOk id = true) (hx : prOk x.1 x.2.1 = true) (hs : stOk x.2.2 = true) : OkL (putLk l id x) := by
  have hq := regsAt_ok h id
  refine ⟨putLk_srt h.srt, fun q hm => ?_, fun q hm => ?_, fun q hm => ?_, fun q hm => ?_⟩ <;> rcases u6i hm with rfl | hm
  · exact hid
  · exact h.id q hm
  · exact putR_ne
  · exact h.some q hm
  · exact putR_srt hq.1
  · exact h.rsrt q hm
  · intro r hr
    rcases putR_mem hr with rfl | hr
    · exact ⟨hx, hs⟩
    · exact hq.2 r hr
  · exact h.reg q hm
abbrev St : Type := List Op' × List Lk
structure OkS (s : St) : Prop where
  t : OkT s.1
  l : OkL s.2
theorem oks_nil : OkS ([], []) := ⟨⟨by simp, by simp [SrtO]⟩, okl_nil⟩
def shp (s : St) : Tree × List Lk := (made s.1, s.2)
def putS (s : St) (o : Op') : St := if (o.2.2.2.1 == 1) = true then (insO s.1 o, s.2) else (s.1, putLk s.2 (u2a o) (regOf o))
def clash (s : St) (o : Op') : Bool := (o.2.2.2.1 == 1) && hasO s.1 o.1
theorem opOk_parts {o : Op'} (h : opOk o = true) : stOk o.1 = true ∧ stOk (u2a o) = true ∧ ((o.2.2.2.1 == 1) = false → prOk o.2.2.2.2.2.2.2.1 o.2.2.2.2.2.2.2.2 = true ∧ (o.2.2.2.1 == 2) = true) := by
  simp only [opOk, hdOk, Bool.and_eq_true, Bool.or_eq_true] at h
  refine ⟨h.1.1.1.1.1.1, h.1.1.1.2, fun hk => ?_⟩
  rcases h.2 with k | k
  · exact absurd k.1.1.1.1 (by rw [hk]; decide)
  · exact ⟨k.1.1.2, k.1.1.1⟩
theorem ne_has' {os : List Op'} {s : Sp} (h : hasO os s = false) : ∀ q ∈ os, q.1 ≠ s := by
  intro q hq e
  have : hasO os s = true := by simp only [hasO, List.any_eq_true, decide_eq_true_eq]; exact ⟨q, hq, e⟩
  rw [h] at this; cases this
theorem u38 {s : St} {o : Op'} (h : OkS s) (ho : opOk o = true) (hc : clash s o = false) : OkS (putS s o) := by
  obtain ⟨h1, h2, h3⟩ := opOk_parts ho
  unfold putS
  cases hk : o.2.2.2.1 == 1 with
  | true =>
    simp only [clash, hk, Bool.true_and] at hc
    exact ⟨insO_ok h.t (by rw [mv_op hk]; exact ho) (ne_has' hc), h.l⟩
  | false => exact ⟨h.t, putLk_ok h.l h2 (h3 hk).1 h1⟩
def foldS (s : St) (l : List Op') : St := l.foldl putS s
structure Fine (s : St) (l : List Op') : Prop where
  ok : ∀ o ∈ l, opOk o = true ∧ clash s o = false
  ne : l.Pairwise fun a b => a.1 ≠ b.1
end Go.Tr
