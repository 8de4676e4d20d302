/- Lists in the order of a key: finding, putting, and that two puts may change places. Plain Lean. -/
import Derived.Test.YtlfkabehppdohaaGreatTrA
import Derived.Test.YtlfkabehppdohaaGreatTrC
import Derived.Test.YtlfkabehppdohaaGreatTrD
set_option linter.unusedVariables false
set_option linter.unusedSimpArgs false
namespace Go.Tr
structure Lin {κ : Type} (lt : κ → κ → Prop) : Prop where
  irr : ∀ a, ¬ lt a a
  trans : ∀ {a b c}, lt a b → lt b c → lt a c
  tri : ∀ a b, lt a b ∨ a = b ∨ lt b a
theorem lin_slt : Lin slt := ⟨slt_irr, slt_trans, slt_tri⟩
theorem lin_int : Lin (fun a b : Int => a < b) := ⟨fun a => by omega, fun h k => by omega, fun a b => by omega⟩
section
variable {α κ : Type} (ky : α → κ) (lt : κ → κ → Prop)
def GS (l : List α) : Prop := l.Pairwise fun a b => lt (ky a) (ky b)
def glook [DecidableEq κ] : List α → κ → Option α
  | [], _ => none
  | m :: l, k => if ky m = k then some m else glook l k
def gpos [DecidableRel lt] : List α → κ → Nat
  | [], _ => 0
  | m :: l, k => if lt (ky m) k then gpos l k + 1 else 0
def gput [DecidableEq κ] [DecidableRel lt] : List α → α → List α
  | [], n => [n]
  | m :: l, n => if lt (ky m) (ky n) then m :: gput l n else if ky m = ky n then n :: l else n :: m :: l
variable {ky lt}
theorem glook_id [DecidableEq κ] {l : List α} {k : κ} {n : α} (h : glook ky l k = some n) : ky n = k ∧ n ∈ l := by
  induction l with
  | nil => simp [glook] at h
  | cons m l ih =>
    simp only [glook] at h
    split at h
    · cases h; exact ⟨by assumption, List.mem_cons_self ..⟩
    · exact ⟨(ih h).1, List.mem_cons_of_mem _ (ih h).2⟩
theorem gpos_le [DecidableRel lt] : ∀ (l : List α) (k : κ), gpos ky lt l k ≤ l.length
  | [], _ => Nat.le_refl _
  | m :: l, k => by simp only [gpos]; split <;> simp [gpos_le l k]
theorem gpos_below [DecidableRel lt] (L : Lin lt) : ∀ {l : List α} {k : κ} {i : Nat} {n : α}, GS ky lt l → l[i]? = some n → (i < gpos ky lt l k ↔ lt (ky n) k)
  | [], _, _, _, _, h => by simp at h
  | m :: l, k, 0, n, hs, h => by
    simp at h; subst h
    simp only [gpos]
    split <;> simp_all
  | m :: l, k, i + 1, n, hs, h => by
    have h : l[i]? = some n := by simpa using h
    have hs' := List.pairwise_cons.1 hs
    have hmn : lt (ky m) (ky n) := hs'.1 n (List.mem_of_getElem? h)
    simp only [gpos]
    split
    · rename_i hm
      rw [Nat.add_lt_add_iff_right]; exact gpos_below L hs'.2 h
    · rename_i hm
      exact ⟨fun h => absurd h (Nat.not_lt_zero _), fun j => absurd (L.trans hmn j) hm⟩
theorem lt_ne (L : Lin lt) {a b : κ} (h : lt a b) : a ≠ b := by rintro rfl; exact L.irr _ h
theorem glook_pos [DecidableEq κ] [DecidableRel lt] (L : Lin lt) {l : List α} {k : κ} (hs : GS ky lt l) : glook ky l k = match l[gpos ky lt l k]? with
    | some n => if ky n = k then some n else none
    | none => none := by
  induction l with
  | nil => simp [glook]
  | cons m l ih =>
    have hs' := List.pairwise_cons.1 hs
    simp only [glook, gpos]
    by_cases h : lt (ky m) k
    · rw [if_pos h, if_neg (lt_ne L h), ih hs'.2]; simp
    · rw [if_neg h]
      by_cases e : ky m = k
      · simp [e]
      · rw [if_neg e]
        have hg : lt k (ky m) := ((L.tri (ky m) k).resolve_left h).resolve_left e
        simp only [List.getElem?_cons_zero, if_neg e]
        cases hl : glook ky l k with
        | none => rfl
        | some n =>
          obtain ⟨h1, h2⟩ := glook_id hl
          have := hs'.1 n h2
          rw [h1] at this
          exact absurd (L.trans hg this) (L.irr _)
theorem glook_some_pos [DecidableEq κ] [DecidableRel lt] (L : Lin lt) {l : List α} {k : κ} {n : α} (hs : GS ky lt l) (h : glook ky l k = some n) : l[gpos ky lt l k]? = some n := by
  rw [glook_pos L hs] at h
  split at h
  · rename_i m hm
    split at h
    · cases h; exact hm
    · cases h
  · cases h
theorem gput_mem [DecidableEq κ] [DecidableRel lt] {l : List α} {n m : α} (h : m ∈ gput ky lt l n) : m = n ∨ m ∈ l := by
  induction l with
  | nil => simp [gput] at h; exact .inl h
  | cons q l ih =>
    simp only [gput] at h
    split at h
    · rcases List.mem_cons.1 h with h | h
      · exact .inr (by simp [h])
      · rcases ih h with h | h
        · exact .inl h
        · exact .inr (by simp [h])
    · split at h
      · rcases List.mem_cons.1 h with h | h
        · exact .inl h
        · exact .inr (by simp [h])
      · rcases List.mem_cons.1 h with h | h
        · exact .inl h
        · exact .inr h
theorem gput_srt [DecidableEq κ] [DecidableRel lt] (L : Lin lt) {l : List α} {n : α} (hs : GS ky lt l) : GS ky lt (gput ky lt l n) := by
  induction l with
  | nil => simp [gput, GS]
  | cons q l ih =>
    have hs' := List.pairwise_cons.1 hs
    simp only [gput]
    by_cases c : lt (ky q) (ky n)
    · rw [if_pos c]
      refine List.pairwise_cons.2 ⟨fun m hm => ?_, ih hs'.2⟩
      rcases gput_mem hm with rfl | hm
      · exact c
      · exact hs'.1 m hm
    · rw [if_neg c]
      by_cases e : ky q = ky n
      · rw [if_pos e]
        exact List.pairwise_cons.2 ⟨fun m hm => by rw [← e]; exact hs'.1 m hm, hs'.2⟩
      · rw [if_neg e]
        have hg : lt (ky n) (ky q) := ((L.tri (ky q) (ky n)).resolve_left c).resolve_left e
        refine List.pairwise_cons.2 ⟨fun m hm => ?_, hs⟩
        rcases List.mem_cons.1 hm with rfl | hm
        · exact hg
        · exact L.trans hg (hs'.1 m hm)
end

abbrev Rg : Type := Int × Int × Sp
abbrev Lk : Type := Sp × List Rg
def rk (r : Rg) : Int := r.1
def lk (l : Lk) : Sp := l.1
abbrev ilt (a b : Int) : Prop := a < b
theorem lin_ilt : Lin ilt := lin_int
def putR (l : List Rg) (x : Rg) : List Rg := match glook rk l (rk x) with
  | none => gput rk ilt l x
  | some q => if slt q.2.2 x.2.2 then gput rk ilt l x else l
theorem putR_srt {l : List Rg} {x : Rg} (h : GS rk ilt l) : GS rk ilt (putR l x) := by
  unfold putR; split
  · exact gput_srt lin_ilt h
  · split
    · exact gput_srt lin_ilt h
    · exact h
theorem putR_mem {l : List Rg} {x q : Rg} (h : q ∈ putR l x) : q = x ∨ q ∈ l := by
  unfold putR at h; split at h
  · exact gput_mem h
  · split at h
    · exact gput_mem h
    · exact .inr h
def mx (q : Option Rg) (x : Rg) : Rg := match q with
  | none => x
  | some q => if slt q.2.2 x.2.2 then x else q
def regsAt (l : List Lk) (id : Sp) : List Rg := match glook lk l id with
  | none => []
  | some q => q.2
def putLk (l : List Lk) (id : Sp) (x : Rg) : List Lk := gput lk slt l (id, putR (regsAt l id) x)
theorem putLk_srt {l : List Lk} {id : Sp} {x : Rg} (h : GS lk slt l) : GS lk slt (putLk l id x) := gput_srt lin_slt h
end Go.Tr
set_option linter.unusedVariables false
set_option linter.unusedSimpArgs false
namespace Go.Tr
open Go Go.Dv
def prLo (p : Int) : Int := if p = 3 ∨ p = 4 ∨ p = 6 ∨ p = 8 ∨ p = 11 then -1 else if p = 18 then 64 else 0
def prHi (p : Int) : Int := if p = 0 then 2 else if p = 1 ∨ p = 2 then 1 else if p = 3 ∨ p = 4 ∨ p = 6 ∨ p = 8 ∨ p = 11 ∨ p = 5 ∨ p = 7 then 1099511627776 else if p = 9 ∨ p = 10 then 1048576 else if p = 15 then 4 else if p = 16 then 3 else if p = 17 then 16777215 else if p = 18 then 64000 else 1073741824
def prDef (p : Int) : Int := if p = 3 ∨ p = 4 ∨ p = 6 ∨ p = 8 ∨ p = 11 then -1 else if p = 10 then 1 else if p = 18 then 1024 else 0
def prGo (p : Int) : Bool := decide (p = 17) || decide (p = 18)
def prIs (p : Int) : Bool := decide (0 ≤ p) && decide (p < 19)
def prOk (p v : Int) : Bool := prIs p && decide (prLo p ≤ v) && decide (v ≤ prHi p)
theorem pr_cases {p : Int} (h : prIs p = true) : p = 0 ∨ p = 1 ∨ p = 2 ∨ p = 3 ∨ p = 4 ∨ p = 5 ∨ p = 6 ∨ p = 7 ∨ p = 8 ∨ p = 9 ∨ p = 10 ∨ p = 11 ∨ p = 12 ∨ p = 13 ∨ p = 14 ∨ p = 15 ∨ p = 16 ∨ p = 17 ∨ p = 18 := by
  simp only [prIs, Bool.and_eq_true, decide_eq_true_eq] at h; omega
theorem prop_ruleOf_eq {p : Int} (h : prIs p = true) : prop_ruleOf p = some (prLo p, prHi p, prDef p, prGo p) := by
  rcases pr_cases h with h | h | h | h | h | h | h | h | h | h | h | h | h | h | h | h | h | h | h <;> subst h <;> rfl
theorem prop_Is_eq (p : Int) : prop_Is p = prIs p := by
  unfold prop_Is prIs
  by_cases h : 0 ≤ p <;> by_cases k : p < 19 <;> simp [h, k]
theorem prop_May_eq (p v : Int) : prop_May (p, v) = some (prOk p v) := by
  unfold prop_May prOk
  simp only [prop_Is_eq]
  cases h : prIs p with
  | false => rfl
  | true =>
    simp only [cond_true, prop_ruleOf_eq h, Option.bind_some, Bool.true_and]
    by_cases k : prLo p ≤ v <;> simp [k]
theorem ref_value_eq {p : Int} (h : prIs p = true) : arrasref8_value p = some (prLo p, prHi p, prDef p, true) := by
  rcases pr_cases h with h | h | h | h | h | h | h | h | h | h | h | h | h | h | h | h | h | h | h <;> subst h <;> rfl
theorem ref_value_none {p : Int} (h : prIs p = false) : arrasref8_value p = some (0, 0, 0, false) := by
  have e : ∀ k : Int, 0 ≤ k → k < 19 → (p == k) = false := by
    intro k h1 h2
    rw [beq_eq_false_iff_ne]
    rintro rfl
    simp [prIs, h1, h2] at h
  unfold arrasref8_value
  simp only [e 0 (by decide) (by decide), e 1 (by decide) (by decide), e 2 (by decide) (by decide), e 3 (by decide) (by decide), e 4 (by decide) (by decide), e 5 (by decide) (by decide), e 6 (by decide) (by decide), e 7 (by decide) (by decide), e 8 (by decide) (by decide), e 9 (by decide) (by decide), e 10 (by decide) (by decide), e 11 (by decide) (by decide), e 12 (by decide) (by decide), e 13 (by decide) (by decide), e 14 (by decide) (by decide), e 15 (by decide) (by decide), e 16 (by decide) (by decide), e 17 (by decide) (by decide), e 18 (by decide) (by decide), cond_false, Option.bind_some]
def ckP (p v : Int) : Int := if prIs p = true then (if prLo p ≤ v ∧ v ≤ prHi p then 0 else 9) else 3
theorem ref_Check_eq (p v : Int) : arrasref8_Check (p, v) = some (ckP p v) := by
  unfold arrasref8_Check ckP
  cases h : prIs p with
  | false => simp only [ref_value_none h, Option.bind_some]; rfl
  | true =>
    simp only [ref_value_eq h, Option.bind_some, Bool.not_true, cond_false, if_true]
    by_cases a : v < prLo p
    · have : ¬ (prLo p ≤ v ∧ v ≤ prHi p) := by omega
      simp only [a, decide_true, cond_true, if_neg this]
    · by_cases b : prHi p < v
      · have : ¬ (prLo p ≤ v ∧ v ≤ prHi p) := by omega
        simp only [a, b, decide_true, decide_false, cond_false, cond_true, if_neg this]
      · have : prLo p ≤ v ∧ v ≤ prHi p := by omega
        simp [a, b, this]
theorem ckP_ok (p v : Int) : (ckP p v == 0) = prOk p v := by
  unfold ckP prOk
  cases h : prIs p with
  | false => simp
  | true =>
    by_cases a : prLo p ≤ v <;> by_cases b : v ≤ prHi p <;> simp [a, b]
noncomputable def hdOk (o : Op') : Bool :=
  stOk o.1 && vecOk o.2.2.1 && decide (o.1.2 < (o.2.2.1.length : Int)) && stOk o.2.2.2.2.1 && (o.2.1 == IntKind.wrap .i64 (depAt o + 1)) && decide (o.2.1 ≤ 1099511627776)
def empB (x : ByteArray) : Bool := decide (x = ByteArray.mk #[])
noncomputable def opOk (o : Op') : Bool := hdOk o && ((o.2.2.2.1 == 1) && plOk o.2.2.2.2.2.1 && keyB o.2.2.2.2.2.2.1 && (o.2.2.2.2.2.2.2.1 == 0) && (o.2.2.2.2.2.2.2.2 == 0) || (o.2.2.2.1 == 2) && prOk o.2.2.2.2.2.2.2.1 o.2.2.2.2.2.2.2.2 && rootB' o.2.2.2.2.2.1 && empB o.2.2.2.2.2.2.1)
  where rootB' (s : Sp) : Bool := decide (s = (0, 0))
theorem mv_op {o : Op'} (h : (o.2.2.2.1 == 1) = true) : mvOk o = opOk o := by
  have h2 : (o.2.2.2.1 == 2) = false := by simp only [beq_iff_eq, beq_eq_false_iff_ne] at *; omega
  simp only [mvOk, opOk, hdOk, h, h2, Bool.false_and, Bool.or_false, Bool.true_and, Bool.and_true]
  simp only [Bool.and_assoc]
structure OkL (l : List Lk) : Prop where
  srt : GS lk slt l
  id : ∀ q ∈ l, stOk q.1 = true
  some : ∀ q ∈ l, q.2 ≠ []
  rsrt : ∀ q ∈ l, GS rk ilt q.2
  reg : ∀ q ∈ l, ∀ r ∈ q.2, prOk r.1 r.2.1 = true ∧ stOk r.2.2 = true
theorem okl_nil : OkL [] := ⟨by simp [GS], by simp, by simp, by simp, by simp⟩
def nodeOf (o : Op') : Sp := o.2.2.2.2.1
def regOf (o : Op') : Rg := (o.2.2.2.2.2.2.2.1, o.2.2.2.2.2.2.2.2, o.1)
theorem putR_ne {l : List Rg} {x : Rg} : putR l x ≠ [] := by
  intro h
  have hg : ∀ l : List Rg, gput rk ilt l x ≠ [] := by
    intro l
    cases l with
    | nil => simp [gput]
    | cons q l => simp only [gput]; split; simp; split <;> simp
  unfold putR at h
  cases hq : glook rk l (rk x) with
  | none => rw [hq] at h; exact hg _ h
  | some q =>
    rw [hq] at h
    simp only at h
    split at h
    · exact hg _ h
    · subst h; simp [glook] at hq
theorem regsAt_ok {l : List Lk} (h : OkL l) (id : Sp) : GS rk ilt (regsAt l id) ∧ ∀ r ∈ regsAt l id, prOk r.1 r.2.1 = true ∧ stOk r.2.2 = true := by
  unfold regsAt
  split
  · exact ⟨by simp [GS], by simp⟩
  · rename_i q hq
    exact ⟨h.rsrt _ (glook_id hq).2, h.reg _ (glook_id hq).2⟩
theorem putLk_ok {l : List Lk} {id : Sp} {x : Rg} (h : OkL l) (hid : stOk id = true) (hx : prOk x.1 x.2.1 = true) (hs : stOk x.2.2 = true) : OkL (putLk l id x) := by
  have hq := regsAt_ok h id
  refine ⟨putLk_srt h.srt, fun q hm => ?_, fun q hm => ?_, fun q hm => ?_, fun q hm => ?_⟩ <;> rcases gput_mem hm with rfl | hm
  · exact hid
  · exact h.id q hm
  · exact putR_ne
  · exact h.some q hm
  · exact putR_srt hq.1
  · exact h.rsrt q hm
  · intro r hr
    rcases putR_mem hr with rfl | hr
    · exact ⟨hx, hs⟩
    · exact hq.2 r hr
  · exact h.reg q hm
abbrev St : Type := List Op' × List Lk
structure OkS (s : St) : Prop where
  t : OkT s.1
  l : OkL s.2
theorem oks_nil : OkS ([], []) := ⟨⟨by simp, by simp [SrtO]⟩, okl_nil⟩
def shp (s : St) : Tree × List Lk := (made s.1, s.2)
def putS (s : St) (o : Op') : St := if (o.2.2.2.1 == 1) = true then (insO s.1 o, s.2) else (s.1, putLk s.2 (nodeOf o) (regOf o))
def clash (s : St) (o : Op') : Bool := (o.2.2.2.1 == 1) && hasO s.1 o.1
theorem opOk_parts {o : Op'} (h : opOk o = true) : stOk o.1 = true ∧ stOk (nodeOf o) = true ∧ ((o.2.2.2.1 == 1) = false → prOk o.2.2.2.2.2.2.2.1 o.2.2.2.2.2.2.2.2 = true ∧ (o.2.2.2.1 == 2) = true) := by
  simp only [opOk, hdOk, Bool.and_eq_true, Bool.or_eq_true] at h
  refine ⟨h.1.1.1.1.1.1, h.1.1.1.2, fun hk => ?_⟩
  rcases h.2 with k | k
  · exact absurd k.1.1.1.1 (by rw [hk]; decide)
  · exact ⟨k.1.1.2, k.1.1.1⟩
theorem ne_has' {os : List Op'} {s : Sp} (h : hasO os s = false) : ∀ q ∈ os, q.1 ≠ s := by
  intro q hq e
  have : hasO os s = true := by simp only [hasO, List.any_eq_true, decide_eq_true_eq]; exact ⟨q, hq, e⟩
  rw [h] at this; cases this
theorem putS_ok {s : St} {o : Op'} (h : OkS s) (ho : opOk o = true) (hc : clash s o = false) : OkS (putS s o) := by
  obtain ⟨h1, h2, h3⟩ := opOk_parts ho
  unfold putS
  cases hk : o.2.2.2.1 == 1 with
  | true =>
    simp only [clash, hk, Bool.true_and] at hc
    exact ⟨insO_ok h.t (by rw [mv_op hk]; exact ho) (ne_has' hc), h.l⟩
  | false => exact ⟨h.t, putLk_ok h.l h2 (h3 hk).1 h1⟩
def foldS (s : St) (l : List Op') : St := l.foldl putS s
structure Fine (s : St) (l : List Op') : Prop where
  ok : ∀ o ∈ l, opOk o = true ∧ clash s o = false
  ne : l.Pairwise fun a b => a.1 ≠ b.1
end Go.Tr
set_option linter.unusedVariables false
set_option linter.unusedSimpArgs false
namespace Go.Tr
open Go Go.Dv
section
variable {α κ : Type} {ky : α → κ} {lt : κ → κ → Prop}
theorem gfind_loop [DecidableRel lt] (L : Lin lt) {l : List α} {k : κ} (hs : GS ky lt l) (hl : Sm l) {f : (List α × (Int × (Int × (Int × κ)))) → Option ((List α × (Int × (Int × (Int × κ)))) ⊕ (List α × (Int × (Int × κ))))}
    (hin : ∀ (i j : Nat) (m : α), i < j → j ≤ l.length → l[(i + j) / 2]? = some m → f (l, ((l.length : Int), ((i : Int), ((j : Int), k)))) = if lt (ky m) k then some (.inl (l, ((l.length : Int), ((((i + j) / 2 + 1 : Nat) : Int), ((j : Int), k))))) else some (.inl (l, ((l.length : Int), ((i : Int), ((((i + j) / 2 : Nat) : Int), k))))))
    (hout : ∀ i : Nat, f (l, ((l.length : Int), ((i : Int), ((i : Int), k)))) = some (.inr (l, ((l.length : Int), ((i : Int), k))))) :
    ∀ (d i j : Nat), j - i ≤ d → i ≤ gpos ky lt l k → gpos ky lt l k ≤ j → j ≤ l.length → iter f (l, ((l.length : Int), ((i : Int), ((j : Int), k)))) = some (l, ((l.length : Int), (((gpos ky lt l k : Nat) : Int), k)))
  | 0, i, j, h0, h1, h2, h3 => by
    obtain rfl : i = j := by omega
    obtain e : gpos ky lt l k = i := by omega
    rw [e]; exact iter_inr (hout i)
  | d + 1, i, j, h0, h1, h2, h3 => by
    by_cases hij : i < j
    · have hm : (i + j) / 2 < l.length := by omega
      have hme := List.getElem?_eq_getElem hm
      have hb := gpos_below (k := k) L hs hme
      have := hin i j _ hij h3 hme
      by_cases hc : lt (ky l[(i + j) / 2]) k
      · rw [if_pos hc] at this
        rw [iter_inl this]
        have := hb.2 hc
        exact gfind_loop L hs hl hin hout d _ j (by omega) (by omega) h2 h3
      · rw [if_neg hc] at this
        rw [iter_inl this]
        have : ¬ (i + j) / 2 < gpos ky lt l k := fun h => hc (hb.1 h)
        exact gfind_loop L hs hl hin hout d i _ (by omega) h1 (by omega) (by omega)
    · obtain rfl : i = j := by omega
      obtain e : gpos ky lt l k = i := by omega
      rw [e]; exact iter_inr (hout i)
theorem bs_eq [DecidableEq κ] [DecidableRel lt] (L : Lin lt) {l : List α} (k : κ) (hs : GS ky lt l) (hl : Sm l) (c : α × κ → Option Int) (cm : α → Int) (hc : ∀ m, c (m, k) = some (cm m)) (h1 : ∀ m, cm m < 0 ↔ lt (ky m) k) (h2 : ∀ m, cm m = 0 ↔ ky m = k) :
    (iter (σ := (List α × (Int × (Int × (Int × κ))))) (ρ := (List α × (Int × (Int × κ)))) (fun s =>
      bif (decide ((s.2.2.1 < s.2.2.2.1))) then (bif (decide ((1 < 0))) then none else
        ((getI s.1 (IntKind.wrap .i64 (Int.fdiv (IntKind.wrap .u64 (IntKind.wrap .i64 (s.2.2.1 + s.2.2.2.1))) (2 ^ (Min.min (Int.toNat 1) (IntKind.bits .u64))))))).bind fun x1 =>
        ((c (x1, s.2.2.2.2))).bind fun x2 =>
        bif (decide ((x2 < 0))) then some (.inl (s.1, (s.2.1, ((IntKind.wrap .i64 ((IntKind.wrap .i64 (Int.fdiv (IntKind.wrap .u64 (IntKind.wrap .i64 (s.2.2.1 + s.2.2.2.1))) (2 ^ (Min.min (Int.toNat 1) (IntKind.bits .u64))))) + 1)), s.2.2.2)))) else
        some (.inl (s.1, (s.2.1, (s.2.2.1, ((IntKind.wrap .i64 (Int.fdiv (IntKind.wrap .u64 (IntKind.wrap .i64 (s.2.2.1 + s.2.2.2.1))) (2 ^ (Min.min (Int.toNat 1) (IntKind.bits .u64))))), s.2.2.2.2)))))) else
      some (.inr (s.1, (s.2.1, (s.2.2.1, s.2.2.2.2))))) (l, (((List.length l) : Int), ((0 : Int), (((List.length l) : Int), k))))).bind (fun x1 =>
  (bif (decide ((x1.2.2.1 < x1.2.1))) then (((getI x1.1 x1.2.2.1)).bind fun x2 =>
      ((c (x2, x1.2.2.2))).bind fun x3 =>
      some (x1.2.2.1, (x3 == 0))) else
    some (x1.2.2.1, false)).bind fun x2 =>
  some x2) = some (((gpos ky lt l k : Nat) : Int), (glook ky l k).isSome) := by
  have hl' : l.length < 1000000 := hl
  have hp := gpos_le (ky := ky) (lt := lt) l k
  rw [show ((l, (((List.length l : Nat) : Int), ((0 : Int), (((List.length l : Nat) : Int), k)))) : List α × (Int × (Int × (Int × κ)))) = (l, ((l.length : Int), (((0 : Nat) : Int), ((l.length : Int), k)))) from rfl,
    gfind_loop L hs hl ?_ ?_ l.length 0 l.length (by omega) (by omega) hp (Nat.le_refl _)]
  · simp only [Option.bind_some]
    rw [glook_pos L hs]
    by_cases h : gpos ky lt l k < l.length
    · have h' : ((gpos ky lt l k : Nat) : Int) < (l.length : Int) := by omega
      simp only [h', decide_true, cond_true, getI_lt l _ h, Option.bind_some, hc, List.getElem?_eq_getElem h]
      by_cases e : ky (l[gpos ky lt l k]) = k
      · have : cm (l[gpos ky lt l k]) = 0 := (h2 _).2 e
        simp [e, this]
      · have : ¬ cm (l[gpos ky lt l k]) = 0 := fun h => e ((h2 _).1 h)
        simp [e, this]
    · have h' : ¬ ((gpos ky lt l k : Nat) : Int) < (l.length : Int) := by omega
      simp only [h', decide_false, cond_false, Option.bind_some, List.getElem?_eq_none (Nat.le_of_not_lt h)]
      rfl
  · intro i j m hij hj hm
    have e1 : (i : Int) < (j : Int) := by omega
    have e2 : ¬ (1 < 0) := by omega
    simp only [e1, decide_true, cond_true, e2, decide_false, cond_false]
    rw [mid_eq (by omega), getI_nat, hm]
    simp only [Option.bind_some, hc]
    rw [wrap_nat (by omega)]
    by_cases hc : lt (ky m) k
    · have := (h1 m).2 hc
      simp [hc, this]
    · have : ¬ cm m < 0 := fun h => hc ((h1 m).1 h)
      simp only [hc, this, decide_false, cond_false, if_false]
  · intro i
    simp
theorem gs_of (L : Lin lt) [Inhabited α] {l : List α} (h : ∀ i, i + 1 < l.length → lt (ky (l.getD i default)) (ky (l.getD (i + 1) default))) : GS ky lt l := by
  unfold GS
  rw [List.pairwise_iff_getElem]
  intro i j hi hj hij
  have key : ∀ d, i + d + 1 < l.length → lt (ky (l.getD i default)) (ky (l.getD (i + d + 1) default)) := by
    intro d
    induction d with
    | zero => intro hd; exact h i hd
    | succ d ih =>
      intro hd
      exact L.trans (ih (by omega)) (by have := h (i + d + 1) (by omega); rwa [show i + d + 1 + 1 = i + (d + 1) + 1 by omega] at this)
  have := key (j - i - 1) (by omega)
  rw [show i + (j - i - 1) + 1 = j by omega] at this
  simpa [List.getD_eq_getElem?_getD, hi, hj] using this
theorem gs_at [Inhabited α] {l : List α} (h : GS ky lt l) {i : Nat} (hi : i < l.length) (h0 : i ≠ 0) : lt (ky (l.getD (i - 1) default)) (ky (l.getD i default)) := by
  unfold GS at h
  rw [List.pairwise_iff_getElem] at h
  have := h (i - 1) i (by omega) hi (by omega)
  simpa [List.getD_eq_getElem?_getD, hi, show i - 1 < l.length by omega] using this
end
def regAt (l : List Rg) (i : Nat) : Bool := prOk (l.getD i default).1 (l.getD i default).2.1 && stOk (l.getD i default).2.2 && (decide (i = 0) || decide ((l.getD (i - 1) default).1 < (l.getD i default).1))
def regsB (l : List Rg) : Bool := (List.range l.length).all (regAt l)
theorem regsB_iff {l : List Rg} : regsB l = true ↔ GS rk ilt l ∧ ∀ r ∈ l, prOk r.1 r.2.1 = true ∧ stOk r.2.2 = true := by
  unfold regsB
  rw [List.all_eq_true]
  constructor
  · intro h
    have at_ : ∀ i, i < l.length → regAt l i = true := fun i hi => h i (List.mem_range.2 hi)
    simp only [regAt, Bool.and_eq_true, Bool.or_eq_true, decide_eq_true_eq] at at_
    refine ⟨gs_of lin_ilt fun i hi => ?_, fun r hr => ?_⟩
    · have := (at_ (i + 1) hi).2.resolve_left (by omega)
      rw [Nat.add_sub_cancel] at this
      exact this
    · obtain ⟨i, hi, rfl⟩ := List.mem_iff_getElem.1 hr
      have := (at_ i hi).1
      simpa [List.getD_eq_getElem?_getD, hi] using this
  · rintro ⟨h1, h2⟩ i hi
    have hi := List.mem_range.1 hi
    have hm := h2 _ (getD_mem hi)
    simp only [regAt, Bool.and_eq_true, Bool.or_eq_true, decide_eq_true_eq]
    refine ⟨hm, ?_⟩
    by_cases h0 : i = 0
    · exact .inl h0
    · exact .inr (gs_at h1 hi h0)
def lookAt (l : List Lk) (i : Nat) : Bool := stOk (l.getD i default).1 && !((l.getD i default).2.length == 0) && regsB (l.getD i default).2 && (decide (i = 0) || decide (slt (l.getD (i - 1) default).1 (l.getD i default).1))
def looksB (l : List Lk) : Bool := (List.range l.length).all (lookAt l)
theorem looksB_iff {l : List Lk} : looksB l = true ↔ OkL l := by
  unfold looksB
  rw [List.all_eq_true]
  constructor
  · intro h
    have at_ : ∀ i, i < l.length → lookAt l i = true := fun i hi => h i (List.mem_range.2 hi)
    simp only [lookAt, Bool.and_eq_true, Bool.or_eq_true, decide_eq_true_eq, Bool.not_eq_true', beq_eq_false_iff_ne, regsB_iff] at at_
    have am : ∀ q ∈ l, stOk q.1 = true ∧ q.2.length ≠ 0 ∧ (GS rk ilt q.2 ∧ ∀ r ∈ q.2, prOk r.1 r.2.1 = true ∧ stOk r.2.2 = true) := by
      intro q hq
      obtain ⟨i, hi, rfl⟩ := List.mem_iff_getElem.1 hq
      have := (at_ i hi).1
      have e : l.getD i default = l[i] := by simp [List.getD_eq_getElem?_getD, hi]
      rw [e] at this
      exact ⟨this.1.1, this.1.2, this.2⟩
    exact ⟨gs_of lin_slt fun i hi => by have := (at_ (i + 1) hi).2.resolve_left (by omega); rw [Nat.add_sub_cancel] at this; exact this, fun q hq => (am q hq).1, fun q hq e => (am q hq).2.1 (by rw [e]; rfl), fun q hq => (am q hq).2.2.1, fun q hq => (am q hq).2.2.2⟩
  · intro h i hi
    have hi := List.mem_range.1 hi
    have hm : l.getD i default ∈ l := getD_mem hi
    simp only [lookAt, Bool.and_eq_true, Bool.or_eq_true, decide_eq_true_eq, Bool.not_eq_true', beq_eq_false_iff_ne, regsB_iff]
    refine ⟨⟨⟨h.id _ hm, fun e => h.some _ hm (List.length_eq_zero_iff.1 e)⟩, h.rsrt _ hm, h.reg _ hm⟩, ?_⟩
    by_cases h0 : i = 0
    · exact .inl h0
    · exact .inr (gs_at h.srt hi h0)
noncomputable def shpB (s : Tree × List Lk) : Bool := looksB s.2 && mayB s.1
structure SmS (s : Tree × List Lk) : Prop where
  n : s.1.1.length < 999000
  m : s.1.2.length < 999000
  d : ∀ e ∈ s.1.2, Sm e.1.2.2.1
  l : s.2.length < 999000
  r : ∀ q ∈ s.2, q.2.length < 999000
end Go.Tr
set_option linter.unusedVariables false
set_option linter.unusedSimpArgs false
namespace Go.Tr
open Go Go.Dv
theorem reg_May_eq (l : List Rg) (h : l.length < 9223372036854775807) : reg_May l = some (regsB l) := by
  unfold reg_May
  rw [iter_first (inv := fun i => (l, (i : Int))) (n := l.length) (ok := regAt l) (good := true) (bad := false)]
  · unfold regsB
    cases (List.range l.length).all (regAt l) <;> rfl
  · intro i hi hok
    have e1 : ((i : Int) == (l.length : Int)) = false := by rw [beq_eq_false_iff_ne]; omega
    simp only [e1, cond_false, getI_D l i hi, Option.bind_some, prop_May_eq, stamp_Is_eq]
    simp only [regAt, Bool.and_eq_true, Bool.or_eq_true, decide_eq_true_eq] at hok
    obtain ⟨⟨h1, h2⟩, h3⟩ := hok
    simp only [h1, h2, cond_true]
    by_cases h0 : i = 0
    · subst h0
      simp [wrap_nat]
      rfl
    · have h00 : ((i : Int) == 0) = false := by rw [beq_eq_false_iff_ne]; omega
      have hw : IntKind.wrap .i64 ((i : Int) - 1) = ((i - 1 : Nat) : Int) := by rw [Go.Dv.wrap_small] <;> omega
      have h4 := h3.resolve_left h0
      simp only [h00, cond_false, hw, getI_D l (i - 1) (by omega), Option.bind_some, h4, decide_true, cond_true, wrap_nat (show i < 9223372036854775807 by omega)]
  · intro i hi hok
    have e1 : ((i : Int) == (l.length : Int)) = false := by rw [beq_eq_false_iff_ne]; omega
    simp only [e1, cond_false, getI_D l i hi, Option.bind_some, prop_May_eq, stamp_Is_eq]
    simp only [regAt] at hok
    cases h1 : prOk (l.getD i default).1 (l.getD i default).2.1 with
    | false => simp
    | true =>
      cases h2 : stOk (l.getD i default).2.2 with
      | false => simp
      | true =>
        rw [h1, h2] at hok
        by_cases h0 : i = 0
        · subst h0; simp at hok
        · have h00 : ((i : Int) == 0) = false := by rw [beq_eq_false_iff_ne]; omega
          have hw : IntKind.wrap .i64 ((i : Int) - 1) = ((i - 1 : Nat) : Int) := by rw [Go.Dv.wrap_small] <;> omega
          have h5 : ¬ (l.getD (i - 1) default).1 < (l.getD i default).1 := by
            simp only [h0, decide_false, Bool.false_or, Bool.true_and, Bool.and_true, decide_eq_false_iff_not] at hok; exact hok
          simp only [cond_true, h00, cond_false, hw, getI_D l (i - 1) (by omega), Option.bind_some, h5, decide_false]
  · simp
theorem shape_looks_eq (l : List Lk) (h : l.length < 9223372036854775807) (hr : ∀ q ∈ l, q.2.length < 9223372036854775807) : shape_looks l = some (looksB l) := by
  unfold shape_looks
  rw [iter_first (inv := fun i => (l, (i : Int))) (n := l.length) (ok := lookAt l) (good := true) (bad := false)]
  · unfold looksB
    cases (List.range l.length).all (lookAt l) <;> rfl
  · intro i hi hok
    have e1 : ((i : Int) == (l.length : Int)) = false := by rw [beq_eq_false_iff_ne]; omega
    have hrr := hr _ (getD_mem hi)
    simp only [e1, cond_false, getI_D l i hi, Option.bind_some, reg_May_eq _ hrr, stamp_Is_eq, stamp_Cmp_eq]
    simp only [lookAt, Bool.and_eq_true, Bool.or_eq_true, decide_eq_true_eq] at hok
    obtain ⟨⟨⟨h1, h2⟩, h3⟩, h4⟩ := hok
    have h2' : (0 : Int) < (((l.getD i default).2.length : Nat) : Int) := by
      simp only [Bool.not_eq_true', beq_eq_false_iff_ne] at h2; omega
    simp only [h1, h2', h3, decide_true, cond_true]
    by_cases h0 : i = 0
    · subst h0
      simp [wrap_nat]
      rfl
    · have h00 : ((i : Int) == 0) = false := by rw [beq_eq_false_iff_ne]; omega
      have hw : IntKind.wrap .i64 ((i : Int) - 1) = ((i - 1 : Nat) : Int) := by rw [Go.Dv.wrap_small] <;> omega
      have h5 := (scmp_neg _ _).2 (h4.resolve_left h0)
      simp only [h00, cond_false, hw, getI_D l (i - 1) (by omega), Option.bind_some, h5, decide_true, cond_true, wrap_nat (show i < 9223372036854775807 by omega)]
  · intro i hi hok
    have e1 : ((i : Int) == (l.length : Int)) = false := by rw [beq_eq_false_iff_ne]; omega
    have hrr := hr _ (getD_mem hi)
    simp only [e1, cond_false, getI_D l i hi, Option.bind_some, reg_May_eq _ hrr, stamp_Is_eq, stamp_Cmp_eq]
    simp only [lookAt] at hok
    cases h1 : stOk (l.getD i default).1 with
    | false => simp
    | true =>
      cases h2 : (l.getD i default).2.length == 0 with
      | true =>
        have : ¬ (0 : Int) < (((l.getD i default).2.length : Nat) : Int) := by
          simp only [beq_iff_eq] at h2; omega
        simp only [this, cond_true, decide_false, cond_false, Option.bind_some]
      | false =>
        have h2' : (0 : Int) < (((l.getD i default).2.length : Nat) : Int) := by
          simp only [beq_eq_false_iff_ne] at h2; omega
        cases h3 : regsB (l.getD i default).2 with
        | false => simp only [h2', decide_true, cond_true, cond_false, Option.bind_some]
        | true =>
          rw [h1, h2, h3] at hok
          by_cases h0 : i = 0
          · subst h0; simp at hok
          · have h00 : ((i : Int) == 0) = false := by rw [beq_eq_false_iff_ne]; omega
            have hw : IntKind.wrap .i64 ((i : Int) - 1) = ((i - 1 : Nat) : Int) := by rw [Go.Dv.wrap_small] <;> omega
            have h4 : ¬ slt (l.getD (i - 1) default).1 (l.getD i default).1 := by
              simp only [h0, decide_false, Bool.false_or, Bool.not_false, Bool.and_self, Bool.true_and, decide_eq_false_iff_not] at hok; exact hok
            have h5 : ¬ scmp (l.getD (i - 1) default).1 (l.getD i default).1 < 0 := mt (scmp_neg _ _).1 h4
            simp only [h2', decide_true, cond_true, h00, cond_false, hw, getI_D l (i - 1) (by omega), Option.bind_some, h5, decide_false]
  · simp
theorem IsShape_eq (s : Tree × List Lk) (h : SmS s) : shape_IsShape s = some (shpB s) := by
  have hm := h.m
  have hl := h.l
  unfold shape_IsShape shpB
  rw [May_eq s.1 (show s.1.2.length < 1000000 by omega) h.d]
  simp only [Option.bind_some, shape_looks_eq s.2 (by omega) (fun q hq => by have := h.r q hq; omega)]
  cases mayB s.1 <;> cases looksB s.2 <;> rfl
theorem shpB_iff {s : Tree × List Lk} : shpB s = true ↔ ∃ st : St, OkS st ∧ s = shp st := by
  unfold shpB
  rw [Bool.and_eq_true, looksB_iff]
  constructor
  · rintro ⟨h1, h2⟩
    obtain ⟨h3, h4⟩ := mayB_ok h2
    refine ⟨((s.1.2.map fun e => e.1), s.2), ⟨h3, h1⟩, ?_⟩
    show s = (made (s.1.2.map fun e => e.1), s.2)
    rw [← h4]
  · rintro ⟨st, h, rfl⟩
    exact ⟨h.l, mayB_made h.t⟩
theorem sms_shp {st : St} (h : OkS st) (h1 : st.1.length < 999000) (h2 : st.2.length < 999000) : SmS (shp st) := by
  have a := nds0 st.1
  have b := ens_len [] st.1
  refine ⟨?_, ?_, ok_deps (l := []) h.t, h2, fun q hq => ?_⟩
  · show (nds [] st.1).length < _; omega
  · show (ens [] st.1).length < _; omega
  · -- no more registers than there are properties
    have g := h.l.rsrt q hq
    have r := h.l.reg q hq
    have e : q.2.length ≤ 19 := by
      have hn : (q.2.map fun r => r.1.toNat).Nodup := by
        rw [List.nodup_iff_pairwise_ne, List.pairwise_map]
        refine List.Pairwise.imp_of_mem ?_ g
        intro x y hx hy hxy e
        have p1 := (r x hx).1
        have p2 := (r y hy).1
        simp only [prOk, prIs, Bool.and_eq_true, decide_eq_true_eq] at p1 p2
        have : x.1 < y.1 := hxy
        omega
      have := nodup_sub (b := List.range 19) hn fun n hn => by
        obtain ⟨x, hx, rfl⟩ := List.mem_map.1 hn
        have p1 := (r x hx).1
        simp only [prOk, prIs, Bool.and_eq_true, decide_eq_true_eq] at p1
        rw [List.mem_range]; omega
      simpa using this
    omega
end Go.Tr
set_option linter.unusedVariables false
set_option linter.unusedSimpArgs false
namespace Go.Tr
open Go Go.Dv
theorem shape_find_eq {l : List Lk} (id : Sp) (hs : GS lk slt l) (hl : Sm l) : shape_find (l, id) = some (((gpos lk slt l id : Nat) : Int), (glook lk l id).isSome) := by
  unfold shape_find slices_BinarySearchFunc_Look_Stamp
  have := bs_eq lin_slt id hs hl shape_find_1 (fun m => scmp m.1 id) (fun m => by simp [shape_find_1, stamp_Cmp_eq]) (fun m => scmp_neg _ _) (fun m => scmp_zero _ _)
  rw [show (((l, id).1, (((List.length (l, id).1 : Nat) : Int), ((0 : Int), (((List.length (l, id).1 : Nat) : Int), (l, id).2)))) : List Lk × (Int × (Int × (Int × Sp)))) = (l, ((l.length : Int), ((0 : Int), ((l.length : Int), id)))) from rfl]
  rw [this]
  rfl
theorem Regs_eq {s : Tree × List Lk} (id : Sp) (hs : GS lk slt s.2) (hl : Sm s.2) : shape_Regs (s, id) = some (regsAt s.2 id) := by
  unfold shape_Regs regsAt
  simp only [shape_find_eq id hs hl, Option.bind_some]
  cases h : glook lk s.2 id with
  | none => rfl
  | some q =>
    have hq := glook_some_pos lin_slt hs h
    simp only [Option.isSome_some, Bool.not_true, cond_false, getI_nat, hq, Option.bind_some]
end Go.Tr
