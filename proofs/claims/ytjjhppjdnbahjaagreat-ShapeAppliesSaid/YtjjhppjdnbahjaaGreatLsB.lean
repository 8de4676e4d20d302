/- A part of the proof: LsR, LsR2, LsA, LsL, LsLooks, LsSh. -/
import Derived.Test.YtjjhppjdnbahjaaGreatLsA
import Derived.Test.YtjjhppjdnbahjaaGreatTrD
import Derived.Test.YtjjhppjdnbahjaaGreatTrC
set_option linter.unusedVariables false
set_option linter.unusedSimpArgs false
namespace Go.Tr
open Go Go.Dv
section
variable {α κ : Type} {ky : α → κ} {lt : κ → κ → Prop}
theorem u5M [DecidableRel lt] (L : Lin lt) {l : List α} {k : κ} (hs : GS ky lt l) (hl : Sm l) {f : (List α × (Int × (Int × (Int × κ)))) → Option ((List α × (Int × (Int × (Int × κ)))) ⊕ (List α × (Int × (Int × κ))))}
    (hin : ∀ (i j : Nat) (m : α), i < j → j ≤ l.length → l[(i + j) / 2]? = some m → f (l, ((l.length : Int), ((i : Int), ((j : Int), k)))) = if lt (ky m) k then some (.inl (l, ((l.length : Int), ((((i + j) / 2 + 1 : Nat) : Int), ((j : Int), k))))) else some (.inl (l, ((l.length : Int), ((i : Int), ((((i + j) / 2 : Nat) : Int), k))))))
    (hout : ∀ i : Nat, f (l, ((l.length : Int), ((i : Int), ((i : Int), k)))) = some (.inr (l, ((l.length : Int), ((i : Int), k))))) :
    ∀ (d i j : Nat), j - i ≤ d → i ≤ gpos ky lt l k → gpos ky lt l k ≤ j → j ≤ l.length → iter f (l, ((l.length : Int), ((i : Int), ((j : Int), k)))) = some (l, ((l.length : Int), (((gpos ky lt l k : Nat) : Int), k)))
  | 0, i, j, h0, h1, h2, h3 => by
    obtain rfl : i = j := by omega
    obtain e : gpos ky lt l k = i := by omega
    rw [e]; exact u0H (hout i)
  | d + 1, i, j, h0, h1, h2, h3 => by
    by_cases hij : i < j
    · have hm : (i + j) / 2 < l.length := by omega
      have hme := List.getElem?_eq_getElem hm
      have hb := u3w (k := k) L hs hme
      have := hin i j _ hij h3 hme
      by_cases hc : lt (ky l[(i + j) / 2]) k
      · rw [if_pos hc] at this
        rw [u1A this]
        have := hb.2 hc
        exact u5M L hs hl hin hout d _ j (by omega) (by omega) h2 h3
      · rw [if_neg hc] at this
        rw [u1A this]
        have : ¬ (i + j) / 2 < gpos ky lt l k := fun h => hc (hb.1 h)
        exact u5M L hs hl hin hout d i _ (by omega) h1 (by omega) (by omega)
    · obtain rfl : i = j := by omega
      obtain e : gpos ky lt l k = i := by omega
      rw [e]; exact u0H (hout i)
theorem bs_eq [DecidableEq κ] [DecidableRel lt] (L : Lin lt) {l : List α} (k : κ) (hs : GS ky lt l) (hl : Sm l) (c : α × κ → Option Int) (cm : α → Int) (hc : ∀ m, c (m, k) = some (cm m)) (h1 : ∀ m, cm m < 0 ↔ lt (ky m) k) (h2 : ∀ m, cm m = 0 ↔ ky m = k) :
    (iter (σ := (List α × (Int × (Int × (Int × κ))))) (ρ := (List α × (Int × (Int × κ)))) (fun s =>
      bif (decide ((s.2.2.1 < s.2.2.2.1))) then (bif (decide ((1 < 0))) then none else
        ((getI s.1 (IntKind.wrap .i64 (Int.fdiv (IntKind.wrap .u64 (IntKind.wrap .i64 (s.2.2.1 + s.2.2.2.1))) (2 ^ (Min.min (Int.toNat 1) (IntKind.bits .u64))))))).bind fun x1 =>
        ((c (x1, s.2.2.2.2))).bind fun x2 =>
        bif (decide ((x2 < 0))) then some (.inl (s.1, (s.2.1, ((IntKind.wrap .i64 ((IntKind.wrap .i64 (Int.fdiv (IntKind.wrap .u64 (IntKind.wrap .i64 (s.2.2.1 + s.2.2.2.1))) (2 ^ (Min.min (Int.toNat 1) (IntKind.bits .u64))))) + 1)), s.2.2.2)))) else
        some (.inl (s.1, (s.2.1, (s.2.2.1, ((IntKind.wrap .i64 (Int.fdiv (IntKind.wrap .u64 (IntKind.wrap .i64 (s.2.2.1 + s.2.2.2.1))) (2 ^ (Min.min (Int.toNat 1) (IntKind.bits .u64))))), s.2.2.2.2)))))) else
      some (.inr (s.1, (s.2.1, (s.2.2.1, s.2.2.2.2))))) (l, (((List.length l) : Int), ((0 : Int), (((List.length l) : Int), k))))).bind (fun x1 =>
  (bif (decide ((x1.2.2.1 < x1.2.1))) then (((getI x1.1 x1.2.2.1)).bind fun x2 =>
      ((c (x2, x1.2.2.2))).bind fun x3 =>
      some (x1.2.2.1, (x3 == 0))) else
    some (x1.2.2.1, false)).bind fun x2 =>
  some x2) = some (((gpos ky lt l k : Nat) : Int), (glook ky l k).isSome) := by
  have hl' : l.length < 1000000 := hl
  have hp := u5L (ky := ky) (lt := lt) l k
  rw [show ((l, (((List.length l : Nat) : Int), ((0 : Int), (((List.length l : Nat) : Int), k)))) : List α × (Int × (Int × (Int × κ)))) = (l, ((l.length : Int), (((0 : Nat) : Int), ((l.length : Int), k)))) from rfl,
    u5M L hs hl ?_ ?_ l.length 0 l.length (by omega) (by omega) hp (Nat.le_refl _)]
  · simp only [Option.bind_some]
    rw [glook_pos L hs]
    by_cases h : gpos ky lt l k < l.length
    · have h' : ((gpos ky lt l k : Nat) : Int) < (l.length : Int) := by omega
      simp only [h', decide_true, cond_true, getI_lt l _ h, Option.bind_some, hc, List.getElem?_eq_getElem h]
      by_cases e : ky (l[gpos ky lt l k]) = k
      · have : cm (l[gpos ky lt l k]) = 0 := (h2 _).2 e
        simp [e, this]
      · have : ¬ cm (l[gpos ky lt l k]) = 0 := fun h => e ((h2 _).1 h)
        simp [e, this]
    · have h' : ¬ ((gpos ky lt l k : Nat) : Int) < (l.length : Int) := by omega
      simp only [h', decide_false, cond_false, Option.bind_some, List.getElem?_eq_none (Nat.le_of_not_lt h)]
      rfl
  · intro i j m hij hj hm
    have e1 : (i : Int) < (j : Int) := by omega
    have e2 : ¬ (1 < 0) := by omega
    simp only [e1, decide_true, cond_true, e2, decide_false, cond_false]
    rw [mid_eq (by omega), u0p, hm]
    simp only [Option.bind_some, hc]
    rw [u04 (by omega)]
    by_cases hc : lt (ky m) k
    · have := (h1 m).2 hc
      simp [hc, this]
    · have : ¬ cm m < 0 := fun h => hc ((h1 m).1 h)
      simp only [hc, this, decide_false, cond_false, if_false]
  · intro i
    simp
theorem gs_of (L : Lin lt) [Inhabited α] {l : List α} (h : ∀ i, i + 1 < l.length → lt (ky (l.getD i default)) (ky (l.getD (i + 1) default))) : GS ky lt l := by
  unfold GS
  rw [List.pairwise_iff_getElem]
  intro i j hi hj hij
  have key : ∀ d, i + d + 1 < l.length → lt (ky (l.getD i default)) (ky (l.getD (i + d + 1) default)) := by
    intro d
    induction d with
    | zero => intro hd; exact h i hd
    | succ d ih =>
      intro hd
      exact L.trans (ih (by omega)) (by have := h (i + d + 1) (by omega); rwa [show i + d + 1 + 1 = i + (d + 1) + 1 by omega] at this)
  have := key (j - i - 1) (by omega)
  rw [show i + (j - i - 1) + 1 = j by omega] at this
  simpa [List.getD_eq_getElem?_getD, hi, hj] using this
theorem gs_at [Inhabited α] {l : List α} (h : GS ky lt l) {i : Nat} (hi : i < l.length) (h0 : i ≠ 0) : lt (ky (l.getD (i - 1) default)) (ky (l.getD i default)) := by
  unfold GS at h
  rw [List.pairwise_iff_getElem] at h
  have := h (i - 1) i (by omega) hi (by omega)
  simpa [List.getD_eq_getElem?_getD, hi, show i - 1 < l.length by omega] using this
end
def regAt (l : List Rg) (i : Nat) : Bool := prOk (l.getD i default).1 (l.getD i default).2.1 && stOk (l.getD i default).2.2 && (decide (i = 0) || decide ((l.getD (i - 1) default).1 < (l.getD i default).1))
def regsB (l : List Rg) : Bool := (List.range l.length).all (regAt l)
theorem regsB_iff {l : List Rg} : regsB l = true ↔ GS rk ilt l ∧ ∀ r ∈ l, prOk r.1 r.2.1 = true ∧ stOk r.2.2 = true := by
  unfold regsB
  rw [List.all_eq_true]
  constructor
  · intro h
    have at_ : ∀ i, i < l.length → regAt l i = true := fun i hi => h i (List.mem_range.2 hi)
    simp only [regAt, Bool.and_eq_true, Bool.or_eq_true, decide_eq_true_eq] at at_
    refine ⟨gs_of u3F fun i hi => ?_, fun r hr => ?_⟩
    · have := (at_ (i + 1) hi).2.resolve_left (by omega)
      rw [Nat.add_sub_cancel] at this
      exact this
    · obtain ⟨i, hi, rfl⟩ := List.mem_iff_getElem.1 hr
      have := (at_ i hi).1
      simpa [List.getD_eq_getElem?_getD, hi] using this
  · rintro ⟨h1, h2⟩ i hi
    have hi := List.mem_range.1 hi
    have hm := h2 _ (u0j hi)
    simp only [regAt, Bool.and_eq_true, Bool.or_eq_true, decide_eq_true_eq]
    refine ⟨hm, ?_⟩
    by_cases h0 : i = 0
    · exact .inl h0
    · exact .inr (gs_at h1 hi h0)
theorem num17_eq (e : Int) : u0t e = e := rfl
theorem u6C (l : List Rg) (h : l.length < 9223372036854775807) : u20 l = some (regsB l) := by
  unfold u20
  rw [u16 (inv := fun i => (l, (i : Int))) (n := l.length) (ok := regAt l) (good := .inl ()) (bad := .inr false)]
  · unfold regsB
    cases (List.range l.length).all (regAt l) <;> rfl
  · intro i hi hok
    have e1 : (i : Int) < (l.length : Int) := by omega
    simp only [e1, decide_true, cond_true, u09 l i hi, Option.bind_some, u3Y, u1U]
    simp only [regAt, Bool.and_eq_true, Bool.or_eq_true, decide_eq_true_eq] at hok
    obtain ⟨⟨h1, h2⟩, h3⟩ := hok
    have hck : (ckP (l.getD i default).1 (l.getD i default).2.1 != 0) = false := by rw [bne, ckP_ok, h1]; rfl
    simp only [hck, cond_false, h2, Bool.not_true]
    by_cases h0 : i = 0
    · subst h0
      simp [u04]
      rfl
    · have h00 : (0 : Int) < (i : Int) := by omega
      have hw : IntKind.wrap .i64 ((i : Int) - 1) = ((i - 1 : Nat) : Int) := by rw [Go.Dv.wrap_small] <;> omega
      have h4 := h3.resolve_left h0
      have h5 : ¬ (l.getD i default).1 ≤ (l.getD (i - 1) default).1 := by omega
      simp only [h00, decide_true, cond_true, hw, u09 l (i - 1) (by omega), Option.bind_some, h5, decide_false, cond_false, u04 (show i < 9223372036854775807 by omega)]
  · intro i hi hok
    have e1 : (i : Int) < (l.length : Int) := by omega
    simp only [e1, decide_true, cond_true, u09 l i hi, Option.bind_some, u3Y, u1U]
    have hck : (ckP (l.getD i default).1 (l.getD i default).2.1 != 0) = !prOk (l.getD i default).1 (l.getD i default).2.1 := by rw [bne, ckP_ok]
    simp only [hck]
    simp only [regAt] at hok
    cases h1 : prOk (l.getD i default).1 (l.getD i default).2.1 with
    | false => simp
    | true =>
      cases h2 : stOk (l.getD i default).2.2 with
      | false => simp
      | true =>
        rw [h1, h2] at hok
        by_cases h0 : i = 0
        · subst h0; simp at hok
        · have h00 : (0 : Int) < (i : Int) := by omega
          have hw : IntKind.wrap .i64 ((i : Int) - 1) = ((i - 1 : Nat) : Int) := by rw [Go.Dv.wrap_small] <;> omega
          have h5 : (l.getD i default).1 ≤ (l.getD (i - 1) default).1 := by
            simp only [h0, decide_false, Bool.false_or, Bool.true_and, Bool.and_true, decide_eq_false_iff_not] at hok; omega
          simp only [h00, decide_true, cond_true, hw, u09 l (i - 1) (by omega), Option.bind_some, h5, Bool.not_true, cond_false]
  · simp
def u3O (l : List Lk) (i : Nat) : Bool := stOk (l.getD i default).1 && !((l.getD i default).2.length == 0) && regsB (l.getD i default).2 && (decide (i = 0) || decide (slt (l.getD (i - 1) default).1 (l.getD i default).1))
def looksB (l : List Lk) : Bool := (List.range l.length).all (u3O l)
theorem looksB_iff {l : List Lk} : looksB l = true ↔ OkL l := by
  unfold looksB
  rw [List.all_eq_true]
  constructor
  · intro h
    have at_ : ∀ i, i < l.length → u3O l i = true := fun i hi => h i (List.mem_range.2 hi)
    simp only [u3O, Bool.and_eq_true, Bool.or_eq_true, decide_eq_true_eq, Bool.not_eq_true', beq_eq_false_iff_ne, regsB_iff] at at_
    have am : ∀ q ∈ l, stOk q.1 = true ∧ q.2.length ≠ 0 ∧ (GS rk ilt q.2 ∧ ∀ r ∈ q.2, prOk r.1 r.2.1 = true ∧ stOk r.2.2 = true) := by
      intro q hq
      obtain ⟨i, hi, rfl⟩ := List.mem_iff_getElem.1 hq
      have := (at_ i hi).1
      have e : l.getD i default = l[i] := by simp [List.getD_eq_getElem?_getD, hi]
      rw [e] at this
      exact ⟨this.1.1, this.1.2, this.2⟩
    exact ⟨gs_of u3E fun i hi => by have := (at_ (i + 1) hi).2.resolve_left (by omega); rw [Nat.add_sub_cancel] at this; exact this, fun q hq => (am q hq).1, fun q hq e => (am q hq).2.1 (by rw [e]; rfl), fun q hq => (am q hq).2.2.1, fun q hq => (am q hq).2.2.2⟩
  · intro h i hi
    have hi := List.mem_range.1 hi
    have hm : l.getD i default ∈ l := u0j hi
    simp only [u3O, Bool.and_eq_true, Bool.or_eq_true, decide_eq_true_eq, Bool.not_eq_true', beq_eq_false_iff_ne, regsB_iff]
    refine ⟨⟨⟨h.id _ hm, fun e => h.some _ hm (List.length_eq_zero_iff.1 e)⟩, h.rsrt _ hm, h.reg _ hm⟩, ?_⟩
    by_cases h0 : i = 0
    · exact .inl h0
    · exact .inr (gs_at h.srt hi h0)
noncomputable def shpB (s : Tree × List Lk) : Bool := looksB s.2 && mayB s.1
structure SmS (s : Tree × List Lk) : Prop where
  n : s.1.1.length < 999000
  m : s.1.2.length < 999000
  d : ∀ e ∈ s.1.2, Sm e.1.2.2.1
  l : s.2.length < 999000
  r : ∀ q ∈ s.2, q.2.length < 999000
theorem ref_Shape_eq (s : Tree × List Lk) (h : SmS s) : u1J s = some (shpB s) := by
  have hl := h.l
  unfold u1J
  have ht := rTree_eq s.1 (by have := h.n; omega) (by have := h.m; omega) h.d
  rw [u16 (inv := fun i => ((i : Int), s)) (n := s.2.length) (ok := u3O s.2) (good := .inl s) (bad := .inr false)]
  · unfold shpB looksB
    cases (List.range s.2.length).all (u3O s.2)
    · rfl
    · simp only [if_true, Option.bind_some, ht, Bool.true_and]
  · intro i hi hok
    have e1 : (i : Int) < (s.2.length : Int) := by omega
    have hr := h.r _ (u0j hi)
    simp only [e1, decide_true, cond_true, u09 s.2 i hi, Option.bind_some, u1U, u6C _ (show (s.2.getD i default).2.length < 9223372036854775807 by omega), u0y]
    simp only [u3O, Bool.and_eq_true, Bool.or_eq_true, decide_eq_true_eq] at hok
    obtain ⟨⟨⟨h1, h2⟩, h3⟩, h4⟩ := hok
    have h2' : ((((s.2.getD i default).2.length : Nat) : Int) == 0) = false := by
      simp only [Bool.not_eq_true', beq_eq_false_iff_ne] at h2 ⊢; omega
    simp only [h1, h2', h3, Bool.not_true, cond_false]
    by_cases h0 : i = 0
    · subst h0
      simp [u04]
      rfl
    · have h00 : (0 : Int) < (i : Int) := by omega
      have hw : IntKind.wrap .i64 ((i : Int) - 1) = ((i - 1 : Nat) : Int) := by rw [Go.Dv.wrap_small] <;> omega
      have h5 : ¬ (0 : Int) ≤ scmp (s.2.getD (i - 1) default).1 (s.2.getD i default).1 := by
        have := (u21 _ _).2 (h4.resolve_left h0); omega
      simp only [h00, decide_true, cond_true, hw, u09 s.2 (i - 1) (by omega), Option.bind_some, h5, decide_false, cond_false, u04 (show i < 9223372036854775807 by omega)]
  · intro i hi hok
    have e1 : (i : Int) < (s.2.length : Int) := by omega
    have hr := h.r _ (u0j hi)
    simp only [e1, decide_true, cond_true, u09 s.2 i hi, Option.bind_some, u1U, u6C _ (show (s.2.getD i default).2.length < 9223372036854775807 by omega), u0y]
    simp only [u3O] at hok
    cases h1 : stOk (s.2.getD i default).1 with
    | false => simp
    | true =>
      cases h2 : (s.2.getD i default).2.length == 0 with
      | true =>
        have : ((((s.2.getD i default).2.length : Nat) : Int) == 0) = true := by
          simp only [beq_iff_eq] at h2 ⊢; omega
        simp only [this, Bool.not_true, cond_false, cond_true, Option.bind_some]
      | false =>
        have h2' : ((((s.2.getD i default).2.length : Nat) : Int) == 0) = false := by
          simp only [beq_eq_false_iff_ne] at h2 ⊢; omega
        cases h3 : regsB (s.2.getD i default).2 with
        | false => simp only [h2', Bool.not_true, Bool.not_false, cond_false, cond_true, Option.bind_some]
        | true =>
          rw [h1, h2, h3] at hok
          by_cases h0 : i = 0
          · subst h0; simp at hok
          · have h00 : (0 : Int) < (i : Int) := by omega
            have hw : IntKind.wrap .i64 ((i : Int) - 1) = ((i - 1 : Nat) : Int) := by rw [Go.Dv.wrap_small] <;> omega
            have h4 : ¬ slt (s.2.getD (i - 1) default).1 (s.2.getD i default).1 := by
              simp only [h0, decide_false, Bool.false_or, Bool.not_false, Bool.and_self, Bool.true_and, decide_eq_false_iff_not] at hok; exact hok
            have h5 : (0 : Int) ≤ scmp (s.2.getD (i - 1) default).1 (s.2.getD i default).1 := by
              have := mt (u21 _ _).1 h4; omega
            simp only [h2', h00, decide_true, cond_true, hw, u09 s.2 (i - 1) (by omega), Option.bind_some, h5, Bool.not_true, cond_false]
  · simp
end Go.Tr
set_option linter.unusedVariables false
set_option linter.unusedSimpArgs false
namespace Go.Tr
open Go Go.Dv
theorem reg_May_eq (l : List Rg) (h : l.length < 9223372036854775807) : u6B l = some (regsB l) := by
  unfold u6B
  rw [u16 (inv := fun i => (l, (i : Int))) (n := l.length) (ok := regAt l) (good := true) (bad := false)]
  · unfold regsB
    cases (List.range l.length).all (regAt l) <;> rfl
  · intro i hi hok
    have e1 : ((i : Int) == (l.length : Int)) = false := by rw [beq_eq_false_iff_ne]; omega
    simp only [e1, cond_false, u09 l i hi, Option.bind_some, u4C, u2d]
    simp only [regAt, Bool.and_eq_true, Bool.or_eq_true, decide_eq_true_eq] at hok
    obtain ⟨⟨h1, h2⟩, h3⟩ := hok
    simp only [h1, h2, cond_true]
    by_cases h0 : i = 0
    · subst h0
      simp [u04]
      rfl
    · have h00 : ((i : Int) == 0) = false := by rw [beq_eq_false_iff_ne]; omega
      have hw : IntKind.wrap .i64 ((i : Int) - 1) = ((i - 1 : Nat) : Int) := by rw [Go.Dv.wrap_small] <;> omega
      have h4 := h3.resolve_left h0
      simp only [h00, cond_false, hw, u09 l (i - 1) (by omega), Option.bind_some, h4, decide_true, cond_true, u04 (show i < 9223372036854775807 by omega)]
  · intro i hi hok
    have e1 : ((i : Int) == (l.length : Int)) = false := by rw [beq_eq_false_iff_ne]; omega
    simp only [e1, cond_false, u09 l i hi, Option.bind_some, u4C, u2d]
    simp only [regAt] at hok
    cases h1 : prOk (l.getD i default).1 (l.getD i default).2.1 with
    | false => simp
    | true =>
      cases h2 : stOk (l.getD i default).2.2 with
      | false => simp
      | true =>
        rw [h1, h2] at hok
        by_cases h0 : i = 0
        · subst h0; simp at hok
        · have h00 : ((i : Int) == 0) = false := by rw [beq_eq_false_iff_ne]; omega
          have hw : IntKind.wrap .i64 ((i : Int) - 1) = ((i - 1 : Nat) : Int) := by rw [Go.Dv.wrap_small] <;> omega
          have h5 : ¬ (l.getD (i - 1) default).1 < (l.getD i default).1 := by
            simp only [h0, decide_false, Bool.false_or, Bool.true_and, Bool.and_true, decide_eq_false_iff_not] at hok; exact hok
          simp only [cond_true, h00, cond_false, hw, u09 l (i - 1) (by omega), Option.bind_some, h5, decide_false]
  · simp
theorem shape_looks_eq (l : List Lk) (h : l.length < 9223372036854775807) (hr : ∀ q ∈ l, q.2.length < 9223372036854775807) : u36 l = some (looksB l) := by
  unfold u36
  rw [u16 (inv := fun i => (l, (i : Int))) (n := l.length) (ok := u3O l) (good := true) (bad := false)]
  · unfold looksB
    cases (List.range l.length).all (u3O l) <;> rfl
  · intro i hi hok
    have e1 : ((i : Int) == (l.length : Int)) = false := by rw [beq_eq_false_iff_ne]; omega
    have hrr := hr _ (u0j hi)
    simp only [e1, cond_false, u09 l i hi, Option.bind_some, reg_May_eq _ hrr, u2d, u1R]
    simp only [u3O, Bool.and_eq_true, Bool.or_eq_true, decide_eq_true_eq] at hok
    obtain ⟨⟨⟨h1, h2⟩, h3⟩, h4⟩ := hok
    have h2' : (0 : Int) < (((l.getD i default).2.length : Nat) : Int) := by
      simp only [Bool.not_eq_true', beq_eq_false_iff_ne] at h2; omega
    simp only [h1, h2', h3, decide_true, cond_true]
    by_cases h0 : i = 0
    · subst h0
      simp [u04]
      rfl
    · have h00 : ((i : Int) == 0) = false := by rw [beq_eq_false_iff_ne]; omega
      have hw : IntKind.wrap .i64 ((i : Int) - 1) = ((i - 1 : Nat) : Int) := by rw [Go.Dv.wrap_small] <;> omega
      have h5 := (u21 _ _).2 (h4.resolve_left h0)
      simp only [h00, cond_false, hw, u09 l (i - 1) (by omega), Option.bind_some, h5, decide_true, cond_true, u04 (show i < 9223372036854775807 by omega)]
  · intro i hi hok
    have e1 : ((i : Int) == (l.length : Int)) = false := by rw [beq_eq_false_iff_ne]; omega
    have hrr := hr _ (u0j hi)
    simp only [e1, cond_false, u09 l i hi, Option.bind_some, reg_May_eq _ hrr, u2d, u1R]
    simp only [u3O] at hok
    cases h1 : stOk (l.getD i default).1 with
    | false => simp
    | true =>
      cases h2 : (l.getD i default).2.length == 0 with
      | true =>
        have : ¬ (0 : Int) < (((l.getD i default).2.length : Nat) : Int) := by
          simp only [beq_iff_eq] at h2; omega
        simp only [this, cond_true, decide_false, cond_false, Option.bind_some]
      | false =>
        have h2' : (0 : Int) < (((l.getD i default).2.length : Nat) : Int) := by
          simp only [beq_eq_false_iff_ne] at h2; omega
        cases h3 : regsB (l.getD i default).2 with
        | false => simp only [h2', decide_true, cond_true, cond_false, Option.bind_some]
        | true =>
          rw [h1, h2, h3] at hok
          by_cases h0 : i = 0
          · subst h0; simp at hok
          · have h00 : ((i : Int) == 0) = false := by rw [beq_eq_false_iff_ne]; omega
            have hw : IntKind.wrap .i64 ((i : Int) - 1) = ((i - 1 : Nat) : Int) := by rw [Go.Dv.wrap_small] <;> omega
            have h4 : ¬ slt (l.getD (i - 1) default).1 (l.getD i default).1 := by
              simp only [h0, decide_false, Bool.false_or, Bool.not_false, Bool.and_self, Bool.true_and, decide_eq_false_iff_not] at hok; exact hok
            have h5 : ¬ scmp (l.getD (i - 1) default).1 (l.getD i default).1 < 0 := mt (u21 _ _).1 h4
            simp only [h2', decide_true, cond_true, h00, cond_false, hw, u09 l (i - 1) (by omega), Option.bind_some, h5, decide_false]
  · simp
theorem u3A (s : Tree × List Lk) (h : SmS s) : u1a s = some (shpB s) := by
  have hm := h.m
  have hl := h.l
  unfold u1a shpB
  rw [May_eq s.1 (show s.1.2.length < 1000000 by omega) h.d]
  simp only [Option.bind_some, shape_looks_eq s.2 (by omega) (fun q hq => by have := h.r q hq; omega)]
  cases mayB s.1 <;> cases looksB s.2 <;> rfl
theorem u69 {s : Tree × List Lk} : shpB s = true ↔ ∃ st : St, OkS st ∧ s = shp st := by
  unfold shpB
  rw [Bool.and_eq_true, looksB_iff]
  constructor
  · rintro ⟨h1, h2⟩
    obtain ⟨h3, h4⟩ := mayB_ok h2
    refine ⟨((s.1.2.map fun e => e.1), s.2), ⟨h3, h1⟩, ?_⟩
    show s = (made (s.1.2.map fun e => e.1), s.2)
    rw [← h4]
  · rintro ⟨st, h, rfl⟩
    exact ⟨h.l, mayB_made h.t⟩
theorem u5r {st : St} (h : OkS st) (h1 : st.1.length < 999000) (h2 : st.2.length < 999000) : SmS (shp st) := by
  have a := nds0 st.1
  have b := u2i [] st.1
  refine ⟨?_, ?_, ok_deps (l := []) h.t, h2, fun q hq => ?_⟩
  · show (nds [] st.1).length < _; omega
  · show (ens [] st.1).length < _; omega
  · -- no more registers than there are properties
    have g := h.l.rsrt q hq
    have r := h.l.reg q hq
    have e : q.2.length ≤ 19 := by
      have hn : (q.2.map fun r => r.1.toNat).Nodup := by
        rw [List.nodup_iff_pairwise_ne, List.pairwise_map]
        refine List.Pairwise.imp_of_mem ?_ g
        intro x y hx hy hxy e
        have p1 := (r x hx).1
        have p2 := (r y hy).1
        simp only [prOk, prIs, Bool.and_eq_true, decide_eq_true_eq] at p1 p2
        have : x.1 < y.1 := hxy
        omega
      have := u6K (b := List.range 19) hn fun n hn => by
        obtain ⟨x, hx, rfl⟩ := List.mem_map.1 hn
        have p1 := (r x hx).1
        simp only [prOk, prIs, Bool.and_eq_true, decide_eq_true_eq] at p1
        rw [List.mem_range]; omega
      simpa using this
    omega
end Go.Tr
set_option linter.unusedVariables false
set_option linter.unusedSimpArgs false
namespace Go.Tr
open Go Go.Dv
theorem gfind2 {α κ σ ρ : Type} {ky : α → κ} {lt : κ → κ → Prop} [DecidableRel lt] (L : Lin lt) {l : List α} {k : κ} (hs : GS ky lt l) {f : σ → Option (σ ⊕ ρ)} (inv : Nat → Nat → σ) (out : Nat → ρ)
    (hin : ∀ (i j : Nat) (m : α), i < j → j ≤ l.length → l[(i + j) / 2]? = some m → f (inv i j) = if lt (ky m) k then some (.inl (inv ((i + j) / 2 + 1) j)) else some (.inl (inv i ((i + j) / 2))))
    (hout : ∀ i : Nat, f (inv i i) = some (.inr (out i))) :
    ∀ (d i j : Nat), j - i ≤ d → i ≤ gpos ky lt l k → gpos ky lt l k ≤ j → j ≤ l.length → iter f (inv i j) = some (out (gpos ky lt l k))
  | 0, i, j, h0, h1, h2, h3 => by
    obtain rfl : i = j := by omega
    obtain e : gpos ky lt l k = i := by omega
    rw [e]; exact u0H (hout i)
  | d + 1, i, j, h0, h1, h2, h3 => by
    by_cases hij : i < j
    · have hm : (i + j) / 2 < l.length := by omega
      have hme := List.getElem?_eq_getElem hm
      have hb := u3w (k := k) L hs hme
      have := hin i j _ hij h3 hme
      by_cases hc : lt (ky l[(i + j) / 2]) k
      · rw [if_pos hc] at this
        rw [u1A this]
        have := hb.2 hc
        exact gfind2 L hs inv out hin hout d _ j (by omega) (by omega) h2 h3
      · rw [if_neg hc] at this
        rw [u1A this]
        have : ¬ (i + j) / 2 < gpos ky lt l k := fun h => hc (hb.1 h)
        exact gfind2 L hs inv out hin hout d i _ (by omega) h1 (by omega) (by omega)
    · obtain rfl : i = j := by omega
      obtain e : gpos ky lt l k = i := by omega
      rw [e]; exact u0H (hout i)
theorem cmpI_neg (a b : Int) : cmpI a b < 0 ↔ a < b := by
  unfold cmpI
  by_cases h : a < b
  · simp [h]
  · by_cases k : b < a <;> simp [h, k]
theorem cmpI_zero (a b : Int) : cmpI a b = 0 ↔ a = b := by
  unfold cmpI
  by_cases h : a < b
  · simp [h]; omega
  · by_cases k : b < a
    · simp [h, k]; omega
    · simp [h, k]; omega
theorem reg_find_eq {l : List Rg} (p : Int) (hs : GS rk ilt l) (hl : Sm l) : u4Y (l, p) = some (((gpos rk ilt l p : Nat) : Int), (glook rk l p).isSome) := by
  have hl' : l.length < 1000000 := hl
  have hp := u5L (ky := rk) (lt := ilt) l p
  unfold u4Y u0o
  rw [show (((l, p).1, ((l, p).2, (((List.length (l, p).1 : Nat) : Int), ((0 : Int), ((List.length (l, p).1 : Nat) : Int))))) : List Rg × (Int × (Int × (Int × Int)))) = (fun (i j : Nat) => (l, (p, ((l.length : Int), ((i : Int), (j : Int)))))) 0 l.length from rfl,
    gfind2 (k := p) u3F hs (fun (i j : Nat) => (l, (p, ((l.length : Int), ((i : Int), (j : Int)))))) (fun i => (l, (p, ((l.length : Int), (i : Int))))) ?_ ?_ l.length 0 l.length (by omega) (by omega) hp (Nat.le_refl _)]
  · simp only [Option.bind_some]
    rw [glook_pos u3F hs]
    by_cases h : gpos rk ilt l p < l.length
    · have h' : ((gpos rk ilt l p : Nat) : Int) < (l.length : Int) := by omega
      simp only [h', decide_true, cond_true, getI_lt l _ h, Option.bind_some, u2H, u2z, List.getElem?_eq_getElem h]
      by_cases e : rk (l[gpos rk ilt l p]) = p
      · have : cmpI (l[gpos rk ilt l p]).1 p = 0 := (cmpI_zero _ _).2 e
        simp [e, this]
      · have : ¬ cmpI (l[gpos rk ilt l p]).1 p = 0 := fun h => e ((cmpI_zero _ _).1 h)
        simp [e, this]
    · have h' : ¬ ((gpos rk ilt l p : Nat) : Int) < (l.length : Int) := by omega
      simp only [h', decide_false, cond_false, Option.bind_some, List.getElem?_eq_none (Nat.le_of_not_lt h)]
      rfl
  · intro i j m hij hj hm
    have e1 : (i : Int) < (j : Int) := by omega
    have e2 : ¬ (1 < 0) := by omega
    simp only [e1, decide_true, cond_true, e2, decide_false, cond_false]
    rw [mid_eq (by omega), u0p, hm]
    simp only [Option.bind_some, u2H, u2z]
    rw [u04 (by omega)]
    by_cases hc : ilt (rk m) p
    · have : cmpI m.1 p < 0 := (cmpI_neg _ _).2 hc
      simp [hc, this]
    · have : ¬ cmpI m.1 p < 0 := fun h => hc ((cmpI_neg _ _).1 h)
      simp only [hc, this, decide_false, cond_false, if_false]
  · intro i
    simp
theorem shape_find_eq {l : List Lk} (id : Sp) (hs : GS lk slt l) (hl : Sm l) : u3q (l, id) = some (((gpos lk slt l id : Nat) : Int), (glook lk l id).isSome) := by
  unfold u3q u0h
  have := bs_eq u3E id hs hl u2j (fun m => scmp m.1 id) (fun m => by simp [u2j, u1R]) (fun m => u21 _ _) (fun m => u6w _ _)
  rw [show (((l, id).1, (((List.length (l, id).1 : Nat) : Int), ((0 : Int), (((List.length (l, id).1 : Nat) : Int), (l, id).2)))) : List Lk × (Int × (Int × (Int × Sp)))) = (l, ((l.length : Int), ((0 : Int), ((l.length : Int), id)))) from rfl]
  rw [this]
  rfl
theorem reg_Put_eq {l : List Rg} (x : Rg) (hs : GS rk ilt l) (hl : l.length < 999000) : u5u (l, x) = some (putR l x) := by
  have hsm : Sm l := show l.length < 1000000 by omega
  have hp := u5L (ky := rk) (lt := ilt) l x.1
  unfold u5u putR
  simp only [u03 (show l.length ≤ 1000000 by omega) (show 32 ≤ 1000000 by decide), cond_true, reg_find_eq x.1 hs hsm, Option.bind_some, rk]
  cases h : glook rk l x.1 with
  | none =>
    have hins := u59 (ky := rk) (lt := ilt) (n := x) (l := l) h
    have e1 : (0 : Int) ≤ ((gpos rk ilt l x.1 : Nat) : Int) := by omega
    have e2 : ((gpos rk ilt l x.1 : Nat) : Int) ≤ (l.length : Int) := by omega
    simp only [Option.isSome_none, Bool.not_false, cond_true, e1, e2, decide_true, Bool.and_self, u03 (show l.length + 1 ≤ 1000000 by omega) (show 32 ≤ 1000000 by decide), Int.toNat_natCast, hins]
    rfl
  | some q =>
    have hq := u2O u3F hs h
    have hset := u6h (n := x) u3F hs h
    simp only [Option.isSome_some, Bool.not_true, cond_false, u0p, hq, Option.bind_some, u1R, Int.toNat_natCast]
    by_cases c : slt q.2.2 x.2.2
    · have := (u21 _ _).2 c
      simp only [this, decide_true, cond_true, if_pos c, hset]
      rfl
    · have := mt (u21 _ _).1 c
      simp only [this, decide_false, cond_false, if_neg c]
theorem u5T {s : Tree × List Lk} (h : SmS s) : u3s s = some (s.1.1, s.1.2, s.2) := by
  have hl := h.l
  unfold u3s
  simp only [Own_eq s.1 (show s.1.1.length < 1000000 by have := h.n; omega) (show s.1.2.length < 1000000 by have := h.m; omega) h.d, Option.bind_some, u03 (show s.2.length ≤ 1000000 by omega) (show 40 ≤ 1000000 by decide), cond_true]
  rw [u0W (inv := fun i : Nat => ((s.2.length : Int), ((i : Int), (s.1.1, (s.1.2, (mk_ s.2 i, ((([], []) : Tree), ([] : List Lk)))))))) (k := s.2.length) (r := (s.1.1, (s.1.2, (mk_ s.2 s.2.length, ((([], []) : Tree), ([] : List Lk)))))) ?_ ?_ (by rw [mk_0]; rfl)]
  · simp only [Option.bind_some, mk_all, mk_un, cond_true]
  · intro i hi
    have e1 : (i : Int) < (s.2.length : Int) := by omega
    have hr := h.r _ (u0j hi)
    have hset := mk_set hi
    simp only [e1, decide_true, cond_true, cond_false, mk_get hi, Option.bind_some, u03 (show (s.2.getD i default).2.length ≤ 1000000 by omega) (show 32 ≤ 1000000 by decide), u04 (show i < 9223372036854775807 by omega), Int.toNat_natCast]
    rw [show (true, ((s.2.getD i default).1, (s.2.getD i default).2)) = (true, s.2.getD i default) from rfl, hset]
  · simp only [Int.lt_irrefl, decide_false, cond_false]
theorem u5S {s : St} {o : Op'} (h : OkS s) (ho : opOk o = true) (h1 : s.1.length < 998000) (h2 : s.2.length < 998000) :
    u2S ((made s.1).1, ((made s.1).2, (s.2, o))) = some (if clash s o = true then ([], ([], ([], 4))) else ((made (putS s o).1).1, ((made (putS s o).1).2, ((putS s o).2, 0)))) := by
  unfold u2S clash putS
  cases hk : o.2.2.2.1 == 1 with
  | true =>
    have := Put_eq h.t (show mvOk o = true by rw [mv_op hk]; exact ho) (by omega)
    simp only [cond_true, this, Option.bind_some, Bool.true_and, if_true]
    cases hasO s.1 o.1 <;> rfl
  | false =>
    have hsm : Sm s.2 := show s.2.length < 1000000 by omega
    have hp := u5L (ky := lk) (lt := slt) s.2 o.2.2.2.2.1
    have hra := regsAt_ok h.l o.2.2.2.2.1
    have hrl : (u2B s.2 o.2.2.2.2.1).length < 999000 := by
      unfold u2B
      split
      · decide
      · rename_i q hq; exact (u5r h (by omega) (by omega)).r q (u2y hq).2
    simp only [cond_false, shape_find_eq o.2.2.2.2.1 h.l.srt hsm, Option.bind_some, Bool.false_and, Bool.false_eq_true, if_false]
    have hput : ∀ l : List Rg, (l = u2B s.2 o.2.2.2.2.1) → u5u (l, (o.2.2.2.2.2.2.2.1, o.2.2.2.2.2.2.2.2, o.1)) = some (putR (u2B s.2 (u2a o)) (regOf o)) := fun l e => by
      subst e; exact reg_Put_eq _ hra.1 hrl
    cases hq : glook lk s.2 o.2.2.2.2.1 with
    | none =>
      have hR : u2B s.2 o.2.2.2.2.1 = [] := by unfold u2B; rw [hq]
      have hins := u59 (ky := lk) (lt := slt) (n := ((o.2.2.2.2.1, putR (u2B s.2 (u2a o)) (regOf o)) : Lk)) (l := s.2) hq
      have e1 : (0 : Int) ≤ ((gpos lk slt s.2 o.2.2.2.2.1 : Nat) : Int) := by omega
      have e2 : ((gpos lk slt s.2 o.2.2.2.2.1 : Nat) : Int) ≤ (s.2.length : Int) := by omega
      have hlen : (s.2.take (gpos lk slt s.2 o.2.2.2.2.1)).length = gpos lk slt s.2 o.2.2.2.2.1 := by rw [List.length_take]; omega
      have hg : (s.2.take (gpos lk slt s.2 o.2.2.2.2.1) ++ ((o.2.2.2.2.1, []) : Lk) :: s.2.drop (gpos lk slt s.2 o.2.2.2.2.1))[gpos lk slt s.2 o.2.2.2.2.1]? = some (o.2.2.2.2.1, []) := by
        rw [List.getElem?_append_right (by omega), hlen, Nat.sub_self]; rfl
      have hst : (s.2.take (gpos lk slt s.2 o.2.2.2.2.1) ++ ((o.2.2.2.2.1, []) : Lk) :: s.2.drop (gpos lk slt s.2 o.2.2.2.2.1)).set (gpos lk slt s.2 o.2.2.2.2.1) (o.2.2.2.2.1, putR (u2B s.2 (u2a o)) (regOf o)) = gput lk slt s.2 (o.2.2.2.2.1, putR (u2B s.2 (u2a o)) (regOf o)) := by
        rw [hins, List.set_append_right _ _ (by omega), hlen, Nat.sub_self]; rfl
      simp only [Option.isSome_none, Bool.not_false, cond_true, e1, e2, decide_true, Bool.and_self, u03 (show s.2.length + 1 ≤ 1000000 by omega) (show 40 ≤ 1000000 by decide), Option.bind_some, Int.toNat_natCast, u0p, hg, hput [] hR.symm, hst]
      rfl
    | some q =>
      have hR : u2B s.2 o.2.2.2.2.1 = q.2 := by unfold u2B; rw [hq]
      have hpos := u2O u3E h.l.srt hq
      have hqi := (u2y hq).1
      have hset := u6h (n := ((o.2.2.2.2.1, putR (u2B s.2 (u2a o)) (regOf o)) : Lk)) u3E h.l.srt hq
      simp only [Option.isSome_some, Bool.not_true, cond_false, Option.bind_some, u0p, hpos, hput q.2 hR.symm, Int.toNat_natCast, show q.1 = o.2.2.2.2.1 from hqi]
      rw [show s.2.set (gpos lk slt s.2 o.2.2.2.2.1) (o.2.2.2.2.1, putR (u2B s.2 (u2a o)) (regOf o)) = _ from hset.symm]
      rfl
theorem u63 {s : St} {o : Op'} (h : OkS s) (h1 : s.1.length < 998000) (h2 : s.2.length < 998000) (hd : o.2.2.1.length < 9223372036854775807) :
    u2t (shp s, o) = some (if opOk o = true then (if clash s o = true then ((([], []), []), 4) else (shp (putS s o), 0)) else ((([], []), []), 1)) := by
  have hsm := u5r h (by omega) (by omega)
  unfold u2t
  simp only [u3A _ hsm, u69.2 ⟨s, h, rfl⟩, Option.bind_some, Bool.not_true, cond_false, op_May_eq o hd]
  cases ho : opOk o with
  | false => rfl
  | true =>
    simp only [Bool.not_true, cond_false, u5T hsm, Option.bind_some, if_true]
    rw [show u2S ((shp s).1.1, ((shp s).1.2, ((shp s).2, o))) = _ from u5S h ho h1 h2]
    cases clash s o <;> rfl
theorem shape_Apply_eq {s : St} {o : Op'} (h : OkS s) (h1 : s.1.length < 998000) (h2 : s.2.length < 998000) (hd : o.2.2.1.length < 9223372036854775807) :
    u2f (shp s, o) = some (if opOk o = true then (if clash s o = true then ([], ([], ([], 4))) else ((made (putS s o).1).1, ((made (putS s o).1).2, ((putS s o).2, 0)))) else ([], ([], ([], 1)))) := by
  have hsm := u5r h (by omega) (by omega)
  unfold u2f
  simp only [u3A _ hsm, u69.2 ⟨s, h, rfl⟩, Option.bind_some, Bool.not_true, cond_false, op_May_eq o hd]
  cases ho : opOk o with
  | false => rfl
  | true =>
    simp only [Bool.not_true, cond_false, u5T hsm, Option.bind_some, if_true]
    rw [show u2S ((shp s).1.1, ((shp s).1.2, ((shp s).2, o))) = _ from u5S h ho h1 h2]
    cases clash s o <;> rfl
end Go.Tr
set_option linter.unusedVariables false
set_option linter.unusedSimpArgs false
namespace Go.Tr
open Go Go.Dv
theorem Between_k : u3b ((⟨#[107]⟩ : ByteArray), (⟨#[]⟩ : ByteArray)) = some ((⟨#[181]⟩ : ByteArray), (0 : Int)) := by
  have e1 : ((ByteArray.toList (⟨#[107]⟩ : ByteArray)) == (ByteArray.toList (ByteArray.mk ([]).toArray))) = false := by rw [toList_eq]; simp
  have e2 : ((ByteArray.toList (⟨#[]⟩ : ByteArray)) == (ByteArray.toList (ByteArray.mk ([]).toArray))) = true := by rw [toList_eq]; simp
  have e3 : u3P (⟨#[107]⟩ : ByteArray) = some true := by kernel_rfl
  unfold u3b
  simp only [e1, e2, e3, Bool.not_false, Bool.not_true, cond_true, cond_false, Option.bind_some]
  rw [u0H (r := ((⟨#[181]⟩ : ByteArray), (0 : Int))) (by kernel_rfl)]
  rfl
theorem O_op : opOk (u06 ()) = true := by rw [← mv_op rfl]; exact O_ok
theorem made_O : (made [u06 ()]).1 = [(((1 : Int), (0 : Int)), ((0 : Int), (0 : Int)), (ByteArray.mk #[107]))] := by
  simp [made, nds, doL, circ, ov, u06, putN]
theorem Slot_k (h : OkS ([u06 ()], [])) : u3r (shp ([u06 ()], []), (((0 : Int), (0 : Int)), ((0 : Int), (0 : Int)))) = some ((⟨#[181]⟩ : ByteArray), (0 : Int)) := by
  have hm : (shp ([u06 ()], [])).1.1 = [(((1 : Int), (0 : Int)), ((0 : Int), (0 : Int)), (ByteArray.mk #[107]))] := made_O
  have n0 := nds0 [u06 ()]
  have hk : kids (shp ([u06 ()], [])).1.1 ((0, 0) : Sp) = [(((1 : Int), (0 : Int)), ((0 : Int), (0 : Int)), (ByteArray.mk #[107]))] := by
    have := kids_perm (shp ([u06 ()], [])).1.1 ((0, 0) : Sp)
    rw [hm] at this ⊢
    simpa using this
  have hL : u31 ((shp ([u06 ()], [])).1, ((0 : Int), (0 : Int))) = some true := by
    have := Lives_eq (t := (shp ([u06 ()], [])).1) (n := 0) (s := (0, 0)) n0.1 (by show (nds [] [u06 ()]).length < _; have := n0.2.2; simp only [List.length_cons, List.length_nil] at this; omega) (by rw [hm]; simp [u0S, par, look])
    simpa [liveB, rootB] using this
  have hC := Children_eq (shp ([u06 ()], [])).1 ((0, 0) : Sp) (by rw [hm]; show 1 < 1000000; decide)
  rw [hk] at hC
  unfold u3r u4T
  simp only [u3A _ (u5r h (by decide) (by decide)), u69.2 ⟨_, h, rfl⟩, Option.bind_some, Bool.not_true, cond_false, hL, hC]
  rw [show ((ByteArray.mk ([]).toArray : ByteArray)) = ⟨#[]⟩ from rfl]
  simp [u0i, getI, Between_k, Go.Dv.wrap_small]
theorem wakes17_eq : u1N () = some true := by
  unfold u1N
  have h1 := u63 (s := ([], [])) (o := u06 ()) oks_nil (by decide) (by decide) (by simp [u06])
  have hc : clash ([], []) (u06 ()) = false := rfl
  have hp : putS ([], []) (u06 ()) = ([u06 ()], []) := rfl
  rw [O_op, hc, hp] at h1
  simp only [if_true, Bool.false_eq_true, if_false] at h1
  rw [show ((([], []), []) : Tree × List Lk) = shp ([], []) from rfl, h1]
  have ho : OkS ([u06 ()], []) := by have := u38 oks_nil O_op hc; rwa [hp] at this
  simp only [Option.bind_some, Slot_k ho, num17_eq, toList_data]
  rfl
theorem ShapeWeight_eq (s : Tree × List Lk) (h1 : s.1.1.length ≤ 140737488355328) (h2 : s.1.2.length ≤ 140737488355328) (hn : ∀ n ∈ s.1.1, BNd n) (he : ∀ e ∈ s.1.2, BEn e) (h3 : s.2.length ≤ 140737488355328) (hr : ∀ q ∈ s.2, q.2.length ≤ 140737488355328) :
    ∃ m : Int, u0L s = some m ∧ (s.1.1.length : Int) + (s.1.2.length : Int) + (s.2.length : Int) ≤ m ∧ m ≤ 4000000000000000 ∧ (m < 1048576 → (∀ e ∈ s.1.2, (e.1.2.2.1.length : Int) ≤ m) ∧ ∀ q ∈ s.2, (q.2.length : Int) ≤ m) := by
  obtain ⟨a, a1, a2, a3, a4⟩ := TreeWeight_eq s.1 h1 h2 hn he
  have hb : ∀ i, i < s.2.length → (s.2.getD i default).2.length ≤ 140737488355328 := fun i hi => hr _ (u0j hi)
  unfold u0L
  have hw : IntKind.wrap .i64 (a + (s.2.length : Int)) = a + (s.2.length : Int) := by rw [Go.Dv.wrap_small] <;> omega
  simp only [a1, Option.bind_some, hw]
  obtain ⟨m, g1, g2, g3, g4⟩ := wloop (f := fun x : (Int × (Int × (Tree × List Lk))) =>
      bif (bif (decide ((x.2.1 < ((List.length x.2.2.2) : Int)))) then (decide ((x.1 < 1048576))) else false) then (((getI x.2.2.2 x.2.1)).bind fun x2 =>
        some (.inl ((IntKind.wrap .i64 (x.1 + ((List.length x2.2) : Int))), ((IntKind.wrap .i64 (x.2.1 + 1)), x.2.2)))) else
      some (.inr (x.1, x.2.2))) (fun n i => (n, ((i : Int), s))) (fun n => (n, s)) s.2.length (fun i => ((s.2.getD i default).2.length : Int)) 300000000000000
    (fun i hi => by have := hb i hi; omega)
    (fun i n hi hn hn2 => by
      have e1 : (i : Int) < (s.2.length : Int) := by omega
      have := hb i hi
      simp only [e1, hn2, decide_true, cond_true, u09 s.2 i hi, Option.bind_some, u04 (show i < 9223372036854775807 by omega)]
      rw [Go.Dv.wrap_small] <;> omega)
    (fun i n hn hc => by
      by_cases e1 : (i : Int) < (s.2.length : Int)
      · have e2 : ¬ n < 1048576 := by omega
        simp [e1, e2]
      · simp [e1]) s.2.length 0 (a + (s.2.length : Int)) (by omega) (by omega)
  refine ⟨m, ?_, by omega, by omega, fun hm => ⟨fun e hmem => ?_, fun q hmem => ?_⟩⟩
  · rw [show (((a + (s.2.length : Int)), ((0 : Int), s)) : Int × (Int × (Tree × List Lk))) = (a + (s.2.length : Int), (((0 : Nat) : Int), s)) from rfl, g1]
    rfl
  · have := a4 (by omega) e hmem; omega
  · obtain ⟨j, hj, rfl⟩ := List.mem_iff_getElem.1 hmem
    have := g4 hm j (by omega) hj
    have e : s.2.getD j default = s.2[j] := by rw [List.getD_eq_getElem?_getD, List.getElem?_eq_getElem hj]; rfl
    simp only [e] at this
    exact this
structure Light (x : u0U) : Prop where
  s : SmS x.1
  n : x.1.1.1.length ≤ 3000
  m : x.1.1.2.length ≤ 60
  k : x.1.2.length ≤ 3000
  l : x.2.1.length ≤ 3000
  i : x.2.2.length ≤ 200
  d : ∀ o ∈ x.2.1, o.2.2.1.length ≤ 3000
theorem Heavy17_eq (x : u0U) (h : Bnd u0v x) : ∃ b, u1O x = some b ∧ (b = false → Light x) := by
  obtain ⟨⟨⟨⟨h1, h2⟩, h3, h4⟩, h5, h6⟩, ⟨h7, h8⟩, h9, h10⟩ := h
  obtain ⟨m, m1, m2, m3, m4⟩ := ShapeWeight_eq x.1 h1 h3 (fun n hn => bnd_nd (h2 n hn)) (fun e he => bnd_en (h4 e he)) h5 (fun q hq => (h6 q hq).2.1)
  obtain ⟨k, k1, k2, k3, k4⟩ := OpsWeight_eq x.2.1 h7 (fun o ho => bnd_op (h8 o ho))
  unfold u1O
  have hw : IntKind.wrap .i64 (m + k) = m + k := by rw [Go.Dv.wrap_small] <;> omega
  simp only [m1, k1, Option.bind_some, hw]
  by_cases c1 : 3000 < m + k
  · exact ⟨true, by simp [c1], by simp⟩
  · by_cases c2 : (60 : Int) < (x.1.1.2.length : Int)
    · exact ⟨true, by simp [c1, c2], by simp⟩
    · refine ⟨decide ((200 : Int) < (x.2.2.length : Int)), by simp [c1, c2], fun hb => ?_⟩
      have hb : ¬ (200 : Int) < (x.2.2.length : Int) := by simpa using hb
      obtain ⟨p1, p2⟩ := m4 (by omega)
      refine ⟨⟨by omega, by omega, fun e he => ?_, by omega, fun q hq => ?_⟩, by omega, by omega, by omega, by omega, by omega, fun o ho => ?_⟩
      · have := p1 e he; unfold Sm; omega
      · have := p2 q hq; omega
      · have := (k4 (by omega) o ho).1; omega
end Go.Tr
set_option linter.unusedVariables false
set_option linter.unusedSimpArgs false
namespace Go.Tr
open Go Go.Dv
theorem CopyEntry_eq (e : Entry) (h : Sm e.1.2.2.1) : u12 e = some e := by
  unfold u12
  rw [CopyOp_eq _ h]; rfl
theorem CopyMoves_eq (l : List Entry) (h : Sm l) (hd : ∀ e ∈ l, Sm e.1.2.2.1) : u10 l = some l := by
  have h' : l.length < 1000000 := h
  unfold u10
  rw [u47]
  · rfl
  · intro i hi
    have e1 : (i : Int) < (l.length : Int) := by omega
    have hr : room (List.length (l.take i ++ [l.getD i default])) 168 = true := u03 (by simp only [List.length_append, List.length_take, List.length_cons, List.length_nil]; omega) (by decide)
    simp only [e1, decide_true, cond_true, u09 l i hi, Option.bind_some, CopyEntry_eq _ (hd _ (u0j hi)), hr, u04 (show i < 9223372036854775807 by omega), u2r hi]
  · simp
theorem u4J (t : Tree) (h1 : Sm t.1) (h2 : Sm t.2) (hd : ∀ e ∈ t.2, Sm e.1.2.2.1) : u0N t = some t := by
  unfold u0N
  rw [u61 _ h1, CopyMoves_eq _ h2 hd]; rfl
instance i7 : DecidableEq (Int × Int × Stamp) := inferInstance
instance i8 : DecidableEq Go.Dv.Reg := inferInstanceAs (DecidableEq (Int × Int × Stamp))
instance i9 : DecidableEq (Stamp × List Go.Dv.Reg) := inferInstance
instance i10 : DecidableEq Go.Dv.Look := inferInstanceAs (DecidableEq (Stamp × List Go.Dv.Reg))
theorem rg_eq (a b : Rg) : ((a.1 == b.1) && ((a.2.1 == b.2.1) && ((a.2.2.1 == b.2.2.1) && (a.2.2.2 == b.2.2.2)))) = decide (a = b) := by
  rw [Bool.eq_iff_iff]; simp [Prod.ext_iff]
theorem EqRegs_eq (a b : List Rg) (ha : a.length < 9223372036854775807) : u1L (a, b) = some (decide (a = b)) := by
  unfold u1L
  simp only [len_ne, rg_eq]
  by_cases hl : a.length = b.length
  · simp only [hl, decide_true, Bool.not_true, cond_false]
    rw [eq_loop a b ha hl]
    · by_cases h : a = b <;> simp [h]
    · intro i hi
      have h1 : (i : Int) < (a.length : Int) := by omega
      simp only [h1, decide_true, cond_true, u09 a i hi, u09 b i (by omega), Option.bind_some, u04 (show i < 9223372036854775807 by omega)]
      by_cases h : a.getD i default = b.getD i default <;> simp [h]
    · simp
  · have : a ≠ b := by rintro rfl; exact hl rfl
    simp [hl, this]
theorem EqLook_eq (a b : Lk) (ha : a.2.length < 9223372036854775807) : u1M (a, b) = some (decide (a = b)) := by
  unfold u1M
  simp only [u2P, EqRegs_eq a.2 b.2 ha, Option.bind_some]
  by_cases h : a.1 = b.1 <;> by_cases k : a.2 = b.2 <;> simp [h, k, Prod.ext_iff]
theorem EqLooks_eq (a b : List Lk) (ha : a.length < 9223372036854775807) (hr : ∀ q ∈ a, q.2.length < 9223372036854775807) : u1v (a, b) = some (decide (a = b)) := by
  unfold u1v
  simp only [len_ne]
  by_cases hl : a.length = b.length
  · simp only [hl, decide_true, Bool.not_true, cond_false]
    rw [eq_loop a b ha hl]
    · by_cases h : a = b <;> simp [h]
    · intro i hi
      have h1 : (i : Int) < (a.length : Int) := by omega
      simp only [h1, decide_true, cond_true, u09 a i hi, u09 b i (by omega), Option.bind_some, EqLook_eq _ _ (hr _ (u0j hi)), u04 (show i < 9223372036854775807 by omega)]
      by_cases h : a.getD i default = b.getD i default <;> simp [h]
    · simp
  · have : a ≠ b := by rintro rfl; exact hl rfl
    simp [hl, this]
theorem EqShape_eq (a b : Tree × List Lk) (h : SmS a) : u0D (a, b) = some (decide (a = b)) := by
  have h1 := h.n
  have h2 := h.m
  have h3 := h.l
  unfold u0D
  simp only [EqTree_eq a.1 b.1 (by omega) ⟨by omega, fun e he => by have : e.1.2.2.1.length < 1000000 := h.d e he; omega⟩, EqLooks_eq a.2 b.2 (by omega) (fun q hq => by have := h.r q hq; omega), Option.bind_some]
  by_cases h : a.1 = b.1 <;> by_cases k : a.2 = b.2 <;> simp [h, k, Prod.ext_iff]
theorem CopyRegs_eq (l : List Rg) (h : l.length < 999900) : u1f l = some l := by
  unfold u1f
  rw [u47]
  · rfl
  · intro i hi
    have e1 : (i : Int) < (l.length : Int) := by omega
    have hr : room (List.length (l.take i ++ [l.getD i default])) 32 = true := u03 (by simp only [List.length_append, List.length_take, List.length_cons, List.length_nil]; omega) (by decide)
    simp only [e1, decide_true, cond_true, u09 l i hi, Option.bind_some, hr, u04 (show i < 9223372036854775807 by omega), u2r hi]
  · simp
theorem CopyLook_eq (q : Lk) (h : q.2.length < 999900) : u1g q = some q := by
  unfold u1g
  rw [CopyRegs_eq _ h]; rfl
theorem CopyLooks_eq (l : List Lk) (h : l.length < 999900) (hr : ∀ q ∈ l, q.2.length < 999900) : u11 l = some l := by
  unfold u11
  rw [u47]
  · rfl
  · intro i hi
    have e1 : (i : Int) < (l.length : Int) := by omega
    have hrr : room (List.length (l.take i ++ [l.getD i default])) 40 = true := u03 (by simp only [List.length_append, List.length_take, List.length_cons, List.length_nil]; omega) (by decide)
    simp only [e1, decide_true, cond_true, u09 l i hi, Option.bind_some, CopyLook_eq _ (hr _ (u0j hi)), hrr, u04 (show i < 9223372036854775807 by omega), u2r hi]
  · simp
theorem u3m (s : Tree × List Lk) (h : SmS s) : u0n s = some s := by
  have h1 := h.n
  have h2 := h.m
  have h3 := h.l
  unfold u0n
  rw [u4J s.1 (show s.1.1.length < 1000000 by omega) (show s.1.2.length < 1000000 by omega) h.d, CopyLooks_eq s.2 (by omega) (fun q hq => by have := h.r q hq; omega)]
  rfl
end Go.Tr
set_option linter.unusedVariables false
set_option linter.unusedSimpArgs false
namespace Go.Tr
open Go Go.Dv
theorem gins_loop {α κ σ ρ : Type} {ky : α → κ} {lt : κ → κ → Prop} [DecidableEq κ] [DecidableRel lt] (L : Lin lt) {l : List α} {k : κ} {n : α} {y : α → α} (hs : GS ky lt l) (hn : ky n = k) (hy : ∀ q, glook ky l k = some q → ky (y q) = k) {f : σ → Option (σ ⊕ ρ)} (inv : List α → Bool → Nat → σ) (out : List α → Bool → ρ)
    (h1 : ∀ (m : List α) (i : Nat) (q : α), l[i]? = some q → m.length ≤ i → lt (ky q) k → f (inv m false i) = some (.inl (inv (m ++ [q]) false (i + 1))))
    (h2 : ∀ (m : List α) (i : Nat) (q : α), l[i]? = some q → m.length ≤ i → lt k (ky q) → f (inv m false i) = some (.inl (inv (m ++ [n] ++ [q]) true (i + 1))))
    (h3 : ∀ (m : List α) (i : Nat) (q : α), l[i]? = some q → m.length ≤ i + 1 → lt k (ky q) → f (inv m true i) = some (.inl (inv (m ++ [q]) true (i + 1))))
    (h4 : ∀ (m : List α) (i : Nat) (q : α), l[i]? = some q → m.length ≤ i → ky q = k → f (inv m false i) = some (.inl (inv (m ++ [y q]) true (i + 1))))
    (h5 : ∀ m b, f (inv m b l.length) = some (.inr (out m b))) {s0 : σ} (h0 : s0 = inv [] false 0 := by rfl) :
    iter f s0 = some (if (glook ky l k).isSome = false ∧ gpos ky lt l k = l.length then out l false else out (gput ky lt l (match glook ky l k with | none => n | some q => y q)) true) := by
  have hp := u5L (ky := ky) (lt := lt) l k
  cases hg : glook ky l k with
  | some q0 =>
    have hq0 := u2O L hs hg
    have hk0 : ky q0 = k := (u2y hg).1
    have hpl : gpos ky lt l k < l.length := by
      rcases Nat.lt_or_ge (gpos ky lt l k) l.length with h | h
      · exact h
      · rw [List.getElem?_eq_none h] at hq0; cases hq0
    have hset := u6h L (n := y q0) hs (m := q0) (by rw [hy q0 hg]; exact hg)
    rw [hy q0 hg] at hset
    generalize hpp : gpos ky lt l k = p at *
    let I : Nat → σ := fun i => if i ≤ p then inv (l.take i) false i else inv ((l.set p (y q0)).take i) true i
    rw [u0W (inv := I) (k := l.length) (r := out (l.set p (y q0)) true) ?_ ?_ (by rw [h0]; simp [I])]
    · simp only [Option.isSome_some, Bool.true_eq_false, false_and, if_false, hset]
    · intro i hi
      have hgi := List.getElem?_eq_getElem hi
      have hb := u3w (k := k) L hs hgi
      rw [hpp] at hb
      have et : l.take (i + 1) = l.take i ++ [l[i]] := by rw [List.take_add_one, hgi]; rfl
      rcases Nat.lt_trichotomy i p with c | c | c
      · simp only [I, if_pos (show i ≤ p by omega), if_pos (show i + 1 ≤ p by omega)]
        rw [h1 _ i _ hgi (by rw [List.length_take]; omega) (hb.1 c), et]
      · subst c
        simp only [I, if_pos (Nat.le_refl _), if_neg (show ¬ i + 1 ≤ i by omega)]
        rw [h4 _ i _ hq0 (by rw [List.length_take]; omega) hk0]
        have : (l.set i (y q0)).take (i + 1) = l.take i ++ [y q0] := by
          rw [List.take_set, et, List.set_append_right _ _ (by rw [List.length_take]; omega), List.length_take, show i - min i l.length = 0 by omega]; rfl
        rw [this]
      · have hlt : lt k (ky l[i]) := by
          have := List.pairwise_iff_getElem.1 hs p i hpl hi c
          have e : l[p] = q0 := by rw [List.getElem?_eq_getElem hpl] at hq0; exact Option.some.inj hq0
          rw [e, hk0] at this; exact this
        simp only [I, if_neg (show ¬ i ≤ p by omega), if_neg (show ¬ i + 1 ≤ p by omega)]
        rw [h3 _ i _ hgi (by rw [List.length_take]; omega) hlt]
        have : (l.set p (y q0)).take (i + 1) = (l.set p (y q0)).take i ++ [l[i]] := by
          rw [List.take_add_one, List.getElem?_set_ne (by omega), hgi]; rfl
        rw [this]
    · simp only [I, if_neg (show ¬ l.length ≤ p by omega)]
      rw [List.take_of_length_le (by simp), h5]
  | none =>
    have hne := glook_none hg
    have hins := u59 (ky := ky) (lt := lt) (n := n) (l := l) (by rw [hn]; exact hg)
    rw [hn] at hins
    generalize hpp : gpos ky lt l k = p at *
    let I : Nat → σ := fun i => if i ≤ p then inv (l.take i) false i else inv (l.take p ++ n :: (l.drop p).take (i - p)) true i
    rw [u0W (inv := I) (k := l.length) (r := if p = l.length then out l false else out (gput ky lt l n) true) ?_ ?_ (by rw [h0]; simp [I])]
    · simp only [Option.isSome_none, true_and]
    · intro i hi
      have hgi := List.getElem?_eq_getElem hi
      have hb := u3w (k := k) L hs hgi
      rw [hpp] at hb
      have et : l.take (i + 1) = l.take i ++ [l[i]] := by rw [List.take_add_one, hgi]; rfl
      have hgt : p ≤ i → lt k (ky l[i]) := fun c => by
        have a : ¬ lt (ky l[i]) k := fun h => by have := hb.2 h; omega
        have b := hne _ (List.getElem_mem hi)
        rcases L.tri (ky l[i]) k with d | d | d
        · exact absurd d a
        · exact absurd d b
        · exact d
      rcases Nat.lt_trichotomy i p with c | c | c
      · simp only [I, if_pos (show i ≤ p by omega), if_pos (show i + 1 ≤ p by omega)]
        rw [h1 _ i _ hgi (by rw [List.length_take]; omega) (hb.1 c), et]
      · subst c
        simp only [I, if_pos (Nat.le_refl _), if_neg (show ¬ i + 1 ≤ i by omega)]
        have e1 : (l.drop i).take 1 = [l[i]] := by rw [List.drop_eq_getElem_cons hi]; rfl
        rw [h2 _ i _ hgi (by rw [List.length_take]; omega) (hgt (Nat.le_refl _)), show i + 1 - i = 1 by omega, e1]
        simp
      · simp only [I, if_neg (show ¬ i ≤ p by omega), if_neg (show ¬ i + 1 ≤ p by omega)]
        rw [h3 _ i _ hgi (by simp only [List.length_append, List.length_take, List.length_cons, List.length_drop]; omega) (hgt (by omega))]
        have : (l.drop p).take (i + 1 - p) = (l.drop p).take (i - p) ++ [l[i]] := by
          rw [show i + 1 - p = (i - p) + 1 by omega, List.take_add_one, List.getElem?_drop, show p + (i - p) = i by omega, hgi]; rfl
        rw [this]
        simp
    · by_cases e : p = l.length
      · simp only [I, if_pos (show l.length ≤ p by omega), List.take_length, h5, if_pos e]
      · simp only [I, if_neg (show ¬ l.length ≤ p by omega), h5, if_neg e, hins]
        rw [show (l.drop p).take (l.length - p) = l.drop p from List.take_of_length_le (by rw [List.length_drop]; omega)]
theorem gput_same {α κ : Type} {ky : α → κ} {lt : κ → κ → Prop} [DecidableEq κ] [DecidableRel lt] (L : Lin lt) {l : List α} {q : α} {k : κ} (hs : GS ky lt l) (h : glook ky l k = some q) : gput ky lt l q = l := by
  have hk := (u2y h).1
  subst hk
  rw [u6h L hs h]
  have hp := u2O L hs h
  have hlt : gpos ky lt l (ky q) < l.length := by
    rcases Nat.lt_or_ge (gpos ky lt l (ky q)) l.length with c | c
    · exact c
    · rw [List.getElem?_eq_none c] at hp; cases hp
  have e : l[gpos ky lt l (ky q)] = q := by rw [List.getElem?_eq_getElem hlt] at hp; exact Option.some.inj hp
  have := List.set_getElem_self hlt
  rw [e] at this
  exact this
theorem Set_eq {l : List Rg} (p v : Int) (s : Sp) (hs : GS rk ilt l) (hl : l.length < 999000) : u1h (l, (p, (v, s))) = some (putR l (p, v, s)) := by
  have hy : ∀ q, glook rk l p = some q → rk ((fun q : Rg => if slt q.2.2 s then ((p, v, s) : Rg) else q) q) = p := fun q hq => by
    show rk (if slt q.2.2 s then ((p, v, s) : Rg) else q) = p
    split
    · rfl
    · exact (u2y hq).1
  unfold u1h
  rw [gins_loop u3F (l := l) (k := p) (n := ((p, v, s) : Rg)) (y := fun q => if slt q.2.2 s then (p, v, s) else q) hs rfl hy (inv := fun m b i => (l, (p, (m, (b, ((i : Int), (s, ((p, v, s) : Rg)))))))) (out := fun m b => (m, (b, (s, ((p, v, s) : Rg)))))]
  · simp only [Option.bind_some]
    unfold putR
    simp only [rk]
    cases hg : glook rk l p with
    | none =>
      have hins := u59 (ky := rk) (lt := ilt) (n := ((p, v, s) : Rg)) (l := l) hg
      simp only [Option.isSome_none, true_and]
      by_cases e : gpos rk ilt l p = l.length
      · have hr : room (List.length (l ++ [((p, v, s) : Rg)])) 32 = true := u03 (by simp only [List.length_append, List.length_cons, List.length_nil]; omega) (by decide)
        have ei : gput rk ilt l ((p, v, s) : Rg) = l ++ [(p, v, s)] := by rw [hins]; simp only [rk, e]; simp
        simp only [if_pos e, Bool.not_false, cond_true, hr, ei]
      · simp only [if_neg e, Bool.not_true, cond_false]
    | some q =>
      simp only [Option.isSome_some, Bool.true_eq_false, false_and, if_false, Bool.not_true, cond_false]
      split
      · rfl
      · rw [gput_same u3F hs hg]
  · intro m i q hq hm hlt
    have hi : i < l.length := by
      rcases Nat.lt_or_ge i l.length with h1 | h1
      · exact h1
      · rw [List.getElem?_eq_none h1] at hq; cases hq
    have e1 : (i : Int) < (l.length : Int) := by omega
    have hlt' : q.1 < p := hlt
    have e2 : (q.1 == p) = false := by simp only [beq_eq_false_iff_ne]; omega
    have e3 : ¬ p < q.1 := by omega
    have hr : room (List.length (m ++ [q])) 32 = true := u03 (by simp only [List.length_append, List.length_cons, List.length_nil]; omega) (by decide)
    simp only [e1, decide_true, cond_true, u0p, hq, Option.bind_some, e2, cond_false, Bool.not_false, e3, decide_false, hr, u04 (show i < 9223372036854775807 by omega)]
  · intro m i q hq hm hlt
    have hi : i < l.length := by
      rcases Nat.lt_or_ge i l.length with h1 | h1
      · exact h1
      · rw [List.getElem?_eq_none h1] at hq; cases hq
    have e1 : (i : Int) < (l.length : Int) := by omega
    have hlt' : p < q.1 := hlt
    have e2 : (q.1 == p) = false := by simp only [beq_eq_false_iff_ne]; omega
    have hr : ∀ n : Rg, room (List.length (m ++ [n])) 32 = true := fun n => u03 (by simp only [List.length_append, List.length_cons, List.length_nil]; omega) (by decide)
    have hr2 : ∀ n : Rg, room (List.length (m ++ [n] ++ [q])) 32 = true := fun n => u03 (by simp only [List.length_append, List.length_cons, List.length_nil]; omega) (by decide)
    simp only [e1, decide_true, cond_true, u0p, hq, Option.bind_some, e2, cond_false, Bool.not_false, hlt', hr, hr2, u04 (show i < 9223372036854775807 by omega)]
  · intro m i q hq hm hlt
    have hi : i < l.length := by
      rcases Nat.lt_or_ge i l.length with h1 | h1
      · exact h1
      · rw [List.getElem?_eq_none h1] at hq; cases hq
    have e1 : (i : Int) < (l.length : Int) := by omega
    have hlt' : p < q.1 := hlt
    have e2 : (q.1 == p) = false := by simp only [beq_eq_false_iff_ne]; omega
    have hr : room (List.length (m ++ [q])) 32 = true := u03 (by simp only [List.length_append, List.length_cons, List.length_nil]; omega) (by decide)
    simp only [e1, decide_true, cond_true, u0p, hq, Option.bind_some, e2, cond_false, Bool.not_true, hr, u04 (show i < 9223372036854775807 by omega)]
  · intro m i q hq hm he
    have hi : i < l.length := by
      rcases Nat.lt_or_ge i l.length with h1 | h1
      · exact h1
      · rw [List.getElem?_eq_none h1] at hq; cases hq
    have e1 : (i : Int) < (l.length : Int) := by omega
    have he' : q.1 = p := he
    have e2 : (q.1 == p) = true := by simp only [beq_iff_eq]; exact he'
    have hr : ∀ n : Rg, room (List.length (m ++ [n])) 32 = true := fun n => u03 (by simp only [List.length_append, List.length_cons, List.length_nil]; omega) (by decide)
    simp only [e1, decide_true, cond_true, u0p, hq, Option.bind_some, e2, u0y]
    by_cases c : slt q.2.2 s
    · have := (u21 _ _).2 c
      simp only [this, decide_true, cond_true, hr, Option.bind_some, if_pos c, u04 (show i < 9223372036854775807 by omega)]
    · have := mt (u21 _ _).1 c
      simp only [this, decide_false, cond_false, hr, cond_true, Option.bind_some, if_neg c, u04 (show i < 9223372036854775807 by omega)]
  · intro m b
    simp only [Int.lt_irrefl, decide_false, cond_false]
theorem Does_eq {st : St} {o : Op'} (h : OkS st) (h1 : st.1.length < 998000) (h2 : st.2.length < 998000) (ho : opOk o = true) (hd : Sm o.2.2.1) :
    u1Z (shp st, o) = some (if clash st o = true then (shp st, false) else (shp (putS st o), true)) := by
  have hsm := u5r h (by omega) (by omega)
  unfold u1Z
  simp only [u3m _ hsm, Option.bind_some]
  unfold clash putS
  cases hk : o.2.2.2.1 == 1 with
  | true =>
    have hA := rApply_eq (o := o) h.t (by omega) hd
    simp only [cond_true, Bool.true_and, if_true]
    rw [show (shp st).1 = made st.1 from rfl, hA]
    cases hh : hasO st.1 o.1 with
    | true =>
      have := u4J (made st.1) (made_sm (by omega)).1 (made_sm (by omega)).2 (ok_deps h.t)
      simp only [if_true, Option.bind_some, this]
      rfl
    | false =>
      have hli := insO_len st.1 o
      have hds := ins_deps h.t hd
      have hdd : ∀ e ∈ (made (insO st.1 o)).2, Sm e.1.2.2.1 := by
        intro e he
        have : e.1 ∈ insO st.1 o := by rw [← ens_op [] (insO st.1 o)]; exact List.mem_map_of_mem he
        exact hds _ this
      have := u4J (made (insO st.1 o)) (made_sm (by omega)).1 (made_sm (by omega)).2 hdd
      simp only [Bool.false_eq_true, if_false, Option.bind_some, this]
      rfl
  | false =>
    simp only [cond_false, Bool.false_and, Bool.false_eq_true, if_false]
    have hS0 := Set_eq (l := []) o.2.2.2.2.2.2.2.1 o.2.2.2.2.2.2.2.2 o.1 (by simp [GS]) (by decide)
    have hsl : (shp st).2 = st.2 := rfl
    have hm2 : st.2.length < 999000 := by omega
    rw [gins_loop u3E (l := st.2) (k := u2a o) (n := ((u2a o, putR [] (regOf o)) : Lk)) (y := fun q => (q.1, putR q.2 (regOf o))) h.l.srt rfl (fun q hq => (u2y hq).1) (inv := fun m b i => (b, (m, ((i : Int), (shp st, (o, (((([], []), []) : Shape), shp st))))))) (out := fun m b => (b, (m, (shp st, (o, (((([], []), []) : Shape), shp st))))))]
    · simp only [Option.bind_some]
      have hput : putLk st.2 (u2a o) (regOf o) = gput lk slt st.2 (match glook lk st.2 (u2a o) with | none => (u2a o, putR [] (regOf o)) | some q => (q.1, putR q.2 (regOf o))) := by
        unfold putLk u2B
        cases hg : glook lk st.2 (u2a o) with
        | none => rfl
        | some q => have : q.1 = u2a o := (u2y hg).1; simp only [this]
      rw [hput]
      cases hg : glook lk st.2 (u2a o) with
      | none =>
        have hins := u59 (ky := lk) (lt := slt) (n := ((u2a o, putR [] (regOf o)) : Lk)) (l := st.2) hg
        simp only [Option.isSome_none, true_and]
        by_cases e : gpos lk slt st.2 (u2a o) = st.2.length
        · have hr : room (List.length (st.2 ++ [((u2a o, putR [] (regOf o)) : Lk)])) 40 = true := u03 (by simp only [List.length_append, List.length_cons, List.length_nil]; omega) (by decide)
          have ei : gput lk slt st.2 ((u2a o, putR [] (regOf o)) : Lk) = st.2 ++ [(u2a o, putR [] (regOf o))] := by rw [hins]; simp only [lk, e]; simp
          simp only [if_pos e, Bool.not_false, cond_true, ei]
          rw [hS0]
          simp only [Option.bind_some]
          rw [show room (List.length (st.2 ++ [(o.2.2.2.2.1, putR [] (o.2.2.2.2.2.2.2.1, o.2.2.2.2.2.2.2.2, o.1))])) 40 = true from hr]
          rfl
        · simp only [if_neg e, Bool.not_true, cond_false]
          rfl
      | some q =>
        simp only [Option.isSome_some, Bool.true_eq_false, false_and, if_false, Bool.not_true, cond_false]
        rfl
    · intro m i q hq hm hlt
      have hi : i < st.2.length := by
        rcases Nat.lt_or_ge i st.2.length with c | c
        · exact c
        · rw [List.getElem?_eq_none c] at hq; cases hq
      have e1 : (i : Int) < (st.2.length : Int) := by omega
      have e2 : ¬ (0 < scmp q.1 o.2.2.2.2.1) := fun hh => u6s hlt ((u3C _ _).1 hh)
      have e3 : (scmp q.1 o.2.2.2.2.1 == 0) = false := by
        rw [u4z, decide_eq_false_iff_not]; intro e
        exact lt_ne u3E hlt e
      have hr : room (List.length (m ++ [q])) 40 = true := u03 (by simp only [List.length_append, List.length_cons, List.length_nil]; omega) (by decide)
      simp only [hsl, e1, decide_true, cond_true, u0p, hq, Option.bind_some, u0y, e2, e3, Bool.not_false, decide_false, cond_false, hr, u04 (show i < 9223372036854775807 by omega)]
    · intro m i q hq hm hlt
      have hi : i < st.2.length := by
        rcases Nat.lt_or_ge i st.2.length with c | c
        · exact c
        · rw [List.getElem?_eq_none c] at hq; cases hq
      have e1 : (i : Int) < (st.2.length : Int) := by omega
      have e2 : 0 < scmp q.1 o.2.2.2.2.1 := (u3C _ _).2 hlt
      have e3 : (scmp q.1 o.2.2.2.2.1 == 0) = false := by
        rw [u4z, decide_eq_false_iff_not]; intro e
        exact lt_ne u3E hlt e.symm
      have hr : ∀ n : Lk, room (List.length (m ++ [n])) 40 = true := fun n => u03 (by simp only [List.length_append, List.length_cons, List.length_nil]; omega) (by decide)
      have hr2 : ∀ n : Lk, room (List.length (m ++ [n] ++ [q])) 40 = true := fun n => u03 (by simp only [List.length_append, List.length_cons, List.length_nil]; omega) (by decide)
      simp only [hsl, e1, decide_true, cond_true, u0p, hq, Option.bind_some, u0y, e2, e3, Bool.not_false, cond_false]
      rw [hS0]
      simp only [Option.bind_some, hr, hr2, e3, cond_true, cond_false, u04 (show i < 9223372036854775807 by omega)]
      rfl
    · intro m i q hq hm hlt
      have hi : i < st.2.length := by
        rcases Nat.lt_or_ge i st.2.length with c | c
        · exact c
        · rw [List.getElem?_eq_none c] at hq; cases hq
      have e1 : (i : Int) < (st.2.length : Int) := by omega
      have e3 : (scmp q.1 o.2.2.2.2.1 == 0) = false := by
        rw [u4z, decide_eq_false_iff_not]; intro e
        exact lt_ne u3E hlt e.symm
      have hr : room (List.length (m ++ [q])) 40 = true := u03 (by simp only [List.length_append, List.length_cons, List.length_nil]; omega) (by decide)
      simp only [hsl, e1, decide_true, cond_true, u0p, hq, Option.bind_some, u0y, e3, Bool.not_true, cond_false, hr, u04 (show i < 9223372036854775807 by omega)]
    · intro m i q hq hm he
      have hi : i < st.2.length := by
        rcases Nat.lt_or_ge i st.2.length with c | c
        · exact c
        · rw [List.getElem?_eq_none c] at hq; cases hq
      have e1 : (i : Int) < (st.2.length : Int) := by omega
      have he' : q.1 = o.2.2.2.2.1 := he
      have hz : scmp o.2.2.2.2.1 o.2.2.2.2.1 = 0 := by have := u4z o.2.2.2.2.1 o.2.2.2.2.1; simpa using this
      have hmem : q ∈ st.2 := List.mem_of_getElem? hq
      have hSq := Set_eq (l := q.2) o.2.2.2.2.2.2.2.1 o.2.2.2.2.2.2.2.2 o.1 (h.l.rsrt q hmem) (hsm.r q hmem)
      have hr : ∀ n : Lk, room (List.length (m ++ [n])) 40 = true := fun n => u03 (by simp only [List.length_append, List.length_cons, List.length_nil]; omega) (by decide)
      simp only [hsl, e1, decide_true, cond_true, u0p, hq, Option.bind_some, u0y, he', hz, Int.lt_irrefl, decide_false, Bool.not_false, cond_false, beq_self_eq_true]
      rw [hSq]
      simp only [Option.bind_some, hr, cond_true, u04 (show i < 9223372036854775807 by omega), ← he']
      rfl
    · intro m b
      simp only [hsl, Int.lt_irrefl, decide_false, cond_false]
theorem small_shape (s : Tree × List Lk) (h : SmS s) : small (.pair (.pair (.list (.pair (.pair (.int .i64) (.int .i64)) (.pair (.pair (.int .i64) (.int .i64)) .str))) (.list (.pair (.pair (.pair (.int .i64) (.int .i64)) (.pair (.int .i64) (.pair (.list (.int .i64)) (.pair (.int .i64) (.pair (.pair (.int .i64) (.int .i64)) (.pair (.pair (.int .i64) (.int .i64)) (.pair .str (.pair (.int .i64) (.int .i64))))))))) (.pair .bool (.pair (.pair (.int .i64) (.int .i64)) (.pair .str .bool)))))) (.list (.pair (.pair (.int .i64) (.int .i64)) (.list (.pair (.int .i64) (.pair (.int .i64) (.pair (.int .i64) (.int .i64)))))))) s = true := by
  have h1 := h.n
  have h2 := h.m
  have h3 := h.l
  unfold small
  rw [Bool.and_eq_true]
  refine ⟨small_tree s.1 (show s.1.1.length < 1000000 by omega) (show s.1.2.length < 1000000 by omega) h.d, ?_⟩
  have b : decide (s.2.length ≤ 1000000) = true := decide_eq_true (by omega)
  unfold small
  refine Bool.and_eq_true _ _ ▸ ⟨b, List.all_eq_true.2 fun q hq => ?_⟩
  have c := h.r q hq
  have c' : decide (q.2.length ≤ 1000000) = true := decide_eq_true (by omega)
  have hz : ∀ l : List Rg, l.all (small (.pair (.int .i64) (.pair (.int .i64) (.pair (.int .i64) (.int .i64))))) = true := fun l => List.all_eq_true.2 fun _ _ => rfl
  have := hz q.2
  show (small (.pair (.int .i64) (.int .i64)) q.1 && (decide (q.2.length ≤ 1000000) && q.2.all (small (.pair (.int .i64) (.pair (.int .i64) (.pair (.int .i64) (.int .i64))))))) = true
  rw [this, c']; rfl
theorem sCheck_eq (s : Tree × List Lk) (h : SmS s) : u37 s = some (if shpB s = true then 0 else 1) := by
  unfold u37
  rw [u3A s h]
  cases shpB s <;> rfl
theorem sApply_no {s : Tree × List Lk} (o : Op') (h : SmS s) (hB : shpB s = false) : u2f (s, o) = some ([], ([], ([], 1))) := by
  unfold u2f
  simp only [u3A s h, hB, Option.bind_some, Bool.not_false, cond_true]
theorem putS_len (s : St) (o : Op') : (putS s o).1.length ≤ s.1.length + 1 ∧ (putS s o).2.length ≤ s.2.length + 1 := by
  unfold putS
  split
  · exact ⟨by rw [insO_len]; exact Nat.le_refl _, Nat.le_succ _⟩
  · exact ⟨Nat.le_succ _, gput_len⟩
set_option maxHeartbeats 4000000 in
theorem pure_ShapeApplies (y : El u0v) (h : Bnd u0v y) : u0T y = some true := by
  obtain ⟨b, hb, hb2⟩ := Heavy17_eq y h
  obtain ⟨s, L, ids0⟩ := y
  unfold u0T
  rw [hb]
  cases b with
  | true => rfl
  | false =>
    obtain ⟨l1, l2, l3, l4, l5, l6, l7⟩ := hb2 rfl
    have l1 : SmS s := l1
    have l2 : s.1.1.length ≤ 3000 := l2
    have l3 : s.1.2.length ≤ 60 := l3
    have l4 : s.2.length ≤ 3000 := l4
    have l5 : L.length ≤ 3000 := l5
    have l7 : ∀ o ∈ L, o.2.2.1.length ≤ 3000 := l7
    have hC := u3m s l1
    simp only [Option.bind_some, cond_false, hC]
    refine app_loop (min L.length 12) (fun i s => SmS s ∧ s.1.1.length ≤ 5000 ∧ s.1.2.length ≤ 60 + i ∧ s.2.length ≤ 3000 + i) ?_ ?_ ?_ ⟨l1, by omega, by omega, by omega⟩
    · clear hC l1 l2 l3 l4
      intro i s hi hP
      obtain ⟨p0, p1, p2, p3⟩ := hP
      have hiL : i < L.length := by omega
      have e1 : (i : Int) < (L.length : Int) := by omega
      have e2 : (i : Int) < 12 := by omega
      have hT := ref_Shape_eq s p0
      have hCh := sCheck_eq s p0
      have hC := u3m s p0
      have hE := EqShape_eq s s p0
      have hdo : Sm (L.getD i default).2.2.1 := by have : (L.getD i default).2.2.1.length ≤ 3000 := l7 _ (u0j hiL); unfold Sm; omega
      have hdo' : (L.getD i default).2.2.1.length < 1000000 := hdo
      have hCo := CopyOp_eq _ hdo
      have hEo := EqOp_eq (L.getD i default) (L.getD i default) (by omega)
      have hMv := ref_Op_eq (L.getD i default) (by omega)
      simp only [e1, e2, decide_true, cond_true, hT, hCh, hC, hE, Option.bind_some, u09 L i hiL, hCo, hEo, hMv, num17_eq, u04 (show i < 9223372036854775807 by omega)]
      generalize L.getD i default = o at *
      cases hm : shpB s with
      | false =>
        refine ⟨s, ?_, p0, p1, by omega, by omega⟩
        simp only [sApply_no o p0 hm, Option.bind_some]
        rfl
      | true =>
        obtain ⟨st, hk, rfl⟩ := u69.1 hm
        have hel : (made st.1).2.length = st.1.length := u2i _ _
        have p2' : (made st.1).2.length ≤ 60 + i := p2
        have p3' : st.2.length ≤ 3000 + i := p3
        have hA := shape_Apply_eq (s := st) (o := o) hk (by omega) (by omega) (by omega)
        simp only [hA, Option.bind_some]
        cases ho : opOk o with
        | false =>
          refine ⟨shp st, ?_, p0, p1, by omega, by omega⟩
          rfl
        | true =>
          have hR := Does_eq (o := o) hk (by omega) (by omega) ho hdo
          simp only [hR, Option.bind_some]
          cases hh : clash st o with
          | true =>
            refine ⟨shp st, ?_, p0, p1, by omega, by omega⟩
            rfl
          | false =>
            have hk' := u38 hk ho hh
            obtain ⟨g1, g2⟩ := putS_len st o
            have hsm := u5r hk' (by omega) (by omega)
            have hml : (made (putS st o).1).2.length = (putS st o).1.length := u2i _ _
            have hnl : (made (putS st o).1).1.length ≤ (putS st o).1.length := (nds0 (putS st o).1).2.2
            have hEm := EqShape_eq (shp (putS st o)) (shp (putS st o)) hsm
            have hCm := u3m (shp (putS st o)) hsm
            have hsmall := small_shape (shp (putS st o)) hsm
            refine ⟨shp (putS st o), ?_, hsm, by show (made (putS st o).1).1.length ≤ 5000; omega, by show (made (putS st o).1).2.length ≤ 60 + (i + 1); omega, by show (putS st o).2.length ≤ 3000 + (i + 1); omega⟩
            simp only [Bool.false_eq_true, if_false, if_true]
            rw [show ((((made (putS st o).1).1, (made (putS st o).1).2), (putS st o).2) : Tree × List Lk) = shp (putS st o) from rfl]
            simp only [hEm, Option.bind_some, hsmall, hCm, decide_true, Bool.not_true, cond_false, cond_true, beq_self_eq_true, bne_self_eq_false, Bool.not_false]
    · intro t hP
      have : ¬ (((min L.length 12 : Nat) : Int) < (L.length : Int) ∧ ((min L.length 12 : Nat) : Int) < 12) := by omega
      by_cases c : ((min L.length 12 : Nat) : Int) < (L.length : Int)
      · have c2 : ¬ ((min L.length 12 : Nat) : Int) < 12 := fun h => this ⟨c, h⟩
        simp only [c, c2, decide_true, decide_false, cond_true, cond_false]
      · simp only [c, decide_false, cond_false]
    · intro t'
      simp only [wakes17_eq, Option.bind_some]
end Go.Tr
