/- A part of the proof: LsFor, LsStays, LsStays2. -/
import Derived.Test.YtlfkabehppdohaaGreatLsD
set_option linter.unusedVariables false
set_option linter.unusedSimpArgs false
namespace Go.Tr
open Go Go.Dv Go.Ky
def Way (l : List Nd) : Nat → Sp → Sp → Prop
  | 0, s, id => s = id
  | d + 1, s, id => s ≠ id ∧ ∃ p, par l s = some p ∧ Way l d p id
def Steps (l : List Nd) : Nat → Sp → Sp → Prop
  | 0, s, id => s = id
  | d + 1, s, id => ∃ p, par l s = some p ∧ Steps l d p id
theorem way_steps {l : List Nd} {id : Sp} : ∀ {d : Nat} {s : Sp}, Way l d s id → Steps l d s id
  | 0, s, h => h
  | d + 1, s, ⟨_, p, hp, h⟩ => ⟨p, hp, way_steps h⟩
theorem ov_way {l : List Nd} {id : Sp} : ∀ {n : Nat} {s : Sp}, EndsIn l n s → ov l id n s = true → ∃ d, d ≤ n ∧ Way l d s id
  | 0, s, h, k => ⟨0, Nat.le_refl _, show s = id by simpa [ov] using k⟩
  | n + 1, s, ⟨p, hp, h⟩, k => by
    by_cases e : s = id
    · exact ⟨0, Nat.zero_le _, e⟩
    · simp only [ov, hp, e, decide_false, Bool.false_or] at k
      obtain ⟨d, hd, hw⟩ := ov_way h k
      exact ⟨d + 1, by omega, e, p, hp, hw⟩
theorem steps_snoc {l : List Nd} {id : Sp} : ∀ {d : Nat} {s : Sp}, Steps l (d + 1) s id → ∃ q, Steps l d s q ∧ par l q = some id
  | 0, s, ⟨p, hp, h⟩ => by
    have h : p = id := h
    subst h
    exact ⟨s, rfl, hp⟩
  | d + 1, s, ⟨p, hp, h⟩ => by
    obtain ⟨q, h1, h2⟩ := steps_snoc h
    exact ⟨q, ⟨p, hp, h1⟩, h2⟩
theorem fold_max_ge {α : Type} {g : α → Nat} : ∀ (K : List α) (a : Nat), a ≤ K.foldl (fun a k => max a (g k)) a ∧ ∀ k ∈ K, g k ≤ K.foldl (fun a k => max a (g k)) a
  | [], a => ⟨Nat.le_refl _, by simp⟩
  | q :: K, a => by
    obtain ⟨h1, h2⟩ := fold_max_ge (g := g) K (max a (g q))
    refine ⟨Nat.le_trans (Nat.le_max_left _ _) h1, fun k hk => ?_⟩
    rcases List.mem_cons.1 hk with rfl | hk
    · exact Nat.le_trans (Nat.le_max_right _ _) h1
    · exact h2 k hk
theorem mem_kidsC {l : List Nd} {id : Sp} {q : Nd} (hs : Srt l) : q ∈ kidsC l id ↔ q ∈ l ∧ q.2.1 = id := by
  rw [← kidsC_eq id hs, (kids_perm l id).mem_iff, List.mem_filter, decide_eq_true_eq]
theorem steps_tall {l : List Nd} (hs : Srt l) : ∀ {d : Nat} {s id : Sp} {n : Nat}, Steps l d s id → d < n → d + 1 ≤ tallN l n id
  | d, s, id, 0, _, h => by omega
  | 0, s, id, n + 1, _, _ => by simp only [tallN]; omega
  | d + 1, s, id, n + 1, h, hn => by
    obtain ⟨q, h1, h2⟩ := steps_snoc h
    have ih := steps_tall hs h1 (show d < n by omega)
    simp only [par, Option.map_eq_some_iff] at h2
    obtain ⟨m, hm, he⟩ := h2
    have hk : m ∈ kidsC l id := (mem_kidsC hs).2 ⟨(look_id hm).2, he⟩
    have := (fold_max_ge (g := fun k : Nd => tallN l n k.1) (kidsC l id) 0).2 m hk
    rw [(look_id hm).1] at this
    simp only [tallN]
    omega
theorem ups_put {l : List Nd} {n : Nd} (hs : Srt l) : ∀ {k : Nat} {s : Sp}, EndsIn l k s → ov l n.1 k s = false → ups (putN l n) k s = ups l k s
  | 0, s, _, _ => rfl
  | k + 1, s, h, e => by
    obtain ⟨h1, h2⟩ := ov_false h e
    obtain ⟨p, hp, h3⟩ := h
    obtain ⟨j, hj, h4, h5⟩ := h2 p hp
    obtain rfl : k = j := by omega
    simp only [ups, par_put hs, if_neg h1, hp]
    rw [ups_put hs h4 h5]
theorem up_off {l : List Nd} {n : Nd} (hs : Srt l) {m : Nat} {s : Sp} (h : EndsIn l m s) (ho : ov l n.1 m s = false) : upC (putN l n) s = upC l s := by
  rw [upC_eq (ends_put hs h ho), upC_eq h, ups_put hs h ho]
theorem up_on {l : List Nd} {n : Nd} (hs : Srt l) (ha : Acy l) (hc : circ l n.1 n.2.1 = false) : ∀ {d : Nat} {s : Sp}, Way l d s n.1 → ∃ w : List Sp, w.length = d ∧ upC (putN l n) s = w ++ n.2.1 :: upC l n.2.1 := by
  obtain ⟨k, hk⟩ := ha n.2.1
  rw [circ_ends hk] at hc
  have hp := ends_put hs hk hc
  have hu := ups_put hs hk hc
  have main : ∀ {d : Nat} {s : Sp}, Way l d s n.1 → EndsIn (putN l n) (d + 1 + k) s ∧ ∃ w : List Sp, w.length = d ∧ ups (putN l n) (d + 1 + k) s = w ++ n.2.1 :: ups l k n.2.1 := by
    intro d
    induction d with
    | zero =>
      intro s h
      have h : s = n.1 := h
      subst h
      have e : par (putN l n) n.1 = some n.2.1 := by rw [par_put hs, if_pos rfl]
      rw [show 0 + 1 + k = k + 1 by omega]
      refine ⟨⟨n.2.1, e, hp⟩, [], rfl, ?_⟩
      simp only [ups, e, hu, List.nil_append]
    | succ d ih =>
      intro s ⟨hne, p, hpar, h⟩
      obtain ⟨g1, w, g2, g3⟩ := ih h
      have e : par (putN l n) s = some p := by rw [par_put hs, if_neg hne]; exact hpar
      rw [show d + 1 + 1 + k = (d + 1 + k) + 1 by omega]
      refine ⟨⟨p, e, g1⟩, p :: w, by simp [g2], ?_⟩
      simp only [ups, e, g3, List.cons_append]
  intro d s h
  obtain ⟨g1, w, g2, g3⟩ := main h
  exact ⟨w, g2, by rw [upC_eq g1, g3, upC_eq hk]⟩
theorem live_iff {l : List Nd} {s : Sp} (hr : look l (0, 0) = none) : liveC l s = true ↔ s = (0, 0) ∨ (upC l s).getLast? = some (0, 0) := by
  show (rootB s || match (upC l s).getLast? with | some r => rootB r | none => false) = true ↔ _
  rw [Bool.or_eq_true, rootB, decide_eq_true_eq]
  cases h : (upC l s).getLast? with
  | none => simp
  | some r => simp [rootB]
def AllUp (l : List Nd) : Prop := ∀ m ∈ l, liveC l m.1 = true ∧ (upC l m.1).length ≤ 12
theorem allUp_put {l : List Nd} {n : Nd} (hs : Srt l) (ha : Acy l) (hr : look l (0, 0) = none) (hn : n.1 ≠ (0, 0)) (hA : AllUp l) (hc : circ l n.1 n.2.1 = false) (hl : liveC l n.2.1 = true) (ht : (upC l n.2.1).length + 1 + tallC l n.1 ≤ 13) : AllUp (putN l n) := by
  intro m hm
  have hr' : look (putN l n) (0, 0) = none := by rw [look_put hs, if_neg (Ne.symm hn)]; exact hr
  obtain ⟨e, he⟩ := ha m.1
  cases ho : ov l n.1 e m.1 with
  | false =>
    have hu := up_off hs he ho
    have hne : m ≠ n := by
      rintro rfl
      have : ov l m.1 e m.1 = true := by cases e <;> simp [ov]
      rw [ho] at this; cases this
    have hml := (put_mem hm).resolve_left hne
    obtain ⟨h1, h2⟩ := hA m hml
    rw [live_iff hr', hu, ← live_iff hr]
    exact ⟨h1, h2⟩
  | true =>
    obtain ⟨d, hd, hw⟩ := ov_way he ho
    obtain ⟨w, h1, h2⟩ := up_on hs ha hc hw
    have hel := ends_le he
    have htl := steps_tall hs (way_steps hw) (show d < l.length + 1 by omega)
    have htl : d + 1 ≤ tallC l n.1 := htl
    rw [live_iff hr', h2]
    refine ⟨.inr ?_, by simp only [List.length_append, List.length_cons]; omega⟩
    rw [List.getLast?_append]
    rcases (live_iff hr).1 hl with e0 | e0
    · have : upC l n.2.1 = [] := by rw [e0]; exact upC_none ha hr
      rw [this, e0]; rfl
    · cases hu : upC l n.2.1 with
      | nil => rw [hu] at e0; cases e0
      | cons q r =>
        rw [hu] at e0
        rw [List.getLast?_cons_cons, e0]; rfl
theorem put_length {l : List Nd} {n : Nd} (hs : Srt l) : (putN l n).length = if (look l n.1).isSome = true then l.length else l.length + 1 := by
  cases h : look l n.1 with
  | some m => rw [put_set hs h]; simp
  | none =>
    have hp := posN_le l n.1
    rw [put_ins hs h]
    simp only [List.length_append, List.length_take, List.length_cons, List.length_drop, Option.isSome_none, Bool.false_eq_true, if_false]
    omega
theorem nds_mem : ∀ {os : List Op'} {l : List Nd} {m : Nd}, m ∈ nds l os → m ∈ l ∨ ∃ o ∈ os, m = (o.2.2.2.2.1, o.2.2.2.2.2.1, o.2.2.2.2.2.2.1)
  | [], l, m, h => .inl h
  | o :: os, l, m, h => by
    rcases nds_mem (os := os) (l := doL l o) h with h | ⟨q, hq, e⟩
    · unfold doL at h
      split at h
      · exact .inl h
      · rcases put_mem h with h | h
        · exact .inr ⟨o, by simp, h⟩
        · exact .inl h
    · exact .inr ⟨q, by simp [hq], e⟩
theorem mv_parts {o : Op'} (h : mvOk o = true) : stOk o.2.2.2.2.1 = true ∧ plOk o.2.2.2.2.2.1 = true ∧ keyB o.2.2.2.2.2.2.1 = true := by
  simp only [mvOk, Bool.and_eq_true] at h
  exact ⟨h.1.1.1.1.1.1.1.2, h.1.1.1.2, h.1.1.2⟩
theorem node_ok {os : List Op'} (h : OkT os) {m : Nd} (hm : m ∈ nds [] os) : stOk m.1 = true ∧ keyB m.2.2 = true := by
  rcases nds_mem hm with h0 | ⟨o, ho, rfl⟩
  · cases h0
  · have := mv_parts (h.mv o ho); exact ⟨this.1, this.2.2⟩
theorem root_none {os : List Op'} (h : OkT os) : look (nds [] os) (0, 0) = none := by
  cases hq : look (nds [] os) (0, 0) with
  | none => rfl
  | some m =>
    have := (node_ok h (look_id hq).2).1
    rw [(look_id hq).1] at this
    cases this
theorem last_of {K : List Nd} {n : Nd} (hk : K.Pairwise klt) (hn : n ∈ K) (hb : ∀ q ∈ K, q ≠ n → klt q n) : K.getLast? = some n := by
  induction K with
  | nil => cases hn
  | cons q K ih =>
    obtain ⟨h1, h2⟩ := List.pairwise_cons.1 hk
    cases K with
    | nil => simp at hn; subst hn; rfl
    | cons r K =>
      rw [List.getLast?_cons_cons]
      rcases List.mem_cons.1 hn with rfl | hn
      · have a := h1 r (by simp)
        have b : r ≠ n := by rintro rfl; exact klt_irr _ a
        exact absurd (klt_trans a (hb r (by simp) b)) (klt_irr _)
      · exact ih h2 hn fun x hx => hb x (List.mem_cons_of_mem _ hx)
theorem last_max {K : List Nd} {q : Nd} (hk : K.Pairwise klt) (hq : q ∈ K) : q.2.2.data.toList ≤ (lastK K).data.toList := by
  have hne : K ≠ [] := by rintro rfl; cases hq
  have hl : K.getLast? = some (K.getLast hne) := List.getLast?_eq_some_getLast hne
  have e : lastK K = (K.getLast hne).2.2 := by unfold lastK; rw [hl]
  rw [e]
  have : q = K.getLast hne ∨ klt q (K.getLast hne) := by
    clear e hl
    induction K with
    | nil => cases hq
    | cons r K ih =>
      obtain ⟨h1, h2⟩ := List.pairwise_cons.1 hk
      cases K with
      | nil => simp at hq; subst hq; exact .inl rfl
      | cons x K =>
        rw [List.getLast_cons (by simp)]
        rcases List.mem_cons.1 hq with rfl | hq
        · exact .inr (h1 _ (List.getLast_mem _))
        · exact ih h2 hq (by simp)
  rcases this with e | h
  · rw [e]; exact List.le_refl _
  · rcases h with h | ⟨h, _⟩
    · exact List.le_of_lt h
    · rw [h]; exact List.le_refl _
theorem kidsC_srt {l : List Nd} (id : Sp) (hs : Srt l) : (kidsC l id).Pairwise klt := by rw [← kidsC_eq id hs]; exact kids_srt id hs
theorem kid_last {l : List Nd} {n : Nd} (hs : Srt l) (hb : (lastK (kidsC l n.2.1)).data.toList < n.2.2.data.toList) : (kidsC (putN l n) n.2.1).getLast? = some n := by
  have hs' := put_srt (n := n) hs
  have hn : look (putN l n) n.1 = some n := by rw [look_put hs, if_pos rfl]
  refine last_of (kidsC_srt _ hs') ((mem_kidsC hs').2 ⟨(look_id hn).2, rfl⟩) fun q hq hne => ?_
  obtain ⟨h1, h2⟩ := (mem_kidsC hs').1 hq
  have hid : q.1 ≠ n.1 := by
    intro e
    have := look_mem hs' h1
    rw [e, hn] at this
    exact hne (Option.some.inj this).symm
  have hql := (put_mem h1).resolve_left hne
  have := last_max (kidsC_srt n.2.1 hs) ((mem_kidsC hs).2 ⟨hql, h2⟩)
  exact .inl (List.lt_of_le_of_lt this hb)
theorem keyB_of {s : L} (h : Ends8 s) (hl : s.length ≤ 64) : keyB (mkB s) = true := by
  have hne := ends_ne h
  have hp : 0 < s.length := List.length_pos_iff.2 hne
  have hsz : (mkB s).size = s.length := by rw [← len_data, mkB_data]
  have e1 : (1 : Int) ≤ ((mkB s).size : Int) := by rw [hsz]; omega
  have e2 : ((mkB s).size : Int) ≤ 64 := by rw [hsz]; omega
  have hw : IntKind.wrap .i64 (((mkB s).size : Int) - 1) = ((s.length - 1 : Nat) : Int) := by rw [hsz, Go.Dv.wrap_small] <;> omega
  have hg := getB_hd (mkB s) (s.length - 1) (by rw [hsz]; omega)
  rw [mkB_data, List.drop_eq_getElem_cons (by omega)] at hg
  have hlast := (ends_last s hne).1 h
  rw [List.getLast_eq_getElem] at hlast
  unfold keyB key_Is
  simp only [e1, e2, decide_true, cond_true, hw, hg, Option.bind_some, Option.getD_some, hd]
  have : (s[s.length - 1]).toNat ≠ 0 := fun e => hlast (UInt8.toNat_inj.1 (by simpa using e))
  simpa using this
end Go.Tr
set_option linter.unusedVariables false
set_option linter.unusedSimpArgs false
namespace Go.Tr
open Go Go.Dv Go.Ky
theorem WithinB (x : Int) (n : Nat) (h0 : 0 < n) (h : n ≤ 1000000) : ∃ v : Nat, v < n ∧ arraslaw0_Within (x, ((n : Nat) : Int)) = some ((v : Nat) : Int) := by
  unfold arraslaw0_Within
  have e2 : IntKind.wrap .u64 ((n : Nat) : Int) = (n : Int) := wrap_u64 (by omega) (by omega)
  have e3 : (((n : Nat) : Int) == 0) = false := by rw [beq_eq_false_iff_ne]; omega
  have hx : 0 ≤ IntKind.wrap .u64 x := by simp only [IntKind.wrap, IntKind.bits, IntKind.signed]; simp; omega
  have hm : 0 ≤ Int.tmod (IntKind.wrap .u64 x) ((n : Nat) : Int) ∧ Int.tmod (IntKind.wrap .u64 x) ((n : Nat) : Int) < n := by
    rw [Int.tmod_eq_emod_of_nonneg hx]
    exact ⟨Int.emod_nonneg _ (by omega), Int.emod_lt_of_pos _ (by omega)⟩
  refine ⟨(Int.tmod (IntKind.wrap .u64 x) ((n : Nat) : Int)).toNat, by omega, ?_⟩
  simp only [e2, e3, cond_false]
  rw [Go.Dv.wrap_small (by omega) (by omega)]
  congr 1
  omega
structure J (i : Nat) (at_ : List Sp) (os : List Op') : Prop where
  ok : OkT os
  t : ∀ q ∈ os, q.1.1 ≤ (i : Int)
  idt : ∀ q ∈ os, q.2.2.2.2.1.1 ≤ (i : Int)
  len : os.length ≤ i
  up : AllUp (nds [] os)
  n48 : (nds [] os).length ≤ 48
  a0 : 0 < at_.length
  al : at_.length ≤ i + 1
  hd : at_[0]? = some (0, 0)
  tl : ∀ k, 1 ≤ k → ∀ a, at_[k]? = some a → (look (nds [] os) a).isSome = true
theorem J.root {i : Nat} {at_ : List Sp} {os : List Op'} (h : J i at_ os) {a : Sp} (ha : a ∈ at_) : liveC (nds [] os) a = true ∧ plOk a = true ∧ (a = (0, 0) ∨ (look (nds [] os) a).isSome = true) := by
  obtain ⟨k, hk⟩ := List.getElem?_of_mem ha
  by_cases h0 : k = 0
  · subst h0
    rw [h.hd] at hk
    cases hk
    exact ⟨(live_iff (root_none h.ok)).2 (.inl rfl), rfl, .inl rfl⟩
  · have hs := h.tl k (by omega) a hk
    obtain ⟨m, hm⟩ := Option.isSome_iff_exists.1 hs
    have hl := (h.up m (look_id hm).2).1
    have hst := (node_ok h.ok (look_id hm).2).1
    rw [(look_id hm).1] at hl hst
    exact ⟨hl, by unfold plOk; rw [hst]; rfl, .inr hs⟩
theorem J.next {i : Nat} {at_ : List Sp} {os : List Op'} (h : J i at_ os) : J (i + 1) at_ os :=
  ⟨h.ok, fun q hq => by have := h.t q hq; omega, fun q hq => by have := h.idt q hq; omega, by have := h.len; omega, h.up, h.n48, h.a0, by have := h.al; omega, h.hd, h.tl⟩
theorem J.oks {i : Nat} {at_ : List Sp} {os : List Op'} (h : J i at_ os) : OkS (os, []) := ⟨h.ok, okl_nil⟩
theorem livC_all {l : List Nd} (h : AllUp l) : livC l = l.length := by
  unfold livC
  rw [List.filter_eq_self.2 fun m hm => (h m hm).1]
theorem circ_fresh {l : List Nd} {id p : Sp} (ha : Acy l) (hr : look l (0, 0) = none) (hn : look l id = none) (hid : id ≠ (0, 0)) (hp : p = (0, 0) ∨ (look l p).isSome = true) (hl : liveC l p = true) : circ l id p = false := by
  obtain ⟨n, hn'⟩ := ha p
  rw [circ_ends hn']
  have hl : p = (0, 0) ∨ (ups l n p).getLast? = some (0, 0) := by rw [← upC_eq hn']; exact (live_iff hr).1 hl
  have main : ∀ (n : Nat) (p : Sp), EndsIn l n p → (p = (0, 0) ∨ (look l p).isSome = true) → (p = (0, 0) ∨ (ups l n p).getLast? = some (0, 0)) → ov l id n p = false := by
    intro n
    induction n with
    | zero =>
      intro p h h1 _
      have hne : p ≠ id := by
        rintro rfl
        rcases h1 with h1 | h1
        · exact hid h1
        · rw [hn] at h1; cases h1
      simp [ov, hne]
    | succ n ih =>
      intro p ⟨q, hq, h⟩ h1 h2
      have hne : p ≠ id := by
        rintro rfl
        rcases h1 with h1 | h1
        · exact hid h1
        · rw [hn] at h1; cases h1
      have hp0 : p ≠ (0, 0) := by rintro rfl; simp [par, hr] at hq
      have h2 := h2.resolve_left hp0
      simp only [ups, hq] at h2
      simp only [ov, hq, hne, decide_false, Bool.false_or]
      by_cases hq0 : q = (0, 0)
      · exact ih q h (.inl hq0) (.inl hq0)
      · cases n with
        | zero => simp [ups] at h2; exact absurd h2 hq0
        | succ n =>
          have hqs : (look l q).isSome = true := by
            obtain ⟨r, hr2, _⟩ := h
            simp only [par, Option.map_eq_some_iff] at hr2
            obtain ⟨m, hm, _⟩ := hr2
            rw [hm]; rfl
          refine ih q h (.inr hqs) (.inr ?_)
          cases hu : ups l (n + 1) q with
          | nil => have := ups_len h; rw [hu] at this; simp at this
          | cons x r => rw [hu, List.getLast?_cons_cons] at h2; exact h2
  exact main n p hn' hp hl
theorem stays_step {i : Nat} {at_ : List Sp} {os : List Op'} (h : J i at_ os) (hi : i < 40) {o : Op'} (hs : o.1 = (((i + 1 : Nat) : Int), 0)) (hk : (o.2.2.2.1 == 1) = true) (ho : opOk o = true) (hp : o.2.2.2.2.2.1 ∈ at_)
    (hnode : o.2.2.2.2.1 = o.1 ∨ o.2.2.2.2.1 ≠ (0, 0) ∧ o.2.2.2.2.1 ∈ at_) (hlet : letsC (nds [] os) o = 0) (hkey : (lastK (kidsC (nds [] os) o.2.2.2.2.2.1)).data.toList < o.2.2.2.2.2.2.1.data.toList) (hd : o.2.2.1.length < 9223372036854775807) :
    shape_Apply (shp (os, []), o) = some (shp (os ++ [o], []), 0) ∧ nds [] (os ++ [o]) = putN (nds [] os) (o.2.2.2.2.1, o.2.2.2.2.2.1, o.2.2.2.2.2.2.1) ∧ J (i + 1) (if o.2.2.2.2.1 = o.1 then at_ ++ [o.2.2.2.2.1] else at_) (os ++ [o]) ∧
      (kidsC (nds [] (os ++ [o])) o.2.2.2.2.2.1).getLast? = some (o.2.2.2.2.1, o.2.2.2.2.2.1, o.2.2.2.2.2.2.1) := by
  have n0 := nds0 os
  have hr := root_none h.ok
  obtain ⟨hpl, _, hps⟩ := h.root hp
  have hm : mvOk o = true := by rw [mv_op hk]; exact ho
  have hid : o.2.2.2.2.1 ≠ (0, 0) := by
    have := (mv_parts hm).1
    intro e; rw [e] at this; cases this
  have hidt : ∀ m ∈ nds [] os, m.1.1 ≤ (i : Int) := fun m hm => by
    rcases nds_mem hm with h0 | ⟨q, hq, rfl⟩
    · cases h0
    · exact h.idt q hq
  have hfresh : look (nds [] os) o.1 = none := by
    cases hq : look (nds [] os) o.1 with
    | none => rfl
    | some m =>
      have h1 := hidt m (look_id hq).2
      rw [(look_id hq).1, hs] at h1
      have h1 : ((i + 1 : Nat) : Int) ≤ (i : Int) := h1
      omega
  have hol : ∀ a, a ∈ at_ → a ≠ (0, 0) → (look (nds [] os) a).isSome = true := fun a ha h0 => (h.root ha).2.2.resolve_left h0
  -- what is let in
  have hmv : movesC (nds [] os) o = 0 := by
    have := hlet
    unfold letsC at this
    rw [if_pos hk] at this
    exact this
  unfold movesC at hmv
  split at hmv
  · cases hmv
  rename_i c1
  split at hmv
  · cases hmv
  rename_i c2
  split at hmv
  · cases hmv
  rename_i c3
  split at hmv
  · cases hmv
  rename_i c4
  rw [hpl, Bool.true_and, decide_eq_true_eq] at c4
  have hcirc : circ (nds [] os) o.2.2.2.2.1 o.2.2.2.2.2.1 = false := by
    rcases hnode with e | ⟨e0, e⟩
    · rw [e]
      exact circ_fresh n0.2.1 hr hfresh (by rw [hs]; intro e; have := congrArg Prod.fst e; simp at this; omega) hps hpl
    · have hsome := hol _ e e0
      rw [hsome] at c2
      cases hc : circ (nds [] os) o.2.2.2.2.1 o.2.2.2.2.2.1 with
      | false => rfl
      | true => rw [hc] at c2; simp at c2
  have hlater : ∀ q ∈ os, slt q.1 o.1 := fun q hq => by
    have := h.t q hq
    rw [hs]
    exact .inl (by show q.1.1 < ((i + 1 : Nat) : Int); omega)
  obtain ⟨ap, okS⟩ := apply_end (lk := []) h.oks (by have := h.len; omega) (by decide) ho hk hlater hd
  have hnd : nds [] (os ++ [o]) = putN (nds [] os) (o.2.2.2.2.1, o.2.2.2.2.2.1, o.2.2.2.2.2.2.1) := by
    rw [nds_app]
    show doL (nds [] os) o = _
    unfold doL
    rw [hcirc]; rfl
  have hlk : ∀ a, (look (nds [] os) a).isSome = true → (look (nds [] (os ++ [o])) a).isSome = true := fun a ha => by
    rw [hnd, look_put n0.1]
    split
    · rfl
    · exact ha
  have hnew : (look (nds [] (os ++ [o])) o.2.2.2.2.1).isSome = true := by rw [hnd, look_put n0.1, if_pos rfl]; rfl
  refine ⟨ap, hnd, ?_, ?_⟩
  · refine ⟨okS.t, fun q hq => ?_, fun q hq => ?_, by simp only [List.length_append, List.length_cons, List.length_nil]; have := h.len; omega, ?_, ?_, ?_, ?_, ?_, ?_⟩
    · rcases List.mem_append.1 hq with hq | hq
      · have := h.t q hq; omega
      · rw [List.mem_singleton.1 hq, hs]; exact Int.le_refl _
    · rcases List.mem_append.1 hq with hq | hq
      · have := h.idt q hq; omega
      · rw [List.mem_singleton.1 hq]
        rcases hnode with e | ⟨e0, e⟩
        · rw [e, hs]; exact Int.le_refl _
        · obtain ⟨m, hm⟩ := Option.isSome_iff_exists.1 (hol _ e e0)
          have := hidt m (look_id hm).2
          rw [(look_id hm).1] at this
          omega
    · rw [hnd]
      exact allUp_put n0.1 n0.2.1 hr hid h.up hcirc hpl (by simp only; omega)
    · rw [hnd, put_length n0.1]
      split
      · exact h.n48
      · rename_i hno
        have : ((look (nds [] os) o.2.2.2.2.1).isSome) = false := by simpa using hno
        rw [this] at c3
        simp only [Bool.not_false, Bool.true_and, decide_eq_true_eq] at c3
        rw [livC_all h.up] at c3
        omega
    · split
      · simp
      · exact h.a0
    · have := h.al
      split
      · simp only [List.length_append, List.length_cons, List.length_nil]; omega
      · omega
    · split
      · rw [List.getElem?_append_left h.a0]; exact h.hd
      · exact h.hd
    · intro k hk1 a ha
      split at ha
      · rw [List.getElem?_append] at ha
        split at ha
        · exact hlk a (h.tl k hk1 a ha)
        · have := List.mem_of_getElem? ha
          rw [List.mem_singleton.1 this]
          exact hnew
      · exact hlk a (h.tl k hk1 a ha)
  · rw [hnd]
    exact kid_last (n := (o.2.2.2.2.1, o.2.2.2.2.2.1, o.2.2.2.2.2.2.1)) n0.1 hkey
end Go.Tr
set_option linter.unusedVariables false
set_option linter.unusedSimpArgs false
namespace Go.Tr
open Go Go.Dv Go.Ky
theorem gap_live {i : Nat} {at_ : List Sp} {os : List Op'} (h : J i at_ os) {p : Sp} (hp : p ∈ at_) :
    (gapC (nds [] os) p).2 = 5 ∨ ∃ s : L, gapC (nds [] os) p = (mkB s, 0) ∧ keyB (mkB s) = true ∧ (lastK (kidsC (nds [] os) p)).data.toList < (mkB s).data.toList := by
  have n0 := nds0 os
  have hm : mayK (lastK (kidsC (nds [] os) p)) ⟨#[]⟩ = true := by
    have e0 : empB (ByteArray.mk #[]) = true := rfl
    unfold mayK
    rw [e0, Bool.true_or, Bool.and_true]
    unfold lastK
    cases hq : (kidsC (nds [] os) p).getLast? with
    | none => rfl
    | some m =>
      have hmem := ((mem_kidsC n0.1).1 (List.mem_of_getLast? hq)).1
      simp only [(node_ok h.ok hmem).2, Bool.or_true]
  unfold gapC
  rw [if_pos (h.root hp).1, if_pos hm]
  cases hg : go 64 (lastK (kidsC (nds [] os) p)).data.toList none with
  | none => exact .inl rfl
  | some s =>
    refine .inr ⟨s, rfl, ?_, ?_⟩
    · obtain ⟨h1, h2⟩ := go_ends _ _ _ _ hg
      exact keyB_of h1 h2
    · have := go_above _ _ _ _ hg
      rw [bless_eq, decide_eq_true_eq] at this
      rw [mkB_data]; exact this
theorem letsC_cases (l : List Nd) (o : Op') (hk : (o.2.2.2.1 == 1) = true) (hl : liveC l o.2.2.2.2.2.1 = true) : letsC l o = 0 ∨ letsC l o = 2 ∨ letsC l o = 5 ∨ letsC l o = 6 := by
  unfold letsC
  rw [if_pos hk]
  unfold movesC
  rw [hl]
  simp only [Bool.not_true, Bool.and_false, Bool.false_eq_true, if_false]
  split
  · exact .inr (.inr (.inr rfl))
  · split
    · exact .inr (.inr (.inl rfl))
    · split
      · exact .inr (.inl rfl)
      · exact .inl rfl
abbrev SS : Type := List Sp × (Int × (Script_arraslaw17 × (Tree × List Lk)))
theorem pure_ShapeStays (y : El sScript_arraslaw17) (h : Bnd sScript_arraslaw17 y) : arraslaw17_ShapeStays y = some true := by
  obtain ⟨b, hb, hb2⟩ := Heavy17_eq y h
  unfold arraslaw17_ShapeStays
  rw [hb]
  simp only [Option.bind_some]
  cases b with
  | true => rfl
  | false =>
    have L := hb2 rfl
    have hL3 := L.l
    simp only [cond_false]
    generalize hf : (fun s : SS => _) = f
    have round : ∀ (i : Nat) (at_ : List Sp) (os : List Op'), i < y.2.1.length → i < 40 → J i at_ os → ∃ at' os', J (i + 1) at' os' ∧ f (at_, ((i : Int), (y, shp (os, [])))) = some (.inl (at', (((i + 1 : Nat) : Int), (y, shp (os', []))))) := by
      intro i at_ os hi1 hi2 hJ
      have e1 : (i : Int) < ((y.2.1.length : Nat) : Int) := by omega
      have e2 : (i : Int) < 40 := by omega
      have ew := wrap_nat (show i < 9223372036854775807 by omega)
      have hal := hJ.al
      obtain ⟨v, hv, hW⟩ := WithinB (y.2.1.getD i default).2.2.2.2.2.2.2.2 at_.length hJ.a0 (by omega)
      have hpm : at_.getD v default ∈ at_ := getD_mem hv
      generalize hp : at_.getD v default = p at hpm
      have hgv : getI at_ ((v : Nat) : Int) = some p := by rw [getI_D at_ v hv, hp]
      have hlen := hJ.len
      have hslot := Slot_root (s := (os, [])) p hJ.oks (by show os.length < _; omega) (by show 0 < 998000; omega)
      obtain ⟨hpl, hpk, hps⟩ := hJ.root hpm
      have hgap : gapC (made os).1 p = gapC (nds [] os) p := rfl
      rw [hgap] at hslot
      rcases gap_live hJ hpm with g5 | ⟨s, g0, gk, glt⟩
      · refine ⟨at_, os, hJ.next, ?_⟩
        subst hf
        simp only [e1, e2, decide_true, cond_true, getI_D y.2.1 i hi1, Option.bind_some, hW, hgv, hslot, num17_eq, g5, beq_self_eq_true, ew]
      · -- which node goes
        obtain ⟨b, hb7⟩ : ∃ b : Bool, (bif (3 == 0) then (none : Option Bool) else bif ((Int.tmod (i : Int) 3) == 2) then some (decide ((1 < ((List.length at_) : Int)))) else some false) = some b ∧ (b = true → 1 < at_.length) := by
          rw [show ((3 == 0) : Bool) = false from rfl, cond_false]
          cases (Int.tmod (i : Int) 3) == 2 with
          | false => exact ⟨false, rfl, by simp⟩
          | true => exact ⟨_, rfl, fun hh => by have := of_decide_eq_true hh; omega⟩
        obtain ⟨hb7, hb8⟩ := hb7
        obtain ⟨node, hnode, hnst, hx8⟩ : ∃ node : Sp, (node = (((i + 1 : Nat) : Int), (0 : Int)) ∨ node ≠ (0, 0) ∧ node ∈ at_) ∧ stOk node = true ∧
            (bif b then (((arraslaw0_Within ((y.2.1.getD i default).2.2.2.2.2.2.2.1, (IntKind.wrap .i64 (((List.length at_) : Int) - 1))))).bind fun x9 =>
              ((getI at_ (IntKind.wrap .i64 (1 + x9)))).bind fun x10 =>
              ((getI at_ (IntKind.wrap .i64 (1 + x9)))).bind fun x11 =>
              some (at_, ((i : Int), (y, (shp (os, []), (p, ((((i + 1 : Nat) : Int), (0 : Int)), (1 : Int), [0], (1 : Int), x11, p, mkB s, (0 : Int), (0 : Int)))))))) else
            some (at_, ((i : Int), (y, (shp (os, []), (p, ((((i + 1 : Nat) : Int), (0 : Int)), (1 : Int), [0], (1 : Int), (((i + 1 : Nat) : Int), (0 : Int)), p, mkB s, (0 : Int), (0 : Int)))))))) =
              some (at_, ((i : Int), (y, (shp (os, []), (p, mvo ((i + 1 : Nat) : Int) node p (mkB s)))))) := by
          cases b with
          | false => exact ⟨(((i + 1 : Nat) : Int), (0 : Int)), .inl rfl, st_small (by omega) (by omega), rfl⟩
          | true =>
            have h1 := hb8 rfl
            have hw1 : IntKind.wrap .i64 (((List.length at_) : Int) - 1) = ((at_.length - 1 : Nat) : Int) := by rw [Go.Dv.wrap_small] <;> omega
            obtain ⟨w, hw, hW2⟩ := WithinB (y.2.1.getD i default).2.2.2.2.2.2.2.1 (at_.length - 1) (by omega) (by omega)
            have hw2 : IntKind.wrap .i64 (1 + ((w : Nat) : Int)) = ((w + 1 : Nat) : Int) := by rw [Go.Dv.wrap_small] <;> omega
            have hwl : w + 1 < at_.length := by omega
            have hsome := hJ.tl (w + 1) (by omega) _ (List.getElem?_eq_getElem hwl)
            have hD : at_.getD (w + 1) default = at_[w + 1] := by rw [List.getD_eq_getElem?_getD, List.getElem?_eq_getElem hwl]; rfl
            obtain ⟨m, hm⟩ := Option.isSome_iff_exists.1 hsome
            have hst := (node_ok hJ.ok (look_id hm).2).1
            rw [(look_id hm).1] at hst
            refine ⟨at_[w + 1], .inr ⟨fun e => ?_, List.getElem_mem hwl⟩, hst, ?_⟩
            · rw [e] at hst; cases hst
            · simp only [cond_true, Option.bind_some, hw1, hW2, hw2, getI_D at_ (w + 1) hwl, hD]
              rfl
        have hok : opOk (mvo ((i + 1 : Nat) : Int) node p (mkB s)) = true := mvo_ok (st_small (by omega) (by omega)) hnst hpk gk
        have hmay : shape_May (shp (os, []), mvo ((i + 1 : Nat) : Int) node p (mkB s)) = some (letsC (nds [] os) (mvo ((i + 1 : Nat) : Int) node p (mkB s))) :=
          May_ok hJ.oks (by show os.length < _; omega) (by show 0 < 998000; omega) hok (by show 1 < _; omega)
        have hstart : f (at_, ((i : Int), (y, shp (os, [])))) = f (at_, ((i : Int), (y, shp (os, [])))) := rfl
        by_cases hl0 : letsC (nds [] os) (mvo ((i + 1 : Nat) : Int) node p (mkB s)) = 0
        · obtain ⟨ap, hnd, hJ', hlast⟩ := stays_step hJ hi2 (o := mvo ((i + 1 : Nat) : Int) node p (mkB s)) rfl rfl hok hpm hnode hl0 glt (by show 1 < _; omega)
          refine ⟨_, _, hJ', ?_⟩
          have n0 := nds0 os
          have n1 := nds0 (os ++ [mvo ((i + 1 : Nat) : Int) node p (mkB s)])
          have hl1 : (os ++ [mvo ((i + 1 : Nat) : Int) node p (mkB s)]).length ≤ 41 := by simp only [List.length_append, List.length_cons, List.length_nil]; omega
          have hr1 := root_none hJ'.ok
          have hlk : look (nds [] (os ++ [mvo ((i + 1 : Nat) : Int) node p (mkB s)])) node = some (node, p, mkB s) := by
            rw [hnd, look_put n0.1]
            exact if_pos rfl
          have hup := hJ'.up
          have hnds : (made (os ++ [mvo ((i + 1 : Nat) : Int) node p (mkB s)])).1 = nds [] (os ++ [mvo ((i + 1 : Nat) : Int) node p (mkB s)]) := rfl
          have hlast : (kidsC (nds [] (os ++ [mvo ((i + 1 : Nat) : Int) node p (mkB s)])) p).getLast? = some (node, p, mkB s) := hlast
          generalize hos : os ++ [mvo ((i + 1 : Nat) : Int) node p (mkB s)] = os' at *
          have hsmn : Sm (made os').1 := by show (nds [] os').length < _; omega
          have hfind := rFind_eq (l := (made os').1) node n1.1 hsmn
          have hfv : fnd (made os').1 node = ((posN (nds [] os') node : Nat) : Int) := by
            show (if (look (nds [] os') node).isSome = true then _ else _) = _
            rw [hlk]; rfl
          rw [hfv] at hfind
          have hge := getI_pos n1.1 hlk
          have hkids : arrasref16_Kids (made os', p) = some ((kidsC (nds [] os') p).map fun x => x.1) := by
            rw [rKids_eq (t := made os') p n1.1 hsmn (by show (nds [] os').length < _; omega), show (made os').1 = nds [] os' from rfl, kidsC_eq p n1.1]
          have hkl : (kidsC (nds [] os') p).length ≤ (nds [] os').length := by rw [← kidsC_eq p n1.1]; exact kids_len _ _
          have hkpos : 0 < (kidsC (nds [] os') p).length := by
            cases hq : kidsC (nds [] os') p with
            | nil => rw [hq] at hlast; cases hlast
            | cons a r => simp
          have hwk : IntKind.wrap .i64 ((((kidsC (nds [] os') p).map fun x => x.1).length : Int) - 1) = (((kidsC (nds [] os') p).length - 1 : Nat) : Int) := by
            rw [List.length_map, Go.Dv.wrap_small] <;> omega
          have hgk : getI ((kidsC (nds [] os') p).map fun x => x.1) (((kidsC (nds [] os') p).length - 1 : Nat) : Int) = some node := by
            rw [getI_nat, List.getElem?_map, ← List.getLast?_eq_getElem?, hlast]; rfl
          have e0 : ¬ (((posN (nds [] os') node : Nat) : Int) < 0) := by omega
          -- the round's end: all live, none too deep
          subst hf
          simp only [e1, e2, decide_true, cond_true, getI_D y.2.1 i hi1, Option.bind_some, hW, hgv, hslot, num17_eq, g0, show ((0 : Int) == 5) = false from rfl, show ((0 : Int) != 0) = false from rfl, cond_false, hb7, ew]
          rw [hx8]
          simp only [Option.bind_some, hmay, hl0, ap, num17_eq, show ((0 : Int) == 6) = false from rfl, show ((0 : Int) == 2) = false from rfl, show ((0 : Int) == 5) = false from rfl, show ((0 : Int) != 0) = false from rfl, cond_false]
          have hge' : getI (made os').1 ((posN (nds [] os') node : Nat) : Int) = some (node, p, mkB s) := hge
          have hat : (bif decide (node = (((i + 1 : Nat) : Int), (0 : Int))) then (bif room (List.length (at_ ++ [node])) 16 then some ((at_ ++ [node]), ((i : Int), (y, (shp (os', []), (p, (mvo ((i + 1 : Nat) : Int) node p (mkB s), shp (os', []))))))) else none) else
              some (at_, ((i : Int), (y, (shp (os', []), (p, (mvo ((i + 1 : Nat) : Int) node p (mkB s), shp (os', [])))))))) = some ((if node = (((i + 1 : Nat) : Int), (0 : Int)) then at_ ++ [node] else at_), ((i : Int), (y, (shp (os', []), (p, (mvo ((i + 1 : Nat) : Int) node p (mkB s), shp (os', []))))))) := by
            have hrm : room (List.length (at_ ++ [node])) 16 = true := room_small (by simp only [List.length_append, List.length_cons, List.length_nil]; omega) (by decide)
            rw [hrm]
            by_cases c : node = (((i + 1 : Nat) : Int), (0 : Int))
            · rw [decide_eq_true c, if_pos c]; rfl
            · rw [decide_eq_false c, if_neg c]; rfl
          have hst1 : (mvo ((i + 1 : Nat) : Int) node p (mkB s)).1 = (((i + 1 : Nat) : Int), (0 : Int)) := rfl
          have hst2 : (mvo ((i + 1 : Nat) : Int) node p (mkB s)).2.2.2.2.1 = node := rfl
          simp only [hst1, hst2]
          rw [show ((node.1 == (((i + 1 : Nat) : Int), (0 : Int)).1) && (node.2 == (((i + 1 : Nat) : Int), (0 : Int)).2)) = decide (node = (((i + 1 : Nat) : Int), (0 : Int))) from two_eq node _]
          rw [hat]
          simp only [Option.bind_some, hst1, hst2]
          generalize (if node = (((i + 1 : Nat) : Int), (0 : Int)) then at_ ++ [node] else at_) = A
          rw [show (shp (os', [])).1.1 = (made os').1 from rfl, show (shp (os', [])).1 = made os' from rfl]
          simp only [hfind, Option.bind_some, e0, decide_false, cond_false, hge', two_eq, decide_true, Bool.not_true, hkids, hwk, hgk]
          rw [iter_run' (inv := fun k : Nat => (A, ((i : Int), ((k : Int), (y, (shp (os', []), (p, (mvo ((i + 1 : Nat) : Int) node p (mkB s), shp (os', []))))))))) (k := (nds [] os').length) (r := .inl (A, ((i : Int), (y, (shp (os', []), (p, (mvo ((i + 1 : Nat) : Int) node p (mkB s), shp (os', []))))))))]
          · simp only [Option.bind_some, ew]
          · intro k hk
            have hk' : k < (made os').1.length := hk
            have e4 : (k : Int) < (((made os').1.length : Nat) : Int) := by omega
            have hm := getD_mem hk'
            generalize hmd : (made os').1.getD k default = m at hm
            obtain ⟨u1, u2⟩ := hup m hm
            have hlm := look_mem n1.1 hm
            have hab := rAbove_C (t := made os') m.1 n1.1 (by show (nds [] os').length < _; omega) n1.2.1
            rw [show look (made os').1 m.1 = some m from hlm, if_pos (show (some m).isSome = true from rfl)] at hab
            have hm0 : m.1 ≠ (0, 0) := by
              intro e
              have h5 : look (nds [] os') m.1 = some m := hlm
              rw [e, hr1] at h5; cases h5
            have hla := ((live_iff hr1).1 u1).resolve_left hm0
            have hla : (upC (made os').1 m.1).getLast? = some (0, 0) := hla
            have u2 : (upC (made os').1 m.1).length ≤ 12 := u2
            have hlp : 0 < (upC (made os').1 m.1).length := by
              cases hq : upC (made os').1 m.1 with
              | nil => rw [hq] at hla; cases hla
              | cons a r => simp
            have hwa : IntKind.wrap .i64 (((upC (made os').1 m.1).length : Int) - 1) = (((upC (made os').1 m.1).length - 1 : Nat) : Int) := by rw [Go.Dv.wrap_small] <;> omega
            have hga : getI (upC (made os').1 m.1) (((upC (made os').1 m.1).length - 1 : Nat) : Int) = some ((0 : Int), (0 : Int)) := by
              rw [getI_nat, ← List.getLast?_eq_getElem?]; exact hla
            have e5 : ¬ (12 : Int) < (((upC (made os').1 m.1).length : Nat) : Int) := by omega
            rw [show (shp (os', [])).1.1 = (made os').1 from rfl, show (shp (os', [])).1 = made os' from rfl]
            simp only [e4, decide_true, cond_true, getI_D (made os').1 k hk', hmd, Option.bind_some, hab, Bool.not_true, cond_false, e5, decide_false, hwa, hga, rroot_eq, wrap_nat (show k < 9223372036854775807 by omega)]
            rfl
          · have e4 : ¬ ((((nds [] os').length : Nat) : Int) < (((made os').1.length : Nat) : Int)) := by
              show ¬ ((((nds [] os').length : Nat) : Int) < (((nds [] os').length : Nat) : Int)); omega
            rw [show (shp (os', [])).1.1 = (made os').1 from rfl]
            simp only [e4, decide_false, cond_false]
        · have hc := letsC_cases (nds [] os) (mvo ((i + 1 : Nat) : Int) node p (mkB s)) rfl hpl
          refine ⟨at_, os, hJ.next, ?_⟩
          subst hf
          simp only [e1, e2, decide_true, cond_true, getI_D y.2.1 i hi1, Option.bind_some, hW, hgv, hslot, num17_eq, g0, show ((0 : Int) == 5) = false from rfl, show ((0 : Int) != 0) = false from rfl, cond_false, hb7, ew]
          rw [hx8]
          simp only [Option.bind_some, hmay, num17_eq]
          rcases hc with hc | hc | hc | hc
          · exact absurd hc hl0
          · rw [hc]; simp only [show ((2 : Int) == 6) = false from rfl, show ((2 : Int) == 2) = true from rfl, cond_true, cond_false, ew]
          · rw [hc]; simp only [show ((5 : Int) == 6) = false from rfl, show ((5 : Int) == 2) = false from rfl, show ((5 : Int) == 5) = true from rfl, cond_true, cond_false, ew]
          · rw [hc]; simp only [show ((6 : Int) == 6) = true from rfl, cond_true, cond_false, ew]
    have hend : ∀ (i : Nat) (at_ : List Sp) (z : Tree × List Lk), ¬ (i < y.2.1.length ∧ i < 40) → f (at_, ((i : Int), (y, z))) = some (.inr (.inl (y, z))) := by
      intro i at_ z hc
      subst hf
      by_cases c : i < y.2.1.length
      · have e1 : (i : Int) < ((y.2.1.length : Nat) : Int) := by omega
        have e2 : ¬ (i : Int) < 40 := by omega
        simp only [e1, e2, decide_true, decide_false, cond_true, cond_false]
      · have e1 : ¬ (i : Int) < ((y.2.1.length : Nat) : Int) := by omega
        simp only [e1, decide_false, cond_false]
    have main : ∀ (d i : Nat) (at_ : List Sp) (os : List Op'), min y.2.1.length 40 - i = d → i ≤ 40 → J i at_ os → ∃ os' at' i', J i' at' os' ∧ iter f (at_, ((i : Int), (y, shp (os, [])))) = some (.inl (y, shp (os', []))) := by
      intro d
      induction d with
      | zero => intro i at_ os hd hi hJ; exact ⟨os, at_, i, hJ, iter_inr (hend i at_ _ (by omega))⟩
      | succ d ih =>
        intro i at_ os hd hi hJ
        obtain ⟨at', os', hJ', hf'⟩ := round i at_ os (by omega) (by omega) hJ
        obtain ⟨o2, a2, i2, h2, h3⟩ := ih (i + 1) at' os' (by omega) (by omega) hJ'
        exact ⟨o2, a2, i2, h2, by rw [iter_inl hf']; exact h3⟩
    have J0 : J 0 [((0 : Int), (0 : Int))] [] := ⟨⟨by simp, by simp [SrtO]⟩, by simp, by simp, by simp, by simp [AllUp, nds], by simp [nds], by simp, by simp, rfl, fun k hk a ha => by
      cases k with
      | zero => omega
      | succ k => simp at ha⟩
    obtain ⟨os', at', i', hJ, hit⟩ := main _ 0 _ [] rfl (by omega) J0
    rw [show (([((0 : Int), (0 : Int))], ((0 : Int), (y, ((([], []), []) : Tree × List Lk)))) : SS) = ([((0 : Int), (0 : Int))], (((0 : Nat) : Int), (y, shp ([], [])))) from rfl, hit]
    have e6 : (((shp (os', [])).1.1.length : Nat) : Int) ≤ 48 := by
      have := hJ.n48
      show (((nds [] os').length : Nat) : Int) ≤ 48
      omega
    simp only [Option.bind_some, e6, decide_true, cond_true, wakes17_eq]
end Go.Tr
