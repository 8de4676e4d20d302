/- A part of the proof: TrP6, TrP7, TrP8, TrP9, TrH, TrU. -/
import Derived.Test.YtjjhppjdnbahjaaGreatTrB
set_option linter.unusedVariables false
set_option linter.unusedSimpArgs false
namespace Go.Tr
open Go Go.Dv
abbrev Op' : Type := Go.Dv.Op
def nds (l : List Nd) (os : List Op') : List Nd := os.foldl doL l
def ens : List Nd → List Op' → List Entry
  | _, [] => []
  | l, o :: os => doE l o :: ens (doL l o) os
def made (os : List Op') : Tree := (nds [] os, ens [] os)
theorem nds_app (l : List Nd) (a b : List Op') : nds l (a ++ b) = nds (nds l a) b := by simp [nds]
theorem u5O : ∀ (l : List Nd) (a b : List Op'), ens l (a ++ b) = ens l a ++ ens (nds l a) b
  | _, [], _ => rfl
  | l, o :: a, b => by simp only [List.cons_append, ens, u5O (doL l o) a b]; rfl
theorem u2i : ∀ (l : List Nd) (a : List Op'), (ens l a).length = a.length
  | _, [] => rfl
  | l, o :: a => by simp [ens, u2i (doL l o) a]
theorem ens_op : ∀ (l : List Nd) (a : List Op'), (ens l a).map (·.1) = a
  | _, [] => rfl
  | l, o :: a => by simp [ens, ens_op (doL l o) a, doE]
theorem ens_get : ∀ {l : List Nd} {a : List Op'} {i : Nat} {o : Op'}, a[i]? = some o → (ens l a)[i]? = some (doE (nds l (a.take i)) o)
  | l, q :: a, 0, o, h => by simp at h; subst h; simp [ens, nds]
  | l, q :: a, i + 1, o, h => by
    have h : a[i]? = some o := by simpa using h
    simp only [ens, List.getElem?_cons_succ, ens_get h, List.take_succ_cons]; rfl
theorem nds_inv : ∀ {l : List Nd} (os : List Op'), Srt l → Acy l → Srt (nds l os) ∧ Acy (nds l os) ∧ (nds l os).length ≤ l.length + os.length
  | l, [], hs, ha => ⟨hs, ha, Nat.le_refl _⟩
  | l, o :: os, hs, ha => by
    obtain ⟨h1, h2, h3⟩ := nds_inv (l := doL l o) os (doL_srt hs) (doL_acy hs ha)
    refine ⟨h1, h2, Nat.le_trans h3 ?_⟩
    have := doL_len (l := l) (o := o)
    simp only [List.length_cons]; omega
theorem nds0 (os : List Op') : Srt (nds [] os) ∧ Acy (nds [] os) ∧ (nds [] os).length ≤ os.length := by
  have := nds_inv os (l := []) (by simp [Srt]) acy_nil
  simpa using this
theorem u6L {o : Op'} (h : mvOk o = true) : o.2.2.1.length ≤ 16 ∧ 1 ≤ o.2.2.1.length := by
  simp only [mvOk, Bool.and_eq_true] at h
  have := h.1.1.1.1.1.1.1.1.1.2
  simp only [vecOk, Bool.and_eq_true, decide_eq_true_eq] at this
  exact ⟨this.2, this.1.2⟩
def SrtO (os : List Op') : Prop := os.Pairwise fun a b => slt a.1 b.1
noncomputable def okAt (t : Tree) (i : Nat) : Bool :=
  mvOk (t.2.getD i default).1 && (decide (i = 0) || decide (slt (t.2.getD (i - 1) default).1.1 (t.2.getD i default).1.1)) && decide (doE (nds [] ((t.2.take i).map (·.1))) (t.2.getD i default).1 = t.2.getD i default)
noncomputable def mayB (t : Tree) : Bool := (List.range t.2.length).all (okAt t) && decide (nds [] (t.2.map (·.1)) = t.1)
theorem u4g (a b : Op') : u4F (a, b) = some (decide (slt a.1 b.1)) := by
  simp [u4F, u1R, u21]
theorem take_succ_nds {t : Tree} {i : Nat} (h : i < t.2.length) : nds [] ((t.2.take (i + 1)).map (·.1)) = doL (nds [] ((t.2.take i).map (·.1))) (t.2.getD i default).1 := by
  have e : t.2.getD i default = t.2[i] := by simp [List.getD_eq_getElem?_getD, h]
  rw [List.take_add_one, List.getElem?_eq_getElem h, e]
  simp only [List.map_append, Option.toList, List.map_cons, List.map_nil, nds, List.foldl_append, List.foldl_cons, List.foldl_nil]
theorem May_eq (t : Tree) (h : Sm t.2) (hd : ∀ e ∈ t.2, Sm e.1.2.2.1) : u4M t = some (mayB t) := by
  have h' : t.2.length < 1000000 := h
  unfold u4M
  rw [u16 (inv := fun i => (t.2, ((t.2.length : Int), ((i : Int), (t, nds [] ((t.2.take i).map (·.1))))))) (n := t.2.length) (ok := okAt t) (good := .inl (t, nds [] (t.2.map (·.1)))) (bad := .inr false)]
  · unfold mayB
    cases (List.range t.2.length).all (okAt t) with
    | false => simp
    | true =>
      simp only [if_true, Option.bind_some]
      rw [Equal_Node_eq _ _ (by have := (nds0 (t.2.map (·.1))).2.2; rw [List.length_map] at this; omega)]
      simp
  · intro i hi hok
    simp only [okAt, Bool.and_eq_true, Bool.or_eq_true, decide_eq_true_eq] at hok
    obtain ⟨⟨hk1, hk2⟩, hk3⟩ := hok
    have h1 : (i : Int) < (t.2.length : Int) := by omega
    have hn := nds0 ((t.2.take i).map (·.1))
    have hnl : Sm (nds [] ((t.2.take i).map (·.1))) := by
      have := hn.2.2; simp only [List.length_map, List.length_take] at this; unfold Sm; omega
    have hdep : Sm (t.2.getD i default).1.2.2.1 := hd _ (u0j hi)
    have hdep' : (t.2.getD i default).1.2.2.1.length < 1000000 := hdep
    have hdo := do_eq (t.2.getD i default).1 hn.1 hnl hn.2.1 hdep
    simp only [h1, decide_true, cond_true, u09 t.2 i hi, Option.bind_some, u5R _ (show (t.2.getD i default).1.2.2.1.length < 9223372036854775807 by omega), hk1, Bool.not_true, cond_false]
    have hsame : u34 (doE (nds [] ((t.2.take i).map (·.1))) (t.2.getD i default).1, t.2.getD i default) = some true := by
      rw [u5Q _ _ (by show (t.2.getD i default).1.2.2.1.length < _; omega), decide_eq_true hk3]
    rw [u04 (by omega), take_succ_nds hi]
    by_cases h0 : i = 0
    · subst h0
      simp only [Int.lt_irrefl, decide_false, cond_false, hdo, Option.bind_some, hsame, Bool.not_true, show ¬ ((0 : Int) < ((0 : Nat) : Int)) from by omega]
    · have h00 : (0 : Int) < (i : Int) := by omega
      have hw : IntKind.wrap .i64 ((i : Int) - 1) = ((i - 1 : Nat) : Int) := by rw [wrap_small] <;> omega
      have hlt : slt (t.2.getD (i - 1) default).1.1 (t.2.getD i default).1.1 := hk2.resolve_left h0
      simp only [h00, decide_true, cond_true, hw, u09 t.2 (i - 1) (by omega), Option.bind_some, u4g, hlt, Bool.not_true, cond_false, hdo, hsame]
  · intro i hi hok
    have h1 : (i : Int) < (t.2.length : Int) := by omega
    have hn := nds0 ((t.2.take i).map (·.1))
    have hnl : Sm (nds [] ((t.2.take i).map (·.1))) := by
      have := hn.2.2; simp only [List.length_map, List.length_take] at this; unfold Sm; omega
    have hdep : Sm (t.2.getD i default).1.2.2.1 := hd _ (u0j hi)
    have hdep' : (t.2.getD i default).1.2.2.1.length < 1000000 := hdep
    have hdo := do_eq (t.2.getD i default).1 hn.1 hnl hn.2.1 hdep
    have hsame := u5Q (doE (nds [] ((t.2.take i).map (·.1))) (t.2.getD i default).1) (t.2.getD i default) (by show (t.2.getD i default).1.2.2.1.length < _; omega)
    simp only [h1, decide_true, cond_true, u09 t.2 i hi, Option.bind_some, u5R _ (show (t.2.getD i default).1.2.2.1.length < 9223372036854775807 by omega)]
    cases hk1 : mvOk (t.2.getD i default).1 with
    | false => simp
    | true =>
      simp only [Bool.not_true, cond_false]
      simp only [okAt, hk1, Bool.true_and] at hok
      by_cases h0 : i = 0
      · subst h0
        have hk3 : decide (doE (nds [] ((t.2.take 0).map (·.1))) (t.2.getD 0 default).1 = t.2.getD 0 default) = false := by simpa only [decide_true, Bool.true_or, Bool.true_and] using hok
        rw [hk3] at hsame
        simp only [Int.lt_irrefl, decide_false, cond_false, hdo, Option.bind_some, hsame, Bool.not_false, cond_true, show ¬ ((0 : Int) < ((0 : Nat) : Int)) from by omega]
      · have h00 : (0 : Int) < (i : Int) := by omega
        have hw : IntKind.wrap .i64 ((i : Int) - 1) = ((i - 1 : Nat) : Int) := by rw [wrap_small] <;> omega
        simp only [h00, decide_true, cond_true, hw, u09 t.2 (i - 1) (by omega), Option.bind_some, u4g]
        by_cases hlt : slt (t.2.getD (i - 1) default).1.1 (t.2.getD i default).1.1
        · have hk3 : decide (doE (nds [] ((t.2.take i).map (·.1))) (t.2.getD i default).1 = t.2.getD i default) = false := by simpa only [h0, hlt, decide_true, decide_false, Bool.false_or, Bool.true_and] using hok
          rw [hk3] at hsame
          simp only [hlt, decide_true, Bool.not_true, cond_false, hdo, Option.bind_some, hsame, Bool.not_false, cond_true]
        · simp only [hlt, decide_false, Bool.not_false, cond_true]
  · simp only [Int.lt_irrefl, decide_false, cond_false, List.take_length]
structure OkT (os : List Op') : Prop where
  mv : ∀ o ∈ os, mvOk o = true
  srt : SrtO os
theorem srtO_of {os : List Op'} (h : ∀ i, i + 1 < os.length → slt (os.getD i default).1 (os.getD (i + 1) default).1) : SrtO os := by
  unfold SrtO
  rw [List.pairwise_iff_getElem]
  intro i j hi hj hij
  have key : ∀ d, i + d + 1 < os.length → slt (os.getD i default).1 (os.getD (i + d + 1) default).1 := by
    intro d
    induction d with
    | zero => intro hd; exact h i hd
    | succ d ih =>
      intro hd
      exact u2s (ih (by omega)) (by have := h (i + d + 1) (by omega); rwa [show i + d + 1 + 1 = i + (d + 1) + 1 by omega] at this)
  have := key (j - i - 1) (by omega)
  rw [show i + (j - i - 1) + 1 = j by omega] at this
  simpa [List.getD_eq_getElem?_getD, hi, hj] using this
theorem mayB_made {os : List Op'} (h : OkT os) : mayB (made os) = true := by
  have hlen : (made os).2.length = os.length := u2i _ _
  have hmap : (made os).2.map (·.1) = os := ens_op _ _
  have hget : ∀ i, i < os.length → (made os).2.getD i default = doE (nds [] (os.take i)) (os.getD i default) := by
    intro i hi
    have := ens_get (l := []) (List.getElem?_eq_getElem hi)
    simp only [made, List.getD_eq_getElem?_getD, this, List.getElem?_eq_getElem hi, Option.getD_some]
  unfold mayB
  rw [Bool.and_eq_true, List.all_eq_true, decide_eq_true_iff, hmap]
  refine ⟨fun i hi => ?_, rfl⟩
  have hi := List.mem_range.1 hi
  rw [hlen] at hi
  have hop : ((made os).2.getD i default).1 = os.getD i default := by rw [hget i hi]; rfl
  simp only [okAt, Bool.and_eq_true, Bool.or_eq_true, decide_eq_true_eq, hop]
  refine ⟨⟨h.mv _ (u0j hi), ?_⟩, ?_⟩
  · by_cases h0 : i = 0
    · exact .inl h0
    · right
      rw [show ((made os).2.getD (i - 1) default).1 = os.getD (i - 1) default by rw [hget _ (by omega)]; rfl]
      have := h.srt
      unfold SrtO at this
      rw [List.pairwise_iff_getElem] at this
      have := this (i - 1) i (by omega) hi (by omega)
      simpa [List.getD_eq_getElem?_getD, hi, show i - 1 < os.length by omega] using this
  · rw [hget i hi, List.map_take, hmap]
theorem mayB_ok {t : Tree} (h : mayB t = true) : OkT (t.2.map (·.1)) ∧ t = made (t.2.map (·.1)) := by
  unfold mayB at h
  rw [Bool.and_eq_true, List.all_eq_true, decide_eq_true_iff] at h
  obtain ⟨h1, h2⟩ := h
  have at_ : ∀ i, i < t.2.length → mvOk (t.2.getD i default).1 = true ∧ (i = 0 ∨ slt (t.2.getD (i - 1) default).1.1 (t.2.getD i default).1.1) ∧ doE (nds [] ((t.2.take i).map (·.1))) (t.2.getD i default).1 = t.2.getD i default := by
    intro i hi
    have := h1 i (List.mem_range.2 hi)
    simp only [okAt, Bool.and_eq_true, Bool.or_eq_true, decide_eq_true_eq] at this
    exact ⟨this.1.1, this.1.2, this.2⟩
  have hmd : ∀ i, i < t.2.length → (t.2.map (·.1)).getD i default = (t.2.getD i default).1 := by
    intro i hi; simp [List.getD_eq_getElem?_getD, hi]
  refine ⟨⟨fun o ho => ?_, srtO_of fun i hi => ?_⟩, ?_⟩
  · obtain ⟨e, he, rfl⟩ := List.mem_map.1 ho
    obtain ⟨i, hi, rfl⟩ := List.mem_iff_getElem.1 he
    have := (at_ i hi).1
    simpa [List.getD_eq_getElem?_getD, hi] using this
  · rw [List.length_map] at hi
    rw [hmd i (by omega), hmd (i + 1) hi]
    have := (at_ (i + 1) hi).2.1.resolve_left (by omega)
    simpa using this
  · refine Prod.ext h2.symm ?_
    show t.2 = ens [] (t.2.map (·.1))
    apply List.ext_getElem?
    intro i
    by_cases hi : i < t.2.length
    · have hm : (t.2.map (·.1))[i]? = some (t.2.getD i default).1 := by simp [List.getD_eq_getElem?_getD, hi]
      rw [ens_get hm]
      have := (at_ i hi).2.2
      rw [← List.map_take, this]
      simp [List.getD_eq_getElem?_getD, hi]
    · rw [List.getElem?_eq_none (by omega), List.getElem?_eq_none (by rw [u2i, List.length_map]; omega)]
end Go.Tr
set_option linter.unusedVariables false
set_option linter.unusedSimpArgs false
namespace Go.Tr
open Go Go.Dv
def insO : List Op' → Op' → List Op'
  | [], o => [o]
  | q :: os, o => if slt o.1 q.1 then o :: q :: os else q :: insO os o
def posO : List Op' → Sp → Nat
  | [], _ => 0
  | q :: os, s => if slt s q.1 then 0 else posO os s + 1
theorem posO_le : ∀ (os : List Op') (s : Sp), posO os s ≤ os.length
  | [], _ => Nat.le_refl _
  | q :: os, s => by simp only [posO]; split <;> simp [posO_le os s]
theorem u5K : ∀ (os : List Op') (o : Op'), insO os o = os.take (posO os o.1) ++ o :: os.drop (posO os o.1)
  | [], _ => rfl
  | q :: os, o => by simp only [insO, posO]; split <;> simp [u5K os o]
theorem u6E : ∀ {os : List Op'} {s : Sp} {i : Nat} {q : Op'}, SrtO os → os[i]? = some q → (posO os s ≤ i ↔ slt s q.1)
  | [], _, _, _, _, h => by simp at h
  | p :: os, s, 0, q, hs, h => by
    simp at h; subst h
    simp only [posO]; split <;> simp_all
  | p :: os, s, i + 1, q, hs, h => by
    have h : os[i]? = some q := by simpa using h
    obtain ⟨h1, h2⟩ := List.pairwise_cons.1 hs
    have hpq := h1 q (List.mem_of_getElem? h)
    simp only [posO]
    split
    · rename_i c; exact ⟨fun _ => u2s c hpq, fun _ => Nat.zero_le _⟩
    · rw [Nat.add_le_add_iff_right]; exact u6E h2 h
theorem insO_mem {os : List Op'} {o q : Op'} (h : q ∈ insO os o) : q = o ∨ q ∈ os := by
  rw [u5K] at h
  rcases List.mem_append.1 h with h | h
  · exact .inr (List.mem_of_mem_take h)
  · rcases List.mem_cons.1 h with h | h
    · exact .inl h
    · exact .inr (List.mem_of_mem_drop h)
theorem insO_srt : ∀ {os : List Op'} {o : Op'}, SrtO os → (∀ q ∈ os, q.1 ≠ o.1) → SrtO (insO os o)
  | [], o, _, _ => by simp [insO, SrtO]
  | p :: os, o, hs, hn => by
    obtain ⟨h1, h2⟩ := List.pairwise_cons.1 hs
    simp only [insO]
    split
    · rename_i c
      refine List.pairwise_cons.2 ⟨fun q hq => ?_, hs⟩
      rcases List.mem_cons.1 hq with rfl | hq
      · exact c
      · exact u2s c (h1 q hq)
    · rename_i c
      have hg : slt p.1 o.1 := by
        rcases u3X p.1 o.1 with k | k | k
        · exact k
        · exact absurd k (hn p (List.mem_cons_self ..))
        · exact absurd k c
      refine List.pairwise_cons.2 ⟨fun q hq => ?_, insO_srt h2 fun q hq => hn q (List.mem_cons_of_mem _ hq)⟩
      rcases insO_mem hq with rfl | hq
      · exact hg
      · exact h1 q hq
theorem insO_ok {os : List Op'} {o : Op'} (h : OkT os) (ho : mvOk o = true) (hn : ∀ q ∈ os, q.1 ≠ o.1) : OkT (insO os o) :=
  ⟨fun q hq => by rcases insO_mem hq with rfl | hq; exact ho; exact h.mv q hq, insO_srt h.srt hn⟩
theorem insO_len (os : List Op') (o : Op') : (insO os o).length = os.length + 1 := by
  have := posO_le os o.1
  rw [u5K]; simp only [List.length_append, List.length_take, List.length_cons, List.length_drop]; omega
def hasO (os : List Op') (s : Sp) : Bool := os.any fun q => decide (q.1 = s)

theorem u0W {σ ρ : Type} {f : σ → Option (σ ⊕ ρ)} {r : ρ} {s0 : σ} (inv : Nat → σ) (k : Nat) (hs : ∀ i, i < k → f (inv i) = some (.inl (inv (i + 1)))) (hf : f (inv k) = some (.inr r)) (h0 : s0 = inv 0 := by rfl) : iter f s0 = some r := by
  subst h0; exact iter_run inv k hs hf
theorem doE_op (l : List Nd) (o : Op') : (doE l o).1 = o := rfl

theorem ok_deps {os : List Op'} (h : OkT os) {l : List Nd} : ∀ e ∈ ens l os, Sm e.1.2.2.1 := by
  intro e he
  have : e.1 ∈ os := by rw [← ens_op l os]; exact List.mem_map_of_mem he
  have := (u6L (h.mv _ this)).1
  unfold Sm; omega
def mk_ {α : Type} (l : List α) (i : Nat) : List (Bool × α) := (l.take i).map (fun x => (true, x)) ++ (l.drop i).map (fun x => (false, x))
theorem mk_0 {α : Type} (l : List α) : mk_ l 0 = mkM l := by simp [mk_, mkM]
theorem mk_get {α : Type} [Inhabited α] {l : List α} {i : Nat} (h : i < l.length) : getI (mk_ l i) (i : Int) = some (false, l.getD i default) := by
  rw [u0p, mk_, List.getElem?_append_right (by simp; omega)]
  simp only [List.length_map, List.length_take, Nat.min_eq_left (Nat.le_of_lt h), Nat.sub_self]
  rw [List.getElem?_map, List.getElem?_drop, Nat.add_zero, List.getElem?_eq_getElem h]
  simp [List.getD_eq_getElem?_getD, h]
theorem mk_set {α : Type} [Inhabited α] {l : List α} {i : Nat} (h : i < l.length) : (mk_ l i).set i (true, l.getD i default) = mk_ l (i + 1) := by
  unfold mk_
  rw [List.set_append_right _ _ (by simp; omega)]
  simp only [List.length_map, List.length_take, Nat.min_eq_left (Nat.le_of_lt h), Nat.sub_self]
  rw [List.drop_eq_getElem_cons h, List.map_cons, List.set_cons_zero, List.take_succ_eq_append_getElem h, List.map_append, List.append_assoc]
  simp [List.getD_eq_getElem?_getD, h]
theorem mk_all {α : Type} (l : List α) : allM (mk_ l l.length) = true := by simp [mk_, allM]
theorem mk_un {α : Type} (l : List α) : unM (mk_ l l.length) = l := by simp [mk_, unM, List.map_map, Function.comp_def]
theorem Own_eq (t : Tree) (h1 : Sm t.1) (h2 : Sm t.2) (hd : ∀ e ∈ t.2, Sm e.1.2.2.1) : u4L t = some t := by
  have h1' : t.1.length < 1000000 := h1
  have h2' : t.2.length < 1000000 := h2
  unfold u4L
  simp only [u03 (show t.1.length ≤ 1000000 by omega) (show 48 ≤ 1000000 by decide), u03 (show t.2.length ≤ 1000000 by omega) (show 168 ≤ 1000000 by decide), cond_true, ← mk_0]
  rw [u0W (inv := fun i : Nat => ((t.2.length : Int), ((i : Int), (t.1, (mk_ t.2 i, (([] : List Nd), ([] : List Entry))))))) (k := t.2.length) (r := (t.1, (mk_ t.2 t.2.length, (([] : List Nd), ([] : List Entry)))))]
  · simp only [Option.bind_some, mk_all, mk_un, cond_true]
  · intro i hi
    have h3 : (i : Int) < (t.2.length : Int) := by omega
    have hm := hd _ (u0j hi)
    have hm' : (t.2.getD i default).1.2.2.1.length < 1000000 := hm
    have hw := u04 (show i < 9223372036854775807 by omega)
    have hset := mk_set (l := t.2) hi
    simp only [h3, decide_true, cond_true, cond_false, mk_get hi, Option.bind_some, op_Own, u03 (show (t.2.getD i default).1.2.2.1.length ≤ 1000000 by omega) (show 8 ≤ 1000000 by decide), hw, Int.toNat_natCast]
    rw [show (true, ((t.2.getD i default).1, (t.2.getD i default).2)) = (true, t.2.getD i default) from rfl, hset]
  · simp only [Int.lt_irrefl, decide_false, cond_false]

theorem back_loop {ρ : Type} {os : List Op'} {o : Op'} (hs : SrtO os) (hl : os.length < 999990) {f : (Int × (List Entry × (Op' × (Tree × List Nd)))) → Option ((Int × (List Entry × (Op' × (Tree × List Nd)))) ⊕ ρ)} {z : Tree} {r : ρ}
    (hback : ∀ (i : Nat) (N : List Nd), posO os o.1 < i → i ≤ os.length → N = nds [] (os.take i) → f ((i : Int), (ens [] os, (o, (z, N)))) = some (.inl (((i - 1 : Nat) : Int), (ens [] os, (o, (z, nds [] (os.take (i - 1))))))))
    (hend : f (((posO os o.1 : Nat) : Int), (ens [] os, (o, (z, nds [] (os.take (posO os o.1)))))) = some (.inr r)) :
    ∀ (d i : Nat), i - posO os o.1 = d → posO os o.1 ≤ i → i ≤ os.length → iter f ((i : Int), (ens [] os, (o, (z, nds [] (os.take i))))) = some r
  | 0, i, h0, h1, h2 => by
    obtain rfl : i = posO os o.1 := by omega
    exact u0H hend
  | d + 1, i, h0, h1, h2 => by
    rw [u1A (hback i _ (by omega) h2 rfl)]
    exact back_loop hs hl hback hend d (i - 1) (by omega) (by omega) (by omega)
theorem nds_sm {os : List Op'} (hl : os.length < 999990) (i : Nat) : Sm (nds [] (os.take i)) := by
  have := (nds0 (os.take i)).2.2
  rw [List.length_take] at this
  unfold Sm; omega
theorem Put_eq {os : List Op'} {o : Op'} (h : OkT os) (ho : mvOk o = true) (hl : os.length < 999980) :
    u4K ((made os).1, ((made os).2, o)) = some (if hasO os o.1 = true then ([], ([], 4)) else ((made (insO os o)).1, ((made (insO os o)).2, 0))) := by
  have hp := posO_le os o.1
  have hel : (ens [] os).length = os.length := u2i _ _
  have gete : ∀ i (hi : i < os.length), getI (ens [] os) (i : Int) = some (doE (nds [] (os.take i)) (os.getD i default)) := by
    intro i hi
    rw [u0p, ens_get (List.getElem?_eq_getElem hi)]
    simp [List.getD_eq_getElem?_getD, hi]
  have hw1 : ∀ i : Nat, 0 < i → i < 1000000 → IntKind.wrap .i64 ((i : Int) - 1) = ((i - 1 : Nat) : Int) := by
    intro i h1 h2; rw [wrap_small] <;> omega
  have dep : ∀ q, mvOk q = true → Sm q.2.2.1 := fun q hq => by have := (u6L hq).1; unfold Sm; omega
  have mvd : ∀ i, i < os.length → mvOk (os.getD i default) = true := fun i hi => h.mv _ (u0j hi)
  unfold u4K
  rw [show ((((made os).1, ((made os).2, o)).2.1.length : Nat) : Int) = ((os.length : Nat) : Int) from by simp [made, hel]]
  rw [show (made os).1 = nds [] (os.take os.length) by rw [List.take_length]; rfl]
  rw [show (made os).2 = ens [] os from rfl]
  rw [back_loop (r := if hasO os o.1 = true then ((4 : Int), (([] : List Nd), ([] : List Entry))) else ((0 : Int), ((made (insO os o)).1, (made (insO os o)).2))) h.srt (by omega) ?_ ?_ (os.length - posO os o.1) os.length rfl hp (Nat.le_refl _)]
  · cases hasO os o.1 <;> rfl
  · -- back
    intro i N hi1 hi2 hN
    subst hN
    have hi0 : (0 : Int) < (i : Int) := by omega
    have hq := List.getElem?_eq_getElem (show i - 1 < os.length by omega)
    have hlt : slt o.1 (os.getD (i - 1) default).1 := by
      have := (u6E (s := o.1) h.srt hq).1 (by omega)
      simpa [List.getD_eq_getElem?_getD, show i - 1 < os.length by omega] using this
    have hn := nds0 (os.take (i - 1))
    have hstep : nds [] (os.take i) = doL (nds [] (os.take (i - 1))) (os.getD (i - 1) default) := by
      have e : os.take i = os.take (i - 1) ++ [os.getD (i - 1) default] := by
        have : i = (i - 1) + 1 := by omega
        rw [this, List.take_add_one, Nat.add_sub_cancel, hq]; simp [List.getD_eq_getElem?_getD, show i - 1 < os.length by omega]
      rw [e, nds_app]; rfl
    have hnl := hn.2.2
    rw [List.length_take] at hnl
    have hundo := undo_eq (os.getD (i - 1) default) hn.1 (by omega)
    rw [← hstep] at hundo
    simp only [hi0, decide_true, cond_true, hw1 i (by omega) (by omega), gete (i - 1) (by omega), Option.bind_some, u4g, doE_op, hlt, hundo]
  · -- at its place
    generalize hk : posO os o.1 = k at *
    have hn := nds0 (os.take k)
    have hno : ¬ (0 < k ∧ slt o.1 (os.getD (k - 1) default).1) := by
      rintro ⟨h1, h2⟩
      have hq := List.getElem?_eq_getElem (show k - 1 < os.length by omega)
      have := (u6E (s := o.1) h.srt hq).2 (by simpa [List.getD_eq_getElem?_getD, show k - 1 < os.length by omega] using h2)
      omega
    have hhas : hasO os o.1 = (decide (0 < k) && decide ((os.getD (k - 1) default).1 = o.1)) := by
      rw [Bool.eq_iff_iff]
      simp only [hasO, List.any_eq_true, decide_eq_true_eq, Bool.and_eq_true]
      constructor
      · rintro ⟨q, hq, hqe⟩
        obtain ⟨j, hj, rfl⟩ := List.mem_iff_getElem.1 hq
        have hlt : j < k := by
          rcases Nat.lt_or_ge j k with hle | hle
          · exact hle
          · have := (u6E (s := o.1) h.srt (List.getElem?_eq_getElem hj)).1 (by omega)
            rw [hqe] at this; exact absurd this (u2e _)
        refine ⟨by omega, ?_⟩
        rcases Nat.lt_or_ge j (k - 1) with hj2 | hj2
        · exfalso
          have := h.srt
          unfold SrtO at this
          rw [List.pairwise_iff_getElem] at this
          have h3 := this j (k - 1) hj (by omega) hj2
          rw [hqe] at h3
          exact hno ⟨by omega, by simpa [List.getD_eq_getElem?_getD, show k - 1 < os.length by omega] using h3⟩
        · obtain rfl : j = k - 1 := by omega
          simpa [List.getD_eq_getElem?_getD, hj] using hqe
      · rintro ⟨h1, h2⟩
        exact ⟨_, u0j (show k - 1 < os.length by omega), h2⟩
    have hlt0 : (bif decide ((0 : Int) < (k : Int)) then ((getI (ens [] os) (IntKind.wrap .i64 ((k : Int) - 1))).bind fun x1 => (getI (ens [] os) (IntKind.wrap .i64 ((k : Int) - 1))).bind fun x2 => (u4F (o, x2.1)).bind fun x3 => some x3) else some false) = some false := by
      by_cases h0 : 0 < k
      · have h00 : (0 : Int) < (k : Int) := by omega
        have : ¬ slt o.1 (os.getD (k - 1) default).1 := fun h => hno ⟨h0, h⟩
        simp only [h00, decide_true, cond_true, hw1 k h0 (by omega), gete (k - 1) (by omega), Option.bind_some, u4g, doE_op, this, decide_false]
      · obtain rfl : k = 0 := by omega
        rfl
    have heq0 : (bif decide ((0 : Int) < (k : Int)) then ((getI (ens [] os) (IntKind.wrap .i64 ((k : Int) - 1))).bind fun x2 => (getI (ens [] os) (IntKind.wrap .i64 ((k : Int) - 1))).bind fun x3 => some ((x3.1.1.1 == o.1.1) && (x3.1.1.2 == o.1.2))) else some false) = some (hasO os o.1) := by
      rw [hhas]
      by_cases h0 : 0 < k
      · have h00 : (0 : Int) < (k : Int) := by omega
        simp only [h00, decide_true, cond_true, hw1 k h0 (by omega), gete (k - 1) (by omega), Option.bind_some, doE_op, u2P, h0, Bool.true_and]
        rfl
      · obtain rfl : k = 0 := by omega
        rfl
    have hkk : (decide ((0 : Int) ≤ (k : Int)) && decide ((k : Int) ≤ ((ens [] os).length : Int))) = true := by
      rw [hel]; simp; omega
    simp only [hlt0, heq0, Option.bind_some, cond_false, hkk, cond_true, Int.toNat_natCast]
    have hdrop : (ens [] os).drop k = ens (nds [] (os.take k)) (os.drop k) := by
      conv => lhs; rw [← List.take_append_drop k os, u5O]
      have : (ens [] (os.take k)).length = k := by rw [u2i, List.length_take]; omega
      rw [List.drop_append_of_le_length (by omega), List.drop_of_length_le (by omega), List.nil_append]
    have htake : (ens [] os).take k = ens [] (os.take k) := by
      conv => lhs; rw [← List.take_append_drop k os, u5O]
      have : (ens [] (os.take k)).length = k := by rw [u2i, List.length_take]; omega
      rw [List.take_append_of_le_length (by omega), List.take_of_length_le (by omega)]
    have hdl : (ens (nds [] (os.take k)) (os.drop k)).length = os.length - k := by rw [u2i, List.length_drop]
    have getd : ∀ i, i < os.length - k → getI (ens (nds [] (os.take k)) (os.drop k)) (i : Int) = some (doE (nds (nds [] (os.take k)) ((os.drop k).take i)) ((os.drop k).getD i default)) := by
      intro i hi
      have hi' : i < (os.drop k).length := by rw [List.length_drop]; omega
      rw [u0p, ens_get (List.getElem?_eq_getElem hi')]
      simp only [List.getD_eq_getElem?_getD, List.getElem?_eq_getElem hi', Option.getD_some]
    have mvdrop : ∀ i, i < os.length - k → mvOk ((os.drop k).getD i default) = true := fun i hi => h.mv _ (List.mem_of_mem_drop (u0j (by rw [List.length_drop]; omega)))
    have tk1 : ∀ (l : List Nd) i, i < os.length - k → nds l ((os.drop k).take (i + 1)) = doL (nds l ((os.drop k).take i)) ((os.drop k).getD i default) := by
      intro l i hi
      have hi' : i < (os.drop k).length := by rw [List.length_drop]; omega
      have e : (os.drop k).getD i default = (os.drop k)[i] := by rw [List.getD_eq_getElem?_getD, List.getElem?_eq_getElem hi']; rfl
      rw [List.take_add_one, List.getElem?_eq_getElem hi', e]
      simp only [Option.toList, nds_app]; rfl
    rw [hdrop, htake, hdl]
    cases hh : hasO os o.1 with
    | true =>
      simp only [cond_true, if_true]
      rw [u0W (inv := fun i : Nat => (ens (nds [] (os.take k)) (os.drop k), (((os.length - k : Nat) : Int), ((i : Int), (ens [] os, (o, ((([], []) : Tree), nds (nds [] (os.take k)) ((os.drop k).take i)))))))) (k := os.length - k) (r := (ens [] os, (o, ((([], []) : Tree), nds (nds [] (os.take k)) ((os.drop k).take (os.length - k))))))]
      · rfl
      · intro i hi
        have h3 : (i : Int) < ((os.length - k : Nat) : Int) := by omega
        have hn2 := nds_inv ((os.drop k).take i) hn.1 hn.2.1
        have hln : Sm (nds (nds [] (os.take k)) ((os.drop k).take i)) := by
          have := hn2.2.2; have := hn.2.2
          simp only [List.length_take, List.length_drop] at *; unfold Sm; omega
        have hdo := do_eq ((os.drop k).getD i default) hn2.1 hln hn2.2.1 (dep _ (mvdrop i hi))
        simp only [h3, decide_true, cond_true, getd i hi, Option.bind_some, doE_op, hdo, u04 (show i < 9223372036854775807 by omega), tk1 _ i hi]
      · simp only [Int.lt_irrefl, decide_false, cond_false]
    | false =>
      have hnl := nds_sm (os := os) (by omega) k
      have hdo := do_eq o hn.1 hnl hn.2.1 (dep o ho)
      have htl : (ens [] (os.take k)).length = k := by rw [u2i, List.length_take]; omega
      have hins : insO os o = os.take k ++ o :: os.drop k := by rw [u5K, hk]
      have hn1 := doL_srt (l := nds [] (os.take k)) (o := o) hn.1
      have hn2 := doL_acy (l := nds [] (os.take k)) (o := o) hn.1 hn.2.1
      simp only [cond_false, Bool.false_eq_true, if_false, htl, u03 (show k ≤ 1000000 by omega) (show 168 ≤ 1000000 by decide), cond_true, hdo, Option.bind_some, List.length_append, List.length_cons, List.length_nil, Nat.zero_add, u03 (show k + 1 ≤ 1000000 by omega) (show 168 ≤ 1000000 by decide)]
      rw [u0W (inv := fun i : Nat => (ens [] (os.take k) ++ [doE (nds [] (os.take k)) o] ++ ens (doL (nds [] (os.take k)) o) ((os.drop k).take i), (ens (nds [] (os.take k)) (os.drop k), (((os.length - k : Nat) : Int), ((i : Int), (ens [] os, (o, ((([], []) : Tree), nds (doL (nds [] (os.take k)) o) ((os.drop k).take i)))))))))
        (k := os.length - k) (r := (ens [] (os.take k) ++ [doE (nds [] (os.take k)) o] ++ ens (doL (nds [] (os.take k)) o) ((os.drop k).take (os.length - k)), (ens [] os, (o, ((([], []) : Tree), nds (doL (nds [] (os.take k)) o) ((os.drop k).take (os.length - k))))))) (h0 := by simp [ens, nds])]
      · have e : (os.drop k).take (os.length - k) = os.drop k := List.take_of_length_le (by rw [List.length_drop]; exact Nat.le_refl _)
        simp only [Option.bind_some, e, hins, made, u5O, nds_app, ens, List.append_assoc, List.cons_append, List.nil_append]
        rfl
      · intro i hi
        have h3 : (i : Int) < ((os.length - k : Nat) : Int) := by omega
        have hn3 := nds_inv ((os.drop k).take i) hn1 hn2
        have hln : Sm (nds (doL (nds [] (os.take k)) o) ((os.drop k).take i)) := by
          have h5 := hn3.2.2; have h6 := hn.2.2; have h7 := doL_len (l := nds [] (os.take k)) (o := o)
          simp only [List.length_take, List.length_drop] at h5 h6; unfold Sm; omega
        have hdo := do_eq ((os.drop k).getD i default) hn3.1 hln hn3.2.1 (dep _ (mvdrop i hi))
        have hi' : i < (os.drop k).length := by rw [List.length_drop]; omega
        have hens : ens (doL (nds [] (os.take k)) o) ((os.drop k).take (i + 1)) = ens (doL (nds [] (os.take k)) o) ((os.drop k).take i) ++ [doE (nds (doL (nds [] (os.take k)) o) ((os.drop k).take i)) ((os.drop k).getD i default)] := by
          have e : (os.drop k).getD i default = (os.drop k)[i] := by rw [List.getD_eq_getElem?_getD, List.getElem?_eq_getElem hi']; rfl
          rw [List.take_add_one, List.getElem?_eq_getElem hi', e]
          simp only [Option.toList, u5O]; rfl
        have hroom : room ((ens [] (os.take k) ++ [doE (nds [] (os.take k)) o] ++ ens (doL (nds [] (os.take k)) o) ((os.drop k).take i)).length + 1) 168 = true := by
          refine u03 ?_ (by decide)
          simp only [List.length_append, htl, u2i, List.length_take, List.length_drop, List.length_cons, List.length_nil]; omega
        simp only [h3, decide_true, cond_true, getd i hi, Option.bind_some, doE_op, hdo, u04 (show i < 9223372036854775807 by omega), tk1 _ i hi, hens, hroom]
        simp only [List.append_assoc]
        rfl
      · simp only [Int.lt_irrefl, decide_false, cond_false]
end Go.Tr
set_option linter.unusedVariables false
set_option linter.unusedSimpArgs false
namespace Go.Tr
open Go Go.Dv Go.Sort Go.Proofs
theorem made_sm {os : List Op'} (hl : os.length < 999980) : Sm (made os).1 ∧ Sm (made os).2 := by
  have h1 := (nds0 os).2.2
  have h2 := u2i [] os
  exact ⟨by unfold Sm; show (nds [] os).length < _; omega, by unfold Sm; show (ens [] os).length < _; omega⟩
noncomputable def kids (l : List Nd) (id : Sp) : List Nd := sortL (s := sNode) u01 (l.filter fun n => decide (n.2.1 = id))
theorem Children_eq (t : Tree) (id : Sp) (h : Sm t.1) : u2q (t, id) = some (kids t.1 id) := by
  have h' : t.1.length < 1000000 := h
  unfold u2q
  have hfl : ∀ i, (List.filter (fun n : Nd => decide (n.2.1 = id)) (t.1.take i)).length ≤ i := fun i => by
    have := List.length_filter_le (fun n : Nd => decide (n.2.1 = id)) (t.1.take i)
    rw [List.length_take] at this; omega
  rw [u0W (inv := fun i : Nat => ((t.1.take i).filter (fun n : Nd => decide (n.2.1 = id)), (t.1, ((t.1.length : Int), ((i : Int), (t, id)))))) (k := t.1.length) (r := (t.1.filter (fun n : Nd => decide (n.2.1 = id)), (t, id))) (h0 := by simp)]
  · simp only [Option.bind_some, u25, sortF]
    have : (t.1.filter fun n : Nd => decide (n.2.1 = id)).length < 4611686018427387904 := by
      have := List.length_filter_le (fun n : Nd => decide (n.2.1 = id)) t.1; omega
    rw [if_pos this]; rfl
  · intro i hi
    have h3 : (i : Int) < (t.1.length : Int) := by omega
    have e : t.1.getD i default = t.1[i] := by rw [List.getD_eq_getElem?_getD, List.getElem?_eq_getElem hi]; rfl
    have ht : (t.1.take (i + 1)).filter (fun n : Nd => decide (n.2.1 = id)) = (t.1.take i).filter (fun n : Nd => decide (n.2.1 = id)) ++ if (t.1.getD i default).2.1 = id then [t.1.getD i default] else [] := by
      rw [List.take_add_one, List.getElem?_eq_getElem hi, e]
      simp only [Option.toList, List.filter_append, List.filter_cons, List.filter_nil, decide_eq_true_eq]
    simp only [h3, decide_true, cond_true, u09 t.1 i hi, Option.bind_some, u2P, u04 (show i < 9223372036854775807 by omega), ht]
    by_cases hc : (t.1.getD i default).2.1 = id
    · have hroom : room (List.length (List.filter (fun n : Nd => decide (n.2.1 = id)) (t.1.take i) ++ [t.1.getD i default])) 48 = true := u03 (by have := hfl i; simp only [List.length_append, List.length_cons, List.length_nil]; omega) (by decide)
      simp only [hc, decide_true, cond_true, hroom, if_true]
    · simp only [hc, decide_false, cond_false, if_false, List.append_nil]
  · simp only [Int.lt_irrefl, decide_false, cond_false, List.take_length]
theorem sortL_perm (F : List Nd) : (sortL (s := sNode) u01 F).Perm F ∧ SortedIn (ltOf u01) 0 F.length (pdq (ltOf u01) F.toArray 0 F.length (Lib.bitLen F.length) true true) := by
  obtain ⟨⟨h1, _, h3⟩, h4⟩ := pdq_sorts (ltOf u01) swo_cf F.toArray 0 F.toArray.size (Lib.bitLen F.length) true true (Nat.zero_le _) (Nat.le_refl _) (Or.inl rfl)
  refine ⟨?_, h4⟩
  have e1 : (pdq (ltOf u01) F.toArray 0 F.toArray.size (Lib.bitLen F.length) true true).extract 0 F.toArray.size = pdq (ltOf u01) F.toArray 0 F.toArray.size (Lib.bitLen F.length) true true := by
    generalize pdq (ltOf u01) F.toArray 0 F.toArray.size (Lib.bitLen F.length) true true = D at h1 ⊢
    rw [← h1]; simp
  have e2 : F.toArray.extract 0 F.toArray.size = F.toArray := by simp
  rw [e1, e2] at h3
  exact h3
theorem kids_perm (l : List Nd) (id : Sp) : (kids l id).Perm (l.filter fun n => decide (n.2.1 = id)) := (sortL_perm _).1
end Go.Tr
set_option linter.unusedVariables false
set_option linter.unusedSimpArgs false
namespace Go.Tr
open Go Go.Dv
theorem O_ok : mvOk (u06 ()) = true := by
  have hs : (ByteArray.mk #[107]).size = 1 := rfl
  simp [mvOk, u06, stOk, vecOk, depAt, getI, keyB, u3P, getB, plOk, wrap_small, toList_data, hs]
theorem wloop {σ ρ : Type} {f : σ → Option (σ ⊕ ρ)} (inv : Int → Nat → σ) (out : Int → ρ) (len : Nat) (g : Nat → Int) (G : Int) (hg : ∀ i, i < len → 0 ≤ g i ∧ g i ≤ G)
    (hs : ∀ i n, i < len → 0 ≤ n → n < 1048576 → f (inv n i) = some (.inl (inv (n + g i) (i + 1)))) (he : ∀ i n, 0 ≤ n → ¬ (i < len ∧ n < 1048576) → f (inv n i) = some (.inr (out n))) :
    ∀ (d i : Nat) (n : Int), len - i = d → 0 ≤ n → ∃ m, iter f (inv n i) = some (out m) ∧ n ≤ m ∧ (m ≤ n ∨ m ≤ 1048576 + G) ∧ (m < 1048576 → ∀ j, i ≤ j → j < len → g j ≤ m)
  | 0, i, n, h0, hn => ⟨n, u0H (he i n hn (by omega)), Int.le_refl _, .inl (Int.le_refl _), fun _ j h1 h2 => by omega⟩
  | d + 1, i, n, h0, hn => by
    by_cases hc : n < 1048576
    · obtain ⟨g1, g2⟩ := hg i (by omega)
      obtain ⟨m, h1, h2, h3, h4⟩ := wloop inv out len g G hg hs he d (i + 1) (n + g i) (by omega) (by omega)
      refine ⟨m, by rw [u1A (hs i n (by omega) hn hc)]; exact h1, by omega, by omega, fun hm j hj hj2 => ?_⟩
      by_cases e : j = i
      · subst e; omega
      · exact h4 hm j (by omega) hj2
    · exact ⟨n, u0H (he i n hn (by omega)), Int.le_refl _, .inl (Int.le_refl _), fun h => absurd h hc⟩
def BOp (o : Op') : Prop := o.2.2.1.length ≤ 140737488355328 ∧ o.2.2.2.2.2.2.1.size ≤ 140737488355328
theorem OpWeight_eq {o : Op'} (h : BOp o) : u0b o = 1 + (o.2.2.1.length : Int) + (o.2.2.2.2.2.2.1.size : Int) := by
  unfold u0b
  obtain ⟨h1, h2⟩ := h
  rw [wrap_small (n := 1 + (o.2.2.1.length : Int)) (by omega) (by omega), wrap_small] <;> omega
theorem OpsWeight_eq (l : List Op') (hl : l.length ≤ 140737488355328) (h : ∀ o ∈ l, BOp o) : ∃ m : Int, u13 l = some m ∧ (l.length : Int) ≤ m ∧ m ≤ 1000000000000000 ∧ (m < 1048576 → ∀ o ∈ l, (o.2.2.1.length : Int) ≤ m ∧ (o.2.2.2.2.2.2.1.size : Int) ≤ m) := by
  unfold u13
  have hw : ∀ i, i < l.length → u0b (l.getD i default) = 1 + ((l.getD i default).2.2.1.length : Int) + ((l.getD i default).2.2.2.2.2.2.1.size : Int) := fun i hi => OpWeight_eq (h _ (u0j hi))
  have hb : ∀ i, i < l.length → BOp (l.getD i default) := fun i hi => h _ (u0j hi)
  obtain ⟨m, h1, h2, h3, h4⟩ := wloop (f := fun s : (List Op' × (Int × Int)) =>
      bif (bif (decide ((s.2.2 < ((List.length s.1) : Int)))) then (decide ((s.2.1 < 1048576))) else false) then (((getI s.1 s.2.2)).bind fun x1 =>
        some (.inl (s.1, ((IntKind.wrap .i64 (s.2.1 + (u0b x1))), (IntKind.wrap .i64 (s.2.2 + 1)))))) else
      some (.inr s.2.1)) (fun n i => (l, (n, (i : Int)))) (fun n => n) l.length (fun i => u0b (l.getD i default)) 300000000000000
    (fun i hi => by rw [hw i hi]; obtain ⟨b1, b2⟩ := hb i hi; omega)
    (fun i n hi hn hn2 => by
      have e1 : (i : Int) < (l.length : Int) := by omega
      have := hw i hi; obtain ⟨b1, b2⟩ := hb i hi
      simp only [e1, hn2, decide_true, cond_true, u09 l i hi, Option.bind_some, u04 (show i < 9223372036854775807 by omega)]
      rw [wrap_small] <;> omega)
    (fun i n hn hc => by
      by_cases e1 : (i : Int) < (l.length : Int)
      · have e2 : ¬ n < 1048576 := by omega
        simp [e1, e2]
      · simp [e1]) l.length 0 (l.length : Int) (by omega) (by omega)
  refine ⟨m, by rw [show ((l, (((List.length l : Nat) : Int), (0 : Int))) : List Op' × (Int × Int)) = (l, ((l.length : Int), ((0 : Nat) : Int))) from rfl, h1]; rfl, h2, by omega, fun hm o ho => ?_⟩
  obtain ⟨j, hj, rfl⟩ := List.mem_iff_getElem.1 ho
  have := h4 hm j (by omega) hj
  rw [hw j hj] at this
  have e : l.getD j default = l[j] := by rw [List.getD_eq_getElem?_getD, List.getElem?_eq_getElem hj]; rfl
  rw [e] at this
  omega
def BNd (n : Nd) : Prop := n.2.2.size ≤ 140737488355328
def BEn (e : Entry) : Prop := BOp e.1 ∧ e.2.2.2.1.size ≤ 140737488355328
theorem TreeWeight_eq (t : Tree) (h1 : t.1.length ≤ 140737488355328) (h2 : t.2.length ≤ 140737488355328) (hn : ∀ n ∈ t.1, BNd n) (he : ∀ e ∈ t.2, BEn e) :
    ∃ m : Int, u0R t = some m ∧ ((t.1.length : Int) + (t.2.length : Int)) ≤ m ∧ m ≤ 1000000000000000 ∧ (m < 1048576 → ∀ e ∈ t.2, (e.1.2.2.1.length : Int) ≤ m) := by
  have hb : ∀ i, i < t.1.length → BNd (t.1.getD i default) := fun i hi => hn _ (u0j hi)
  have hb2 : ∀ i, i < t.2.length → BEn (t.2.getD i default) := fun i hi => he _ (u0j hi)
  unfold u0R
  obtain ⟨m, g1, g2, g3, g4⟩ := wloop (f := fun s : (Int × (Int × (List Nd × List Entry))) =>
      bif (bif (decide ((s.2.1 < ((List.length s.2.2.1) : Int)))) then (decide ((s.1 < 1048576))) else false) then (((getI s.2.2.1 s.2.1)).bind fun x1 =>
        some (.inl ((IntKind.wrap .i64 (s.1 + ((ByteArray.size x1.2.2) : Int))), ((IntKind.wrap .i64 (s.2.1 + 1)), s.2.2)))) else
      some (.inr (s.1, s.2.2))) (fun n i => (n, ((i : Int), t))) (fun n => (n, t)) t.1.length (fun i => ((t.1.getD i default).2.2.size : Int)) 300000000000000
    (fun i hi => by have := hb i hi; unfold BNd at this; omega)
    (fun i n hi hn hn2 => by
      have e1 : (i : Int) < (t.1.length : Int) := by omega
      have := hb i hi; unfold BNd at this
      simp only [e1, hn2, decide_true, cond_true, u09 t.1 i hi, Option.bind_some, u04 (show i < 9223372036854775807 by omega)]
      rw [wrap_small] <;> omega)
    (fun i n hn hc => by
      by_cases e1 : (i : Int) < (t.1.length : Int)
      · have e2 : ¬ n < 1048576 := by omega
        simp [e1, e2]
      · simp [e1]) t.1.length 0 ((t.1.length : Int) + (t.2.length : Int)) (by omega) (by omega)
  obtain ⟨m2, k1, k2, k3, k4⟩ := wloop (f := fun s : (Int × (Int × (List Nd × List Entry))) =>
      bif (bif (decide ((s.2.1 < ((List.length s.2.2.2) : Int)))) then (decide ((s.1 < 1048576))) else false) then (((getI s.2.2.2 s.2.1)).bind fun x2 =>
        ((getI s.2.2.2 s.2.1)).bind fun x3 =>
        some (.inl ((IntKind.wrap .i64 ((IntKind.wrap .i64 (s.1 + (u0b x2.1))) + ((ByteArray.size x3.2.2.2.1) : Int))), ((IntKind.wrap .i64 (s.2.1 + 1)), s.2.2)))) else
      some (.inr (s.1, s.2.2))) (fun n i => (n, ((i : Int), t))) (fun n => (n, t)) t.2.length (fun i => 1 + ((t.2.getD i default).1.2.2.1.length : Int) + ((t.2.getD i default).1.2.2.2.2.2.2.1.size : Int) + ((t.2.getD i default).2.2.2.1.size : Int)) 500000000000000
    (fun i hi => by have := hb2 i hi; unfold BEn BOp at this; omega)
    (fun i n hi hn hn2 => by
      have e1 : (i : Int) < (t.2.length : Int) := by omega
      have hbi := hb2 i hi
      have hw := OpWeight_eq hbi.1
      unfold BEn BOp at hbi
      simp only [e1, hn2, decide_true, cond_true, u09 t.2 i hi, Option.bind_some, u04 (show i < 9223372036854775807 by omega), hw]
      generalize hA : (((t.2.getD i default).1.2.2.1.length : Nat) : Int) = A at *
      generalize hB : (((t.2.getD i default).1.2.2.2.2.2.2.1.size : Nat) : Int) = B at *
      generalize hC : (((t.2.getD i default).2.2.2.1.size : Nat) : Int) = C at *
      have e : IntKind.wrap .i64 (IntKind.wrap .i64 (n + (1 + A + B)) + C) = n + (1 + A + B + C) := by
        rw [wrap_small (n := n + (1 + A + B)) (by omega) (by omega), wrap_small] <;> omega
      rw [e])
    (fun i n hn hc => by
      by_cases e1 : (i : Int) < (t.2.length : Int)
      · have e2 : ¬ n < 1048576 := by omega
        simp [e1, e2]
      · simp [e1]) t.2.length 0 m (by omega) (by omega)
  refine ⟨m2, ?_, by omega, by omega, fun hm e hmem => ?_⟩
  · have e0 : IntKind.wrap .i64 (((t.1.length : Nat) : Int) + ((t.2.length : Nat) : Int)) = (t.1.length : Int) + (t.2.length : Int) := by rw [wrap_small] <;> omega
    rw [e0]
    rw [show ((((t.1.length : Nat) : Int) + ((t.2.length : Nat) : Int), ((0 : Int), t)) : Int × (Int × (List Nd × List Entry))) = ((t.1.length : Int) + (t.2.length : Int), (((0 : Nat) : Int), t)) from rfl, g1]
    simp only [Option.bind_some]
    rw [show ((m, ((0 : Int), t)) : Int × (Int × (List Nd × List Entry))) = (m, (((0 : Nat) : Int), t)) from rfl, k1]
    rfl
  · obtain ⟨j, hj, rfl⟩ := List.mem_iff_getElem.1 hmem
    have := k4 hm j (by omega) hj
    have e : t.2.getD j default = t.2[j] := by rw [List.getD_eq_getElem?_getD, List.getElem?_eq_getElem hj]; rfl
    simp only [e] at this
    omega
end Go.Tr
set_option linter.unusedVariables false
set_option linter.unusedSimpArgs false
namespace Go.Tr
open Go Go.Dv
theorem bnd_op {o : Op'} (h : Bnd sOp o) : BOp o := ⟨h.2.2.1.1, h.2.2.2.2.2.2.1⟩
theorem bnd_nd {n : Nd} (h : Bnd sNode n) : BNd n := h.2.2
theorem bnd_en {e : Entry} (h : Bnd u0d e) : BEn e := ⟨bnd_op h.1, h.2.2.2.1⟩
end Go.Tr
set_option linter.unusedVariables false
set_option linter.unusedSimpArgs false
namespace Go.Tr
open Go Go.Dv
def ups (l : List Nd) : Nat → Sp → List Sp
  | 0, _ => []
  | n + 1, s => match par l s with
    | some p => p :: ups l n p
    | none => []
theorem ups_len {l : List Nd} : ∀ {n : Nat} {s : Sp}, u0S l n s → (ups l n s).length = n
  | 0, _, _ => rfl
  | n + 1, s, ⟨p, hp, h⟩ => by simp [ups, hp, ups_len h]
theorem Node_eq {t : Tree} (id : Sp) (hs : Srt t.1) (hl : Sm t.1) : u3T (t, id) = some (match look t.1 id with | some n => (n, true) | none => (((0, 0), (0, 0), ⟨#[]⟩), false)) := by
  unfold u3T
  simp only [u3g id hs hl, Option.bind_some]
  cases h : look t.1 id with
  | none => rfl
  | some n => simp [u4j hs h]
theorem up_loop {t : Tree} (hs : Srt t.1) (hl : Sm t.1) {f : (List Sp × (Tree × (Sp × Nd))) → Option ((List Sp × (Tree × (Sp × Nd))) ⊕ List Sp)}
    (hf : ∀ (a : List Sp) (s : Sp) (z : Nd), a.length < 1000000 → f (a, (t, (s, z))) = match look t.1 s with | some n => some (.inl (a ++ [n.2.1], (t, (n.2.1, n)))) | none => some (.inr a)) :
    ∀ (n : Nat) (a : List Sp) (s : Sp) (z : Nd), u0S t.1 n s → a.length + n < 1000000 → iter f (a, (t, (s, z))) = some (a ++ ups t.1 n s)
  | 0, a, s, z, h, hlen => by
    simp only [u0S, par, Option.map_eq_none_iff] at h
    rw [u0H (r := a) (by rw [hf a s z (by omega), h])]
    simp [ups]
  | n + 1, a, s, z, ⟨p, hp, h⟩, hlen => by
    have hp' := hp
    simp only [par, Option.map_eq_some_iff] at hp
    obtain ⟨m, hm, rfl⟩ := hp
    rw [u1A (by rw [hf a s z (by omega), hm]), up_loop hs hl hf n _ _ _ h (by simp only [List.length_append, List.length_cons, List.length_nil]; omega)]
    simp [ups, hp']
theorem Up_eq {t : Tree} (hs : Srt t.1) (hl : Sm t.1) {n : Nat} {s : Sp} (h : u0S t.1 n s) : u6o (t, s) = some (ups t.1 n s) := by
  have hl' : t.1.length < 1000000 := hl
  have hn := ends_le h
  unfold u6o
  rw [up_loop hs hl ?_ n [] s _ h (by simp; omega)]
  · simp
  · intro a s z ha
    simp only [Node_eq s hs hl, Option.bind_some]
    cases look t.1 s with
    | none => rfl
    | some m =>
      have : room (List.length (a ++ [m.2.1])) 16 = true := u03 (by simp only [List.length_append, List.length_cons, List.length_nil]; omega) (by decide)
      simp only [cond_true, this]
end Go.Tr
