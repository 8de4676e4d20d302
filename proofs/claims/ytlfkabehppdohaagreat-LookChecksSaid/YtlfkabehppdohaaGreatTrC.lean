/- A part of the proof: TrP6, TrP7, TrP8, TrP9, TrH, TrU. -/
import Derived.Test.YtlfkabehppdohaaGreatTrB
set_option linter.unusedVariables false
set_option linter.unusedSimpArgs false
namespace Go.Tr
open Go Go.Dv
abbrev Op' : Type := Go.Dv.Op
def nds (l : List Nd) (os : List Op') : List Nd := os.foldl doL l
def ens : List Nd → List Op' → List Entry
  | _, [] => []
  | l, o :: os => doE l o :: ens (doL l o) os
def made (os : List Op') : Tree := (nds [] os, ens [] os)
theorem nds_app (l : List Nd) (a b : List Op') : nds l (a ++ b) = nds (nds l a) b := by simp [nds]
theorem ens_app : ∀ (l : List Nd) (a b : List Op'), ens l (a ++ b) = ens l a ++ ens (nds l a) b
  | _, [], _ => rfl
  | l, o :: a, b => by simp only [List.cons_append, ens, ens_app (doL l o) a b]; rfl
theorem ens_len : ∀ (l : List Nd) (a : List Op'), (ens l a).length = a.length
  | _, [] => rfl
  | l, o :: a => by simp [ens, ens_len (doL l o) a]
theorem ens_op : ∀ (l : List Nd) (a : List Op'), (ens l a).map (·.1) = a
  | _, [] => rfl
  | l, o :: a => by simp [ens, ens_op (doL l o) a, doE]
theorem ens_get : ∀ {l : List Nd} {a : List Op'} {i : Nat} {o : Op'}, a[i]? = some o → (ens l a)[i]? = some (doE (nds l (a.take i)) o)
  | l, q :: a, 0, o, h => by simp at h; subst h; simp [ens, nds]
  | l, q :: a, i + 1, o, h => by
    have h : a[i]? = some o := by simpa using h
    simp only [ens, List.getElem?_cons_succ, ens_get h, List.take_succ_cons]; rfl
theorem nds_inv : ∀ {l : List Nd} (os : List Op'), Srt l → Acy l → Srt (nds l os) ∧ Acy (nds l os) ∧ (nds l os).length ≤ l.length + os.length
  | l, [], hs, ha => ⟨hs, ha, Nat.le_refl _⟩
  | l, o :: os, hs, ha => by
    obtain ⟨h1, h2, h3⟩ := nds_inv (l := doL l o) os (doL_srt hs) (doL_acy hs ha)
    refine ⟨h1, h2, Nat.le_trans h3 ?_⟩
    have := doL_len (l := l) (o := o)
    simp only [List.length_cons]; omega
theorem nds0 (os : List Op') : Srt (nds [] os) ∧ Acy (nds [] os) ∧ (nds [] os).length ≤ os.length := by
  have := nds_inv os (l := []) (by simp [Srt]) acy_nil
  simpa using this
theorem mvOk_deps {o : Op'} (h : mvOk o = true) : o.2.2.1.length ≤ 16 ∧ 1 ≤ o.2.2.1.length := by
  simp only [mvOk, Bool.and_eq_true] at h
  have := h.1.1.1.1.1.1.1.1.1.2
  simp only [vecOk, Bool.and_eq_true, decide_eq_true_eq] at this
  exact ⟨this.2, this.1.2⟩
def SrtO (os : List Op') : Prop := os.Pairwise fun a b => slt a.1 b.1
noncomputable def okAt (t : Tree) (i : Nat) : Bool :=
  mvOk (t.2.getD i default).1 && (decide (i = 0) || decide (slt (t.2.getD (i - 1) default).1.1 (t.2.getD i default).1.1)) && decide (doE (nds [] ((t.2.take i).map (·.1))) (t.2.getD i default).1 = t.2.getD i default)
noncomputable def mayB (t : Tree) : Bool := (List.range t.2.length).all (okAt t) && decide (nds [] (t.2.map (·.1)) = t.1)
theorem op_Less_eq (a b : Op') : op_Less (a, b) = some (decide (slt a.1 b.1)) := by
  simp [op_Less, stamp_Cmp_eq, scmp_neg]
theorem take_succ_nds {t : Tree} {i : Nat} (h : i < t.2.length) : nds [] ((t.2.take (i + 1)).map (·.1)) = doL (nds [] ((t.2.take i).map (·.1))) (t.2.getD i default).1 := by
  have e : t.2.getD i default = t.2[i] := by simp [List.getD_eq_getElem?_getD, h]
  rw [List.take_add_one, List.getElem?_eq_getElem h, e]
  simp only [List.map_append, Option.toList, List.map_cons, List.map_nil, nds, List.foldl_append, List.foldl_cons, List.foldl_nil]
theorem May_eq (t : Tree) (h : Sm t.2) (hd : ∀ e ∈ t.2, Sm e.1.2.2.1) : tree_May t = some (mayB t) := by
  have h' : t.2.length < 1000000 := h
  unfold tree_May
  rw [iter_first (inv := fun i => (t.2, ((t.2.length : Int), ((i : Int), (t, nds [] ((t.2.take i).map (·.1))))))) (n := t.2.length) (ok := okAt t) (good := .inl (t, nds [] (t.2.map (·.1)))) (bad := .inr false)]
  · unfold mayB
    cases (List.range t.2.length).all (okAt t) with
    | false => simp
    | true =>
      simp only [if_true, Option.bind_some]
      rw [Equal_Node_eq _ _ (by have := (nds0 (t.2.map (·.1))).2.2; rw [List.length_map] at this; omega)]
      simp
  · intro i hi hok
    simp only [okAt, Bool.and_eq_true, Bool.or_eq_true, decide_eq_true_eq] at hok
    obtain ⟨⟨hk1, hk2⟩, hk3⟩ := hok
    have h1 : (i : Int) < (t.2.length : Int) := by omega
    have hn := nds0 ((t.2.take i).map (·.1))
    have hnl : Sm (nds [] ((t.2.take i).map (·.1))) := by
      have := hn.2.2; simp only [List.length_map, List.length_take] at this; unfold Sm; omega
    have hdep : Sm (t.2.getD i default).1.2.2.1 := hd _ (getD_mem hi)
    have hdep' : (t.2.getD i default).1.2.2.1.length < 1000000 := hdep
    have hdo := do_eq (t.2.getD i default).1 hn.1 hnl hn.2.1 hdep
    simp only [h1, decide_true, cond_true, getI_D t.2 i hi, Option.bind_some, tree_move_eq _ (show (t.2.getD i default).1.2.2.1.length < 9223372036854775807 by omega), hk1, Bool.not_true, cond_false]
    have hsame : tree_same (doE (nds [] ((t.2.take i).map (·.1))) (t.2.getD i default).1, t.2.getD i default) = some true := by
      rw [tree_same_eq _ _ (by show (t.2.getD i default).1.2.2.1.length < _; omega), decide_eq_true hk3]
    rw [wrap_nat (by omega), take_succ_nds hi]
    by_cases h0 : i = 0
    · subst h0
      simp only [Int.lt_irrefl, decide_false, cond_false, hdo, Option.bind_some, hsame, Bool.not_true, show ¬ ((0 : Int) < ((0 : Nat) : Int)) from by omega]
    · have h00 : (0 : Int) < (i : Int) := by omega
      have hw : IntKind.wrap .i64 ((i : Int) - 1) = ((i - 1 : Nat) : Int) := by rw [wrap_small] <;> omega
      have hlt : slt (t.2.getD (i - 1) default).1.1 (t.2.getD i default).1.1 := hk2.resolve_left h0
      simp only [h00, decide_true, cond_true, hw, getI_D t.2 (i - 1) (by omega), Option.bind_some, op_Less_eq, hlt, Bool.not_true, cond_false, hdo, hsame]
  · intro i hi hok
    have h1 : (i : Int) < (t.2.length : Int) := by omega
    have hn := nds0 ((t.2.take i).map (·.1))
    have hnl : Sm (nds [] ((t.2.take i).map (·.1))) := by
      have := hn.2.2; simp only [List.length_map, List.length_take] at this; unfold Sm; omega
    have hdep : Sm (t.2.getD i default).1.2.2.1 := hd _ (getD_mem hi)
    have hdep' : (t.2.getD i default).1.2.2.1.length < 1000000 := hdep
    have hdo := do_eq (t.2.getD i default).1 hn.1 hnl hn.2.1 hdep
    have hsame := tree_same_eq (doE (nds [] ((t.2.take i).map (·.1))) (t.2.getD i default).1) (t.2.getD i default) (by show (t.2.getD i default).1.2.2.1.length < _; omega)
    simp only [h1, decide_true, cond_true, getI_D t.2 i hi, Option.bind_some, tree_move_eq _ (show (t.2.getD i default).1.2.2.1.length < 9223372036854775807 by omega)]
    cases hk1 : mvOk (t.2.getD i default).1 with
    | false => simp
    | true =>
      simp only [Bool.not_true, cond_false]
      simp only [okAt, hk1, Bool.true_and] at hok
      by_cases h0 : i = 0
      · subst h0
        have hk3 : decide (doE (nds [] ((t.2.take 0).map (·.1))) (t.2.getD 0 default).1 = t.2.getD 0 default) = false := by simpa only [decide_true, Bool.true_or, Bool.true_and] using hok
        rw [hk3] at hsame
        simp only [Int.lt_irrefl, decide_false, cond_false, hdo, Option.bind_some, hsame, Bool.not_false, cond_true, show ¬ ((0 : Int) < ((0 : Nat) : Int)) from by omega]
      · have h00 : (0 : Int) < (i : Int) := by omega
        have hw : IntKind.wrap .i64 ((i : Int) - 1) = ((i - 1 : Nat) : Int) := by rw [wrap_small] <;> omega
        simp only [h00, decide_true, cond_true, hw, getI_D t.2 (i - 1) (by omega), Option.bind_some, op_Less_eq]
        by_cases hlt : slt (t.2.getD (i - 1) default).1.1 (t.2.getD i default).1.1
        · have hk3 : decide (doE (nds [] ((t.2.take i).map (·.1))) (t.2.getD i default).1 = t.2.getD i default) = false := by simpa only [h0, hlt, decide_true, decide_false, Bool.false_or, Bool.true_and] using hok
          rw [hk3] at hsame
          simp only [hlt, decide_true, Bool.not_true, cond_false, hdo, Option.bind_some, hsame, Bool.not_false, cond_true]
        · simp only [hlt, decide_false, Bool.not_false, cond_true]
  · simp only [Int.lt_irrefl, decide_false, cond_false, List.take_length]
structure OkT (os : List Op') : Prop where
  mv : ∀ o ∈ os, mvOk o = true
  srt : SrtO os
theorem srtO_of {os : List Op'} (h : ∀ i, i + 1 < os.length → slt (os.getD i default).1 (os.getD (i + 1) default).1) : SrtO os := by
  unfold SrtO
  rw [List.pairwise_iff_getElem]
  intro i j hi hj hij
  have key : ∀ d, i + d + 1 < os.length → slt (os.getD i default).1 (os.getD (i + d + 1) default).1 := by
    intro d
    induction d with
    | zero => intro hd; exact h i hd
    | succ d ih =>
      intro hd
      exact slt_trans (ih (by omega)) (by have := h (i + d + 1) (by omega); rwa [show i + d + 1 + 1 = i + (d + 1) + 1 by omega] at this)
  have := key (j - i - 1) (by omega)
  rw [show i + (j - i - 1) + 1 = j by omega] at this
  simpa [List.getD_eq_getElem?_getD, hi, hj] using this
theorem mayB_made {os : List Op'} (h : OkT os) : mayB (made os) = true := by
  have hlen : (made os).2.length = os.length := ens_len _ _
  have hmap : (made os).2.map (·.1) = os := ens_op _ _
  have hget : ∀ i, i < os.length → (made os).2.getD i default = doE (nds [] (os.take i)) (os.getD i default) := by
    intro i hi
    have := ens_get (l := []) (List.getElem?_eq_getElem hi)
    simp only [made, List.getD_eq_getElem?_getD, this, List.getElem?_eq_getElem hi, Option.getD_some]
  unfold mayB
  rw [Bool.and_eq_true, List.all_eq_true, decide_eq_true_iff, hmap]
  refine ⟨fun i hi => ?_, rfl⟩
  have hi := List.mem_range.1 hi
  rw [hlen] at hi
  have hop : ((made os).2.getD i default).1 = os.getD i default := by rw [hget i hi]; rfl
  simp only [okAt, Bool.and_eq_true, Bool.or_eq_true, decide_eq_true_eq, hop]
  refine ⟨⟨h.mv _ (getD_mem hi), ?_⟩, ?_⟩
  · by_cases h0 : i = 0
    · exact .inl h0
    · right
      rw [show ((made os).2.getD (i - 1) default).1 = os.getD (i - 1) default by rw [hget _ (by omega)]; rfl]
      have := h.srt
      unfold SrtO at this
      rw [List.pairwise_iff_getElem] at this
      have := this (i - 1) i (by omega) hi (by omega)
      simpa [List.getD_eq_getElem?_getD, hi, show i - 1 < os.length by omega] using this
  · rw [hget i hi, List.map_take, hmap]
theorem mayB_ok {t : Tree} (h : mayB t = true) : OkT (t.2.map (·.1)) ∧ t = made (t.2.map (·.1)) := by
  unfold mayB at h
  rw [Bool.and_eq_true, List.all_eq_true, decide_eq_true_iff] at h
  obtain ⟨h1, h2⟩ := h
  have at_ : ∀ i, i < t.2.length → mvOk (t.2.getD i default).1 = true ∧ (i = 0 ∨ slt (t.2.getD (i - 1) default).1.1 (t.2.getD i default).1.1) ∧ doE (nds [] ((t.2.take i).map (·.1))) (t.2.getD i default).1 = t.2.getD i default := by
    intro i hi
    have := h1 i (List.mem_range.2 hi)
    simp only [okAt, Bool.and_eq_true, Bool.or_eq_true, decide_eq_true_eq] at this
    exact ⟨this.1.1, this.1.2, this.2⟩
  have hmd : ∀ i, i < t.2.length → (t.2.map (·.1)).getD i default = (t.2.getD i default).1 := by
    intro i hi; simp [List.getD_eq_getElem?_getD, hi]
  refine ⟨⟨fun o ho => ?_, srtO_of fun i hi => ?_⟩, ?_⟩
  · obtain ⟨e, he, rfl⟩ := List.mem_map.1 ho
    obtain ⟨i, hi, rfl⟩ := List.mem_iff_getElem.1 he
    have := (at_ i hi).1
    simpa [List.getD_eq_getElem?_getD, hi] using this
  · rw [List.length_map] at hi
    rw [hmd i (by omega), hmd (i + 1) hi]
    have := (at_ (i + 1) hi).2.1.resolve_left (by omega)
    simpa using this
  · refine Prod.ext h2.symm ?_
    show t.2 = ens [] (t.2.map (·.1))
    apply List.ext_getElem?
    intro i
    by_cases hi : i < t.2.length
    · have hm : (t.2.map (·.1))[i]? = some (t.2.getD i default).1 := by simp [List.getD_eq_getElem?_getD, hi]
      rw [ens_get hm]
      have := (at_ i hi).2.2
      rw [← List.map_take, this]
      simp [List.getD_eq_getElem?_getD, hi]
    · rw [List.getElem?_eq_none (by omega), List.getElem?_eq_none (by rw [ens_len, List.length_map]; omega)]
end Go.Tr
set_option linter.unusedVariables false
set_option linter.unusedSimpArgs false
namespace Go.Tr
open Go Go.Dv
def insO : List Op' → Op' → List Op'
  | [], o => [o]
  | q :: os, o => if slt o.1 q.1 then o :: q :: os else q :: insO os o
def posO : List Op' → Sp → Nat
  | [], _ => 0
  | q :: os, s => if slt s q.1 then 0 else posO os s + 1
theorem insO_eq : ∀ (os : List Op') (o : Op'), insO os o = os.take (posO os o.1) ++ o :: os.drop (posO os o.1)
  | [], _ => rfl
  | q :: os, o => by simp only [insO, posO]; split <;> simp [insO_eq os o]
theorem insO_mem {os : List Op'} {o q : Op'} (h : q ∈ insO os o) : q = o ∨ q ∈ os := by
  rw [insO_eq] at h
  rcases List.mem_append.1 h with h | h
  · exact .inr (List.mem_of_mem_take h)
  · rcases List.mem_cons.1 h with h | h
    · exact .inl h
    · exact .inr (List.mem_of_mem_drop h)
theorem insO_srt : ∀ {os : List Op'} {o : Op'}, SrtO os → (∀ q ∈ os, q.1 ≠ o.1) → SrtO (insO os o)
  | [], o, _, _ => by simp [insO, SrtO]
  | p :: os, o, hs, hn => by
    obtain ⟨h1, h2⟩ := List.pairwise_cons.1 hs
    simp only [insO]
    split
    · rename_i c
      refine List.pairwise_cons.2 ⟨fun q hq => ?_, hs⟩
      rcases List.mem_cons.1 hq with rfl | hq
      · exact c
      · exact slt_trans c (h1 q hq)
    · rename_i c
      have hg : slt p.1 o.1 := by
        rcases slt_tri p.1 o.1 with k | k | k
        · exact k
        · exact absurd k (hn p (List.mem_cons_self ..))
        · exact absurd k c
      refine List.pairwise_cons.2 ⟨fun q hq => ?_, insO_srt h2 fun q hq => hn q (List.mem_cons_of_mem _ hq)⟩
      rcases insO_mem hq with rfl | hq
      · exact hg
      · exact h1 q hq
theorem insO_ok {os : List Op'} {o : Op'} (h : OkT os) (ho : mvOk o = true) (hn : ∀ q ∈ os, q.1 ≠ o.1) : OkT (insO os o) :=
  ⟨fun q hq => by rcases insO_mem hq with rfl | hq; exact ho; exact h.mv q hq, insO_srt h.srt hn⟩
def hasO (os : List Op') (s : Sp) : Bool := os.any fun q => decide (q.1 = s)

theorem iter_run' {σ ρ : Type} {f : σ → Option (σ ⊕ ρ)} {r : ρ} {s0 : σ} (inv : Nat → σ) (k : Nat) (hs : ∀ i, i < k → f (inv i) = some (.inl (inv (i + 1)))) (hf : f (inv k) = some (.inr r)) (h0 : s0 = inv 0 := by rfl) : iter f s0 = some r := by
  subst h0; exact iter_run inv k hs hf
theorem ok_deps {os : List Op'} (h : OkT os) {l : List Nd} : ∀ e ∈ ens l os, Sm e.1.2.2.1 := by
  intro e he
  have : e.1 ∈ os := by rw [← ens_op l os]; exact List.mem_map_of_mem he
  have := (mvOk_deps (h.mv _ this)).1
  unfold Sm; omega
end Go.Tr
set_option linter.unusedVariables false
set_option linter.unusedSimpArgs false
namespace Go.Tr
open Go Go.Dv Go.Sort Go.Proofs
noncomputable def kids (l : List Nd) (id : Sp) : List Nd := sortL (s := sNode) cf_slices_SortFunc_Node (l.filter fun n => decide (n.2.1 = id))
theorem Children_eq (t : Tree) (id : Sp) (h : Sm t.1) : tree_Children (t, id) = some (kids t.1 id) := by
  have h' : t.1.length < 1000000 := h
  unfold tree_Children
  have hfl : ∀ i, (List.filter (fun n : Nd => decide (n.2.1 = id)) (t.1.take i)).length ≤ i := fun i => by
    have := List.length_filter_le (fun n : Nd => decide (n.2.1 = id)) (t.1.take i)
    rw [List.length_take] at this; omega
  rw [iter_run' (inv := fun i : Nat => ((t.1.take i).filter (fun n : Nd => decide (n.2.1 = id)), (t.1, ((t.1.length : Int), ((i : Int), (t, id)))))) (k := t.1.length) (r := (t.1.filter (fun n : Nd => decide (n.2.1 = id)), (t, id))) (h0 := by simp)]
  · simp only [Option.bind_some, slices_SortFunc_Node, sortF]
    have : (t.1.filter fun n : Nd => decide (n.2.1 = id)).length < 4611686018427387904 := by
      have := List.length_filter_le (fun n : Nd => decide (n.2.1 = id)) t.1; omega
    rw [if_pos this]; rfl
  · intro i hi
    have h3 : (i : Int) < (t.1.length : Int) := by omega
    have e : t.1.getD i default = t.1[i] := by rw [List.getD_eq_getElem?_getD, List.getElem?_eq_getElem hi]; rfl
    have ht : (t.1.take (i + 1)).filter (fun n : Nd => decide (n.2.1 = id)) = (t.1.take i).filter (fun n : Nd => decide (n.2.1 = id)) ++ if (t.1.getD i default).2.1 = id then [t.1.getD i default] else [] := by
      rw [List.take_add_one, List.getElem?_eq_getElem hi, e]
      simp only [Option.toList, List.filter_append, List.filter_cons, List.filter_nil, decide_eq_true_eq]
    simp only [h3, decide_true, cond_true, getI_D t.1 i hi, Option.bind_some, two_eq, wrap_nat (show i < 9223372036854775807 by omega), ht]
    by_cases hc : (t.1.getD i default).2.1 = id
    · have hroom : room (List.length (List.filter (fun n : Nd => decide (n.2.1 = id)) (t.1.take i) ++ [t.1.getD i default])) 48 = true := room_small (by have := hfl i; simp only [List.length_append, List.length_cons, List.length_nil]; omega) (by decide)
      simp only [hc, decide_true, cond_true, hroom, if_true]
    · simp only [hc, decide_false, cond_false, if_false, List.append_nil]
  · simp only [Int.lt_irrefl, decide_false, cond_false, List.take_length]
theorem sortL_perm (F : List Nd) : (sortL (s := sNode) cf_slices_SortFunc_Node F).Perm F ∧ SortedIn (ltOf cf_slices_SortFunc_Node) 0 F.length (pdq (ltOf cf_slices_SortFunc_Node) F.toArray 0 F.length (Lib.bitLen F.length) true true) := by
  obtain ⟨⟨h1, _, h3⟩, h4⟩ := pdq_sorts (ltOf cf_slices_SortFunc_Node) swo_cf F.toArray 0 F.toArray.size (Lib.bitLen F.length) true true (Nat.zero_le _) (Nat.le_refl _) (Or.inl rfl)
  refine ⟨?_, h4⟩
  have e1 : (pdq (ltOf cf_slices_SortFunc_Node) F.toArray 0 F.toArray.size (Lib.bitLen F.length) true true).extract 0 F.toArray.size = pdq (ltOf cf_slices_SortFunc_Node) F.toArray 0 F.toArray.size (Lib.bitLen F.length) true true := by
    generalize pdq (ltOf cf_slices_SortFunc_Node) F.toArray 0 F.toArray.size (Lib.bitLen F.length) true true = D at h1 ⊢
    rw [← h1]; simp
  have e2 : F.toArray.extract 0 F.toArray.size = F.toArray := by simp
  rw [e1, e2] at h3
  exact h3
theorem kids_perm (l : List Nd) (id : Sp) : (kids l id).Perm (l.filter fun n => decide (n.2.1 = id)) := (sortL_perm _).1
theorem kids_len (l : List Nd) (id : Sp) : (kids l id).length ≤ l.length := by
  rw [(kids_perm l id).length_eq]; exact List.length_filter_le _ _
end Go.Tr
set_option linter.unusedVariables false
set_option linter.unusedSimpArgs false
namespace Go.Tr
open Go Go.Dv
theorem O_ok : mvOk (arraslaw10_O ()) = true := by
  have hs : (ByteArray.mk #[107]).size = 1 := rfl
  simp [mvOk, arraslaw10_O, stOk, vecOk, depAt, getI, keyB, key_Is, getB, plOk, wrap_small, toList_data, hs]
def BOp (o : Op') : Prop := o.2.2.1.length ≤ 140737488355328 ∧ o.2.2.2.2.2.2.1.size ≤ 140737488355328
def BNd (n : Nd) : Prop := n.2.2.size ≤ 140737488355328
def BEn (e : Entry) : Prop := BOp e.1 ∧ e.2.2.2.1.size ≤ 140737488355328
end Go.Tr
set_option linter.unusedVariables false
set_option linter.unusedSimpArgs false
namespace Go.Tr
open Go Go.Dv
end Go.Tr
set_option linter.unusedVariables false
set_option linter.unusedSimpArgs false
namespace Go.Tr
open Go Go.Dv
def ups (l : List Nd) : Nat → Sp → List Sp
  | 0, _ => []
  | n + 1, s => match par l s with
    | some p => p :: ups l n p
    | none => []
end Go.Tr
