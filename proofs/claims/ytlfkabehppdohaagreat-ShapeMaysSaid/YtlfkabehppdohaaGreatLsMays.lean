/- A part of the proof: LsMays. -/
import Derived.Test.YtlfkabehppdohaaGreatLsB
set_option linter.unusedVariables false
set_option linter.unusedSimpArgs false
namespace Go.Tr
open Go Go.Dv
theorem Allowed_C {st : St} (o : Op') (h : OkS st) (h1 : st.1.length < 998000) (ho : opOk o = true) : arrasref16_Allowed (shp st, o) = some (letsC (made st.1).1 o) := by
  have n0 := nds0 st.1
  have hs : Srt (made st.1).1 := n0.1
  have ha : Acy (made st.1).1 := n0.2.1
  have hl : (made st.1).1.length < 999000 := by show (nds [] st.1).length < _; omega
  have hsm : Sm (made st.1).1 := show (made st.1).1.length < 1000000 by omega
  have hup := upC_len o.2.2.2.2.2.1 ha
  have htl : tallC (made st.1).1 o.2.2.2.2.1 ≤ (made st.1).1.length + 1 := tallN_le _ _ _
  have hw : IntKind.wrap .i64 (IntKind.wrap .i64 ((((upC (made st.1).1 o.2.2.2.2.2.1).length : Nat) : Int) + 1) + ((tallC (made st.1).1 o.2.2.2.2.1 : Nat) : Int)) = (((upC (made st.1).1 o.2.2.2.2.2.1).length + 1 + tallC (made st.1).1 o.2.2.2.2.1 : Nat) : Int) := by
    rw [Go.Dv.wrap_small (n := (((upC (made st.1).1 o.2.2.2.2.2.1).length : Nat) : Int) + 1) (by omega) (by omega), Go.Dv.wrap_small] <;> omega
  unfold arrasref16_Allowed letsC
  rw [show (shp st, o).1.1.1 = (made st.1).1 from rfl, show (shp st, o).1.1 = made st.1 from rfl]
  generalize hT : made st.1 = t at *
  simp only [rFind_eq _ hs hsm, Option.bind_some]
  -- which kind
  cases hk : o.2.2.2.1 == 1 with
  | false =>
    have hk2 := (opOk_parts ho).2.2 hk
    simp only [hk2.2, cond_true, Bool.false_eq_true, if_false]
    unfold fnd
    cases look t.1 o.2.2.2.2.1 with
    | none => rfl
    | some n =>
      have : ¬ (((posN t.1 o.2.2.2.2.1 : Nat) : Int) < 0) := by omega
      simp [this]
  | true =>
    have hk2 : (o.2.2.2.1 == 2) = false := by simp only [beq_iff_eq, beq_eq_false_iff_ne] at *; omega
    simp only [hk2, cond_false, if_true, rLive_C _ hs hl ha, Option.bind_some, rtrash_eq, rover_eq _ _ hs hsm ha, rAbove_C _ hs hl ha, (tall_eq _ hs hl ha).2]
    have c13 : ((13 : Int) < (((upC t.1 o.2.2.2.2.2.1).length + 1 + tallC t.1 o.2.2.2.2.1 : Nat) : Int)) ↔ 13 < (upC t.1 o.2.2.2.2.2.1).length + 1 + tallC t.1 o.2.2.2.2.1 := by omega
    have hab : (if (look t.1 o.2.2.2.2.2.1).isSome = true then (upC t.1 o.2.2.2.2.2.1, true) else ([], false)).1 = upC t.1 o.2.2.2.2.2.1 := by
      cases hq : look t.1 o.2.2.2.2.2.1 with
      | none => rw [upC_none ha hq]; rfl
      | some n => rfl
    have hroom : ∀ {α : Type} (k : Option α), (bif decide ((13 : Int) < IntKind.wrap .i64 (IntKind.wrap .i64 ((((if (look t.1 o.2.2.2.2.2.1).isSome = true then (upC t.1 o.2.2.2.2.2.1, true) else ([], false)).1.length : Nat) : Int) + 1) + ((tallC t.1 o.2.2.2.2.1 : Nat) : Int))) then some (2 : Int) else some (0 : Int)) = some (if 13 < (upC t.1 o.2.2.2.2.2.1).length + 1 + tallC t.1 o.2.2.2.2.1 then 2 else 0) := fun _ => by
      rw [hab, hw]
      by_cases b : 13 < (upC t.1 o.2.2.2.2.2.1).length + 1 + tallC t.1 o.2.2.2.2.1
      · simp only [c13.2 b, decide_true, cond_true, if_pos b]
      · simp only [mt c13.1 b, decide_false, cond_false, if_neg b]
    have hroom := hroom (none : Option Unit)
    unfold movesC fnd
    cases hq : look t.1 o.2.2.2.2.1 with
    | some n =>
      have e0 : (0 : Int) ≤ ((posN t.1 o.2.2.2.2.1 : Nat) : Int) := by omega
      simp only [Option.isSome_some, if_true, e0, decide_true, cond_true]
      cases trashB o.2.2.2.2.2.1 <;> cases liveC t.1 o.2.2.2.2.2.1 <;> cases circ t.1 o.2.2.2.2.1 o.2.2.2.2.2.1 <;> cases liveC t.1 o.2.2.2.2.1 <;>
        (simp only [cond_true, cond_false, Bool.not_true, Bool.not_false, Option.bind_some, rAbove_C _ hs hl ha, (tall_eq _ hs hl ha).2, hroom, Bool.and_self, Bool.and_true, Bool.and_false, Bool.true_and, Bool.false_and, Bool.or_true, Bool.or_false, Bool.true_or, Bool.false_or, Bool.false_eq_true, if_false, if_true, decide_eq_true_eq]; try rfl)
    | none =>
      have e0 : ¬ (0 : Int) ≤ -1 := by omega
      simp only [Option.isSome_none, Bool.false_eq_true, if_false, e0, decide_false, cond_false]
      have hloop : ∀ (b : Bool), iter (σ := (Bool × (Int × (Int × ((Tree × List Lk) × (Op' × Tree)))))) (ρ := (Bool × (Int × ((Tree × List Lk) × (Op' × Tree))))) (fun s =>
        bif (decide ((s.2.2.1 < ((List.length s.2.2.2.2.2.1) : Int)))) then (((getI s.2.2.2.2.2.1 s.2.2.1)).bind fun x3 =>
          ((arrasref16_Live (s.2.2.2.2.2, x3.1))).bind fun x4 =>
          bif x4 then some (.inl (s.1, ((IntKind.wrap .i64 (s.2.1 + 1)), ((IntKind.wrap .i64 (s.2.2.1 + 1)), s.2.2.2)))) else
          some (.inl (s.1, (s.2.1, ((IntKind.wrap .i64 (s.2.2.1 + 1)), s.2.2.2))))) else
        some (.inr (s.1, (s.2.1, s.2.2.2)))) (b, ((0 : Int), ((0 : Int), (shp st, (o, t))))) = some (b, (((livC t.1 : Nat) : Int), (shp st, (o, t)))) := fun b => by
        have hle : ∀ i, ((t.1.take i).filter fun q => liveC t.1 q.1).length ≤ i := fun i =>
          Nat.le_trans (List.length_filter_le _ _) (by rw [List.length_take]; omega)
        rw [iter_run' (inv := fun i : Nat => (b, (((((t.1.take i).filter fun q => liveC t.1 q.1).length : Nat) : Int), ((i : Int), (shp st, (o, t)))))) (k := t.1.length) (r := (b, (((livC t.1 : Nat) : Int), (shp st, (o, t)))))]
        · intro i hi
          have e1 : (i : Int) < (t.1.length : Int) := by omega
          have := hle i
          simp only [e1, decide_true, cond_true, getI_D t.1 i hi, Option.bind_some, rLive_C _ hs hl ha, wrap_nat (show i < 9223372036854775807 by omega), take_snoc hi, List.filter_append, List.length_append, List.filter_cons, List.filter_nil]
          cases liveC t.1 (t.1.getD i default).1 with
          | true => simp only [cond_true, if_true, wrap_nat (show ((t.1.take i).filter fun q => liveC t.1 q.1).length < 9223372036854775807 by omega), List.length_cons, List.length_nil, Nat.zero_add]
          | false => simp
        · simp [livC]
      have c48 : ((48 : Int) ≤ ((livC t.1 : Nat) : Int)) ↔ 48 ≤ livC t.1 := by omega
      simp only [hloop, Option.bind_some]
      cases trashB o.2.2.2.2.2.1 <;> cases liveC t.1 o.2.2.2.2.2.1 <;> by_cases a : 48 ≤ livC t.1 <;>
        (simp only [c48, a, decide_true, decide_false, cond_true, cond_false, Bool.not_true, Bool.not_false, Option.bind_some, rAbove_C _ hs hl ha, (tall_eq _ hs hl ha).2, hroom, Bool.and_self, Bool.and_true, Bool.and_false, Bool.true_and, Bool.false_and, Bool.or_true, Bool.or_false, Bool.true_or, Bool.false_or, Bool.false_eq_true, if_false, if_true, decide_eq_true_eq]; try rfl)
theorem May17_eq {s : Tree × List Lk} (o : Op') (h : SmS s) (hd : o.2.2.1.length < 9223372036854775807) : ∃ b, shpB s = b ∧ shape_May (s, o) = (if b = true then (if opOk o = true then shape_Lets (s, o) else some 1) else some 1) := by
  refine ⟨_, rfl, ?_⟩
  unfold shape_May
  simp only [IsShape_eq s h, Option.bind_some]
  cases shpB s with
  | false => rfl
  | true =>
    simp only [Bool.not_true, cond_false, op_May_eq o hd, Option.bind_some, if_true]
    cases opOk o with
    | false => rfl
    | true => simp only [Bool.not_true, cond_false, if_true]; cases shape_Lets (s, o) <;> rfl
theorem pure_ShapeMays (y : El sScript_arraslaw17) (h : Bnd sScript_arraslaw17 y) : arraslaw17_ShapeMays y = some true := by
  obtain ⟨b, hb, hb2⟩ := Heavy17_eq y h
  unfold arraslaw17_ShapeMays
  rw [hb]
  simp only [Option.bind_some]
  cases b with
  | true => rfl
  | false =>
    have L := hb2 rfl
    obtain ⟨s, l, ids⟩ := y
    simp only [cond_false]
    have key : ∀ i : Nat, i < l.length → (∃ v, (if shpB s = true ∧ opOk (l.getD i default) = true then arrasref16_Allowed (s, l.getD i default) else some 1) = some v ∧ shape_May (s, l.getD i default) = some v) := by
      intro i hi
      have hd : (l.getD i default).2.2.1.length ≤ 3000 := L.d _ (getD_mem hi)
      obtain ⟨b, hb, hM⟩ := May17_eq (s := s) (l.getD i default) L.s (show (l.getD i default).2.2.1.length < 9223372036854775807 by omega)
      rw [hM]
      cases b with
      | false => exact ⟨1, by simp [hb], by simp⟩
      | true =>
        cases ho : opOk (l.getD i default) with
        | false => exact ⟨1, by simp, by simp⟩
        | true =>
          obtain ⟨st, h1, h2⟩ := shpB_iff.1 hb
          have h2 : s = shp st := h2
          have hm := L.m
          have hk := L.k
          simp only at hm hk
          rw [h2] at hm hk
          have e := ens_len [] st.1
          have hm : (ens [] st.1).length ≤ 60 := hm
          have hk : st.2.length ≤ 3000 := hk
          have n0 := nds0 st.1
          refine ⟨letsC (made st.1).1 (l.getD i default), ?_, ?_⟩
          · rw [if_pos ⟨hb, rfl⟩, h2]; exact Allowed_C _ h1 (by omega) ho
          · simp only [if_true]
            rw [h2]
            exact Lets_C (s := shp st) _ n0.1 (by show (nds [] st.1).length < _; omega) n0.2.1
    have hl3 := L.l
    have hl3 : l.length ≤ 3000 := hl3
    rw [iter_run' (inv := fun i : Nat => ((i : Int), ((s, (l, ids)) : Script_arraslaw17))) (k := min l.length 12) (r := .inl (s, (l, ids)))]
    · simp only [Option.bind_some, wakes17_eq]
    · intro i hi
      have hi1 : i < l.length := by omega
      have hi2 : i < 12 := by omega
      have e1 : (i : Int) < (l.length : Int) := by omega
      have e2 : (i : Int) < 12 := by omega
      obtain ⟨v, hv1, hv2⟩ := key i hi1
      have hd := L.d _ (getD_mem hi1)
      have hd : (l.getD i default).2.2.1.length ≤ 3000 := hd
      simp only [e1, e2, decide_true, cond_true, getI_D l i hi1, Option.bind_some, ref_Shape_eq s L.s, ref_Op_eq _ (show (l.getD i default).2.2.1.length < 9223372036854775807 by omega), hv2, num17_eq]
      cases hB : shpB s with
      | false =>
        rw [hB] at hv1
        simp only [Bool.false_eq_true, false_and, if_false, Option.some.injEq] at hv1
        subst hv1
        simp only [cond_false, Option.bind_some, getI_D l i hi1, hv2, bne_self_eq_false, wrap_nat (show i < 9223372036854775807 by omega)]
      | true =>
        rw [hB] at hv1
        cases hO : opOk (l.getD i default) with
        | false =>
          rw [hO] at hv1
          simp only [Bool.false_eq_true, and_false, if_false, Option.some.injEq] at hv1
          subst hv1
          simp only [cond_true, cond_false, Option.bind_some, getI_D l i hi1, hv2, bne_self_eq_false, wrap_nat (show i < 9223372036854775807 by omega)]
        | true =>
          rw [hO] at hv1
          simp only [and_self, if_true] at hv1
          simp only [cond_true, cond_false, Option.bind_some, getI_D l i hi1, hv1, hv2, bne_self_eq_false, wrap_nat (show i < 9223372036854775807 by omega)]
    · by_cases c : l.length ≤ 12
      · rw [Nat.min_eq_left c]
        simp
      · rw [Nat.min_eq_right (by omega)]
        have : ¬ ((12 : Nat) : Int) < 12 := by omega
        have e1 : ((12 : Nat) : Int) < (l.length : Int) := by omega
        simp only [e1, this, decide_true, decide_false, cond_true, cond_false]
end Go.Tr
