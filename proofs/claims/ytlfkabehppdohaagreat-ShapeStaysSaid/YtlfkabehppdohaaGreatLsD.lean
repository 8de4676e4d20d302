/- A part of the proof: LsMays, LsD, LsDeep. -/
import Derived.Test.YtlfkabehppdohaaGreatLsB
set_option linter.unusedVariables false
set_option linter.unusedSimpArgs false
namespace Go.Tr
open Go Go.Dv
theorem May17_eq {s : Tree × List Lk} (o : Op') (h : SmS s) (hd : o.2.2.1.length < 9223372036854775807) : ∃ b, shpB s = b ∧ shape_May (s, o) = (if b = true then (if opOk o = true then shape_Lets (s, o) else some 1) else some 1) := by
  refine ⟨_, rfl, ?_⟩
  unfold shape_May
  simp only [IsShape_eq s h, Option.bind_some]
  cases shpB s with
  | false => rfl
  | true =>
    simp only [Bool.not_true, cond_false, op_May_eq o hd, Option.bind_some, if_true]
    cases opOk o with
    | false => rfl
    | true => simp only [Bool.not_true, cond_false, if_true]; cases shape_Lets (s, o) <;> rfl
end Go.Tr
set_option linter.unusedVariables false
set_option linter.unusedSimpArgs false
namespace Go.Tr
open Go Go.Dv
def mvo (t : Int) (node parent : Sp) (key : ByteArray) : Op' := ((t, (0 : Int)), (1 : Int), [0], (1 : Int), node, parent, key, (0 : Int), (0 : Int))
theorem keyB_m : keyB (ByteArray.mk #[109]) = true := by
  have hs : (ByteArray.mk #[109]).size = 1 := rfl
  simp [keyB, key_Is, hs, getB, Go.Dv.wrap_small, toList_data]
theorem mvo_ok {t : Int} {node parent : Sp} {key : ByteArray} (ht : stOk (t, 0) = true) (hn : stOk node = true) (hp : plOk parent = true) (hk : keyB key = true) : opOk (mvo t node parent key) = true := by
  have h2 : vecOk [0] = true := rfl
  have h3 : depAt (mvo t node parent key) = 0 := rfl
  simp only [opOk, hdOk, mvo] at *
  simp only [ht, hn, hp, hk, h2, h3, Go.Dv.wrap_small (n := 0 + 1) (by omega) (by omega)]
  rfl
theorem insO_end : ∀ {os : List Op'} {o : Op'}, (∀ q ∈ os, slt q.1 o.1) → insO os o = os ++ [o]
  | [], _, _ => rfl
  | q :: os, o, h => by
    rw [insO, if_neg (slt_not (h q (by simp))), insO_end fun r hr => h r (by simp [hr])]; rfl
theorem apply_end {os : List Op'} {lk : List Lk} {o : Op'} (h : OkS (os, lk)) (hl : os.length < 900000) (hl2 : lk.length < 900000) (ho : opOk o = true) (hk : (o.2.2.2.1 == 1) = true) (hb : ∀ q ∈ os, slt q.1 o.1) (hd : o.2.2.1.length < 9223372036854775807) :
    shape_Apply (shp (os, lk), o) = some (shp (os ++ [o], lk), 0) ∧ OkS (os ++ [o], lk) := by
  have hh : hasO os o.1 = false := by
    cases hq : hasO os o.1 with
    | false => rfl
    | true =>
      simp only [hasO, List.any_eq_true, decide_eq_true_eq] at hq
      obtain ⟨q, hq, e⟩ := hq
      have := hb q hq
      rw [e] at this
      exact absurd this (slt_irr _)
  have hc : clash (os, lk) o = false := by simp [clash, hh]
  have hp : putS (os, lk) o = (os ++ [o], lk) := by simp [putS, hk, insO_end hb]
  have ha := shape_Apply_eq h (show os.length < 998000 by omega) (show lk.length < 998000 by omega) hd
  rw [ho, hc, hp] at ha
  have ok := putS_ok h ho hc
  rw [hp] at ok
  exact ⟨by simpa using ha, ok⟩
theorem May_ok {st : St} {o : Op'} (h : OkS st) (h1 : st.1.length < 998000) (h2 : st.2.length < 998000) (ho : opOk o = true) (hd : o.2.2.1.length < 9223372036854775807) : shape_May (shp st, o) = some (letsC (made st.1).1 o) := by
  obtain ⟨b, hb, hM⟩ := May17_eq o (sms_shp h (by omega) (by omega)) hd
  have hb' : b = true := by rw [← hb]; exact shpB_iff.2 ⟨st, h, rfl⟩
  have n0 := nds0 st.1
  rw [hM, hb', ho]
  simp only [if_true]
  exact Lets_C (s := shp st) o n0.1 (by show (nds [] st.1).length < _; omega) n0.2.1
def rowO (op : Nat → Op') (n : Nat) : List Op' := (List.range n).map fun k => op (k + 1)
theorem rowO_succ (op : Nat → Op') (n : Nat) : rowO op (n + 1) = rowO op n ++ [op (n + 1)] := by simp [rowO, List.range_succ]
def chk (op : Nat → Op') : Nat → Nat → List Nd → Bool
  | 0, _, _ => true
  | n + 1, i, l => decide (letsC l (op i) = 0) && chk op n (i + 1) (doL l (op i))
theorem chk_at {op : Nat → Op'} : ∀ {n i : Nat} {l : List Nd}, chk op n i l = true → ∀ k, k < n → letsC (nds l ((List.range k).map fun j => op (i + j))) (op (i + k)) = 0
  | 0, i, l, _, k, hk => by omega
  | n + 1, i, l, h, 0, _ => by
    simp only [chk, Bool.and_eq_true, decide_eq_true_eq] at h
    simpa [nds] using h.1
  | n + 1, i, l, h, k + 1, hk => by
    simp only [chk, Bool.and_eq_true, decide_eq_true_eq] at h
    have := chk_at h.2 k (by omega)
    rw [show i + (k + 1) = i + 1 + k by omega, List.range_succ_eq_map, List.map_cons, List.map_map]
    show letsC (nds (doL l (op (i + 0))) _) _ = 0
    rw [Nat.add_zero]
    rw [show (List.map ((fun j => op (i + j)) ∘ Nat.succ) (List.range k)) = (List.range k).map fun j => op (i + 1 + j) from List.map_congr_left fun j _ => by show op (i + (j + 1)) = _; congr 1; omega]
    exact this
theorem chk_row {op : Nat → Op'} {n : Nat} (h : chk op n 1 [] = true) (k : Nat) (hk : k < n) : letsC (nds [] (rowO op k)) (op (k + 1)) = 0 := by
  have := chk_at h k hk
  rw [Nat.add_comm 1 k] at this
  rw [← this]
  congr 2
  exact List.map_congr_left fun j _ => by rw [Nat.add_comm]
theorem row_ok {op : Nat → Op'} (hop : ∀ i, 1 ≤ i → i ≤ 50 → opOk (op i) = true) (ht : ∀ i, (op i).1 = ((i : Int), 0)) (hk : ∀ i, ((op i).2.2.2.1 == 1) = true) (hd : ∀ i, (op i).2.2.1.length < 9223372036854775807) : ∀ n, n ≤ 50 → OkS (rowO op n, []) ∧ (n < 50 → shape_Apply (shp (rowO op n, []), op (n + 1)) = some (shp (rowO op (n + 1), []), 0)) := by
  have later : ∀ n, ∀ q ∈ rowO op n, slt q.1 (op (n + 1)).1 := by
    intro n q hq
    obtain ⟨j, hj, rfl⟩ := List.mem_map.1 hq
    have := List.mem_range.1 hj
    rw [ht, ht]
    exact .inl (by show ((j + 1 : Nat) : Int) < ((n + 1 : Nat) : Int); omega)
  have len : ∀ n, (rowO op n).length = n := fun n => by simp [rowO]
  have main : ∀ n, n ≤ 50 → OkS (rowO op n, []) := by
    intro n
    induction n with
    | zero => intro _; exact oks_nil
    | succ n ih =>
      intro hn
      rw [rowO_succ]
      exact (apply_end (ih (by omega)) (by rw [len]; omega) (by decide) (hop _ (by omega) hn) (hk _) (later n) (hd _)).2
  intro n hn
  refine ⟨main n hn, fun hn' => ?_⟩
  rw [rowO_succ]
  exact (apply_end (main n hn) (by rw [len]; omega) (by decide) (hop _ (by omega) hn') (hk _) (later n) (hd _)).1
theorem st_small {i : Nat} (h : 1 ≤ i) (h2 : i ≤ 1000) : stOk ((i : Int), 0) = true := by
  simp only [stOk, Bool.and_eq_true, decide_eq_true_eq]; omega
theorem pl_small {i : Nat} (h2 : i ≤ 1000) : plOk ((i : Int), 0) = true := by
  unfold plOk
  by_cases h : i = 0
  · subst h; rfl
  · rw [st_small (by omega) h2]; rfl
end Go.Tr
set_option linter.unusedVariables false
set_option linter.unusedSimpArgs false
namespace Go.Tr
open Go Go.Dv
def kK : ByteArray := ByteArray.mk ([107]).toArray
def kM : ByteArray := ByteArray.mk ([109]).toArray
def opD (i : Nat) : Op' := mvo i ((i : Int), 0) (((i - 1 : Nat) : Int), 0) kK
def opF (i : Nat) : Op' := mvo i ((i : Int), 0) (0, 0) kK
def opX : Op' := mvo 60 ((60 : Int), 0) (0, 0) kM
def opY (i : Nat) : Op' := mvo 70 ((i : Int), 0) (60, 0) kK
theorem opD_ok (i : Nat) (h : 1 ≤ i) (h2 : i ≤ 50) : opOk (opD i) = true := mvo_ok (st_small h (by omega)) (st_small h (by omega)) (pl_small (by omega)) keyB_k
theorem opF_ok (i : Nat) (h : 1 ≤ i) (h2 : i ≤ 50) : opOk (opF i) = true := mvo_ok (st_small h (by omega)) (st_small h (by omega)) rfl keyB_k
theorem chkD : chk opD 12 1 [] = true := by kernel_rfl
theorem chkF : chk opF 48 1 [] = true := by kernel_rfl
theorem endD : letsC (nds [] (rowO opD 12)) (opD 13) = 2 := by
  have : decide (letsC (nds [] (rowO opD 12)) (opD 13) = 2) = true := by kernel_rfl
  exact of_decide_eq_true this
theorem endF : letsC (nds [] (rowO opF 48)) (opF 49) = 5 := by
  have : decide (letsC (nds [] (rowO opF 48)) (opF 49) = 5) = true := by kernel_rfl
  exact of_decide_eq_true this
theorem midX : ((List.range 12).all fun k => decide (letsC (nds [] (rowO opD 12 ++ [opX])) (opY (k + 1)) = if k = 0 then 2 else 0)) = true := by kernel_rfl
theorem pure_ShapeDeep (y : El sScript_arraslaw17) (h : Bnd sScript_arraslaw17 y) : arraslaw17_ShapeDeep y = some true := by
  have rD := row_ok (op := opD) opD_ok (fun i => rfl) (fun i => rfl) (fun i => by show 1 < _; omega)
  have rF := row_ok (op := opF) opF_ok (fun i => rfl) (fun i => rfl) (fun i => by show 1 < _; omega)
  have len : ∀ (op : Nat → Op') n, (rowO op n).length = n := fun op n => by simp [rowO]
  have mD : ∀ n, n < 50 → shape_May (shp (rowO opD n, []), opD (n + 1)) = some (letsC (nds [] (rowO opD n)) (opD (n + 1))) := fun n hn =>
    May_ok (rD n (by omega)).1 (by rw [len]; omega) (by show 0 < 998000; omega) (opD_ok _ (by omega) (by omega)) (by show 1 < _; omega)
  have mF : ∀ n, n < 50 → shape_May (shp (rowO opF n, []), opF (n + 1)) = some (letsC (nds [] (rowO opF n)) (opF (n + 1))) := fun n hn =>
    May_ok (rF n (by omega)).1 (by rw [len]; omega) (by show 0 < 998000; omega) (opF_ok _ (by omega) (by omega)) (by show 1 < _; omega)
  have okX : opOk opX = true := mvo_ok rfl rfl rfl keyB_m
  obtain ⟨aX, sX⟩ := apply_end (o := opX) (rD 12 (by omega)).1 (by rw [len]; omega) (by decide) okX rfl (fun q hq => by
    obtain ⟨j, hj, rfl⟩ := List.mem_map.1 hq
    have := List.mem_range.1 hj
    exact .inl (by show ((j + 1 : Nat) : Int) < 60; omega)) (by show 1 < _; omega)
  have mX : ∀ k, k < 12 → shape_May (shp (rowO opD 12 ++ [opX], []), opY (k + 1)) = some (if k = 0 then 2 else 0) := fun k hk => by
    have e := List.all_eq_true.1 midX k (List.mem_range.2 hk)
    rw [decide_eq_true_eq] at e
    rw [← e]
    exact May_ok sX (by simp only [List.length_append, len, List.length_cons, List.length_nil]; omega) (by decide) (mvo_ok rfl (st_small (by omega) (by omega)) rfl keyB_k) (by show 1 < _; omega)
  unfold arraslaw17_ShapeDeep
  -- the chain
  rw [iter_run' (inv := fun k : Nat => (((k + 1 : Nat) : Int), (y, (shp (rowO opD k, []), (((k : Nat) : Int), (0 : Int)))))) (k := 12) (r := .inl (y, (shp (rowO opD 12, []), ((12 : Int), (0 : Int)))))]
  · simp only [Option.bind_some]
    rw [show shape_Apply ((y, (shp (rowO opD 12, []), ((12 : Int), (0 : Int)))).2.1, (((60 : Int), (0 : Int)), (1 : Int), [0], (1 : Int), ((60 : Int), (0 : Int)), ((0 : Int), (0 : Int)), (ByteArray.mk ([109]).toArray), (0 : Int), (0 : Int))) = _ from aX]
    simp only [Option.bind_some, num17_eq, bne_self_eq_false, cond_false]
    -- the half that may go
    rw [iter_run' (inv := fun k : Nat => (((k + 1 : Nat) : Int), (y, (shp (rowO opD 12, []), (((12 : Int), (0 : Int)), (((60 : Int), (0 : Int)), shp (rowO opD 12 ++ [opX], []))))))) (k := 12) (r := .inl (y, (shp (rowO opD 12, []), (((12 : Int), (0 : Int)), (((60 : Int), (0 : Int)), shp (rowO opD 12 ++ [opX], []))))))]
    · simp only [Option.bind_some]
      -- so many
      rw [iter_run' (inv := fun k : Nat => (((k + 1 : Nat) : Int), (y, (shp (rowO opD 12, []), (((12 : Int), (0 : Int)), (((60 : Int), (0 : Int)), (shp (rowO opD 12 ++ [opX], []), shp (rowO opF k, [])))))))) (k := 48) (r := .inr true)]
      · simp only [Option.bind_some]
      · intro k hk
        have e1 : ((k + 1 : Nat) : Int) ≤ 49 := by omega
        have e2 : ¬ (48 : Int) < ((k + 1 : Nat) : Int) := by omega
        have hm := mF k (by omega)
        rw [chk_row chkF k hk] at hm
        have ha := (rF k (by omega)).2 (by omega)
        simp only [e1, e2, decide_true, decide_false, cond_true, cond_false]
        rw [show shape_May (shp (rowO opF k, []), ((((k + 1 : Nat) : Int), (0 : Int)), (1 : Int), [0], (1 : Int), (((k + 1 : Nat) : Int), (0 : Int)), ((0 : Int), (0 : Int)), (ByteArray.mk ([107]).toArray), (0 : Int), (0 : Int))) = _ from hm]
        simp only [Option.bind_some]
        rw [show shape_Apply (shp (rowO opF k, []), ((((k + 1 : Nat) : Int), (0 : Int)), (1 : Int), [0], (1 : Int), (((k + 1 : Nat) : Int), (0 : Int)), ((0 : Int), (0 : Int)), (ByteArray.mk ([107]).toArray), (0 : Int), (0 : Int))) = _ from ha]
        simp only [Option.bind_some, num17_eq, bne_self_eq_false, cond_false, wrap_nat (show k + 1 < 9223372036854775807 by omega)]
      · have hm := mF 48 (by omega)
        rw [endF] at hm
        simp only [show decide (((48 + 1 : Nat) : Int) ≤ 49) = true from rfl, show decide ((48 : Int) < ((48 + 1 : Nat) : Int)) = true from rfl, cond_true]
        rw [show shape_May (shp (rowO opF 48, []), ((((48 + 1 : Nat) : Int), (0 : Int)), (1 : Int), [0], (1 : Int), (((48 + 1 : Nat) : Int), (0 : Int)), ((0 : Int), (0 : Int)), (ByteArray.mk ([107]).toArray), (0 : Int), (0 : Int))) = _ from hm]
        have e3 : (0 : Int) ≤ ((y.2.1.length : Nat) : Int) := by omega
        simp only [Option.bind_some, num17_eq, beq_self_eq_true, cond_true, e3, decide_true, wakes17_eq]
    · intro k hk
      have e1 : ((k + 1 : Nat) : Int) ≤ 12 := by omega
      have hm := mX k hk
      simp only [e1, decide_true, cond_true]
      rw [show shape_May (shp (rowO opD 12 ++ [opX], []), (((70 : Int), (0 : Int)), (1 : Int), [0], (1 : Int), (((k + 1 : Nat) : Int), (0 : Int)), ((60 : Int), (0 : Int)), (ByteArray.mk ([107]).toArray), (0 : Int), (0 : Int))) = _ from hm]
      by_cases h0 : k = 0
      · subst h0
        rfl
      · have e2 : (((k + 1 : Nat) : Int) == 1) = false := by rw [beq_eq_false_iff_ne]; omega
        simp only [e2, cond_false, Option.bind_some, if_neg h0, num17_eq, bne_self_eq_false, wrap_nat (show k + 1 < 9223372036854775807 by omega)]
    · rfl
  · intro k hk
    have e1 : ((k + 1 : Nat) : Int) ≤ 13 := by omega
    have e2 : ¬ (12 : Int) < ((k + 1 : Nat) : Int) := by omega
    have hm := mD k (by omega)
    rw [chk_row chkD k hk] at hm
    have ha := (rD k (by omega)).2 (by omega)
    simp only [e1, e2, decide_true, decide_false, cond_true, cond_false]
    rw [show shape_May (shp (rowO opD k, []), ((((k + 1 : Nat) : Int), (0 : Int)), (1 : Int), [0], (1 : Int), (((k + 1 : Nat) : Int), (0 : Int)), (((k : Nat) : Int), (0 : Int)), (ByteArray.mk ([107]).toArray), (0 : Int), (0 : Int))) = _ from hm]
    simp only [Option.bind_some]
    rw [show shape_Apply (shp (rowO opD k, []), ((((k + 1 : Nat) : Int), (0 : Int)), (1 : Int), [0], (1 : Int), (((k + 1 : Nat) : Int), (0 : Int)), (((k : Nat) : Int), (0 : Int)), (ByteArray.mk ([107]).toArray), (0 : Int), (0 : Int))) = _ from ha]
    simp only [Option.bind_some, num17_eq, bne_self_eq_false, cond_false, wrap_nat (show k + 1 < 9223372036854775807 by omega)]
  · have hm := mD 12 (by omega)
    rw [endD] at hm
    simp only [show decide (((12 + 1 : Nat) : Int) ≤ 13) = true from rfl, show decide ((12 : Int) < ((12 + 1 : Nat) : Int)) = true from rfl, cond_true]
    rw [show shape_May (shp (rowO opD 12, []), ((((12 + 1 : Nat) : Int), (0 : Int)), (1 : Int), [0], (1 : Int), (((12 + 1 : Nat) : Int), (0 : Int)), (((12 : Nat) : Int), (0 : Int)), (ByteArray.mk ([107]).toArray), (0 : Int), (0 : Int))) = _ from hm]
    simp only [Option.bind_some, num17_eq, bne_self_eq_false, cond_false]
    rfl
end Go.Tr
