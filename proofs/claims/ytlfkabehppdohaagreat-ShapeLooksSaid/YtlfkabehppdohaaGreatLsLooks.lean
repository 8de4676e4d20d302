/- A part of the proof: LsLooks. -/
import Derived.Test.YtlfkabehppdohaaGreatLsB
set_option linter.unusedVariables false
set_option linter.unusedSimpArgs false
namespace Go.Tr
open Go Go.Dv
theorem CopyEntry_eq (e : Entry) (h : Sm e.1.2.2.1) : arrasref0_CopyEntry e = some e := by
  unfold arrasref0_CopyEntry
  rw [CopyOp_eq _ h]; rfl
theorem CopyMoves_eq (l : List Entry) (h : Sm l) (hd : ∀ e ∈ l, Sm e.1.2.2.1) : arrasref0_CopyMoves l = some l := by
  have h' : l.length < 1000000 := h
  unfold arrasref0_CopyMoves
  rw [copy_loop]
  · rfl
  · intro i hi
    have e1 : (i : Int) < (l.length : Int) := by omega
    have hr : room (List.length (l.take i ++ [l.getD i default])) 168 = true := room_small (by simp only [List.length_append, List.length_take, List.length_cons, List.length_nil]; omega) (by decide)
    simp only [e1, decide_true, cond_true, getI_D l i hi, Option.bind_some, CopyEntry_eq _ (hd _ (getD_mem hi)), hr, wrap_nat (show i < 9223372036854775807 by omega), take_snoc hi]
  · simp
theorem CopyTree_eq (t : Tree) (h1 : Sm t.1) (h2 : Sm t.2) (hd : ∀ e ∈ t.2, Sm e.1.2.2.1) : arrasref0_CopyTree t = some t := by
  unfold arrasref0_CopyTree
  rw [CopyNodes_eq _ h1, CopyMoves_eq _ h2 hd]; rfl
instance i7 : DecidableEq (Int × Int × Stamp) := inferInstance
instance i8 : DecidableEq Go.Dv.Reg := inferInstanceAs (DecidableEq (Int × Int × Stamp))
instance i9 : DecidableEq (Stamp × List Go.Dv.Reg) := inferInstance
instance i10 : DecidableEq Go.Dv.Look := inferInstanceAs (DecidableEq (Stamp × List Go.Dv.Reg))
theorem rg_eq (a b : Rg) : ((a.1 == b.1) && ((a.2.1 == b.2.1) && ((a.2.2.1 == b.2.2.1) && (a.2.2.2 == b.2.2.2)))) = decide (a = b) := by
  rw [Bool.eq_iff_iff]; simp [Prod.ext_iff]
theorem EqRegs_eq (a b : List Rg) (ha : a.length < 9223372036854775807) : arrasref0_EqRegs (a, b) = some (decide (a = b)) := by
  unfold arrasref0_EqRegs
  simp only [len_ne, rg_eq]
  by_cases hl : a.length = b.length
  · simp only [hl, decide_true, Bool.not_true, cond_false]
    rw [eq_loop a b ha hl]
    · by_cases h : a = b <;> simp [h]
    · intro i hi
      have h1 : (i : Int) < (a.length : Int) := by omega
      simp only [h1, decide_true, cond_true, getI_D a i hi, getI_D b i (by omega), Option.bind_some, wrap_nat (show i < 9223372036854775807 by omega)]
      by_cases h : a.getD i default = b.getD i default <;> simp [h]
    · simp
  · have : a ≠ b := by rintro rfl; exact hl rfl
    simp [hl, this]
theorem EqLook_eq (a b : Lk) (ha : a.2.length < 9223372036854775807) : arrasref0_EqLook (a, b) = some (decide (a = b)) := by
  unfold arrasref0_EqLook
  simp only [two_eq, EqRegs_eq a.2 b.2 ha, Option.bind_some]
  by_cases h : a.1 = b.1 <;> by_cases k : a.2 = b.2 <;> simp [h, k, Prod.ext_iff]
theorem EqLooks_eq (a b : List Lk) (ha : a.length < 9223372036854775807) (hr : ∀ q ∈ a, q.2.length < 9223372036854775807) : arrasref0_EqLooks (a, b) = some (decide (a = b)) := by
  unfold arrasref0_EqLooks
  simp only [len_ne]
  by_cases hl : a.length = b.length
  · simp only [hl, decide_true, Bool.not_true, cond_false]
    rw [eq_loop a b ha hl]
    · by_cases h : a = b <;> simp [h]
    · intro i hi
      have h1 : (i : Int) < (a.length : Int) := by omega
      simp only [h1, decide_true, cond_true, getI_D a i hi, getI_D b i (by omega), Option.bind_some, EqLook_eq _ _ (hr _ (getD_mem hi)), wrap_nat (show i < 9223372036854775807 by omega)]
      by_cases h : a.getD i default = b.getD i default <;> simp [h]
    · simp
  · have : a ≠ b := by rintro rfl; exact hl rfl
    simp [hl, this]
theorem EqShape_eq (a b : Tree × List Lk) (h : SmS a) : arrasref0_EqShape (a, b) = some (decide (a = b)) := by
  have h1 := h.n
  have h2 := h.m
  have h3 := h.l
  unfold arrasref0_EqShape
  simp only [EqTree_eq a.1 b.1 (by omega) ⟨by omega, fun e he => by have : e.1.2.2.1.length < 1000000 := h.d e he; omega⟩, EqLooks_eq a.2 b.2 (by omega) (fun q hq => by have := h.r q hq; omega), Option.bind_some]
  by_cases h : a.1 = b.1 <;> by_cases k : a.2 = b.2 <;> simp [h, k, Prod.ext_iff]
theorem CopyRegs_eq (l : List Rg) (h : l.length < 999900) : arrasref0_CopyRegs l = some l := by
  unfold arrasref0_CopyRegs
  rw [copy_loop]
  · rfl
  · intro i hi
    have e1 : (i : Int) < (l.length : Int) := by omega
    have hr : room (List.length (l.take i ++ [l.getD i default])) 32 = true := room_small (by simp only [List.length_append, List.length_take, List.length_cons, List.length_nil]; omega) (by decide)
    simp only [e1, decide_true, cond_true, getI_D l i hi, Option.bind_some, hr, wrap_nat (show i < 9223372036854775807 by omega), take_snoc hi]
  · simp
theorem CopyLook_eq (q : Lk) (h : q.2.length < 999900) : arrasref0_CopyLook q = some q := by
  unfold arrasref0_CopyLook
  rw [CopyRegs_eq _ h]; rfl
theorem CopyLooks_eq (l : List Lk) (h : l.length < 999900) (hr : ∀ q ∈ l, q.2.length < 999900) : arrasref0_CopyLooks l = some l := by
  unfold arrasref0_CopyLooks
  rw [copy_loop]
  · rfl
  · intro i hi
    have e1 : (i : Int) < (l.length : Int) := by omega
    have hrr : room (List.length (l.take i ++ [l.getD i default])) 40 = true := room_small (by simp only [List.length_append, List.length_take, List.length_cons, List.length_nil]; omega) (by decide)
    simp only [e1, decide_true, cond_true, getI_D l i hi, Option.bind_some, CopyLook_eq _ (hr _ (getD_mem hi)), hrr, wrap_nat (show i < 9223372036854775807 by omega), take_snoc hi]
  · simp
theorem CopyShape_eq (s : Tree × List Lk) (h : SmS s) : arrasref0_CopyShape s = some s := by
  have h1 := h.n
  have h2 := h.m
  have h3 := h.l
  unfold arrasref0_CopyShape
  rw [CopyTree_eq s.1 (show s.1.1.length < 1000000 by omega) (show s.1.2.length < 1000000 by omega) h.d, CopyLooks_eq s.2 (by omega) (fun q hq => by have := h.r q hq; omega)]
  rfl
theorem refLook_eq (s : Tree × List Lk) (id : Sp) (h : s.2.length < 999000) : arrasref16_Look (s, id) = some (regsAt s.2 id) := by
  unfold arrasref16_Look regsAt
  have step : ∀ (l : List Lk) (pre : List Lk), s.2 = pre ++ l → ∃ r, iter (σ := (Int × ((Tree × List Lk) × Sp))) (ρ := (((Tree × List Lk) × Sp) ⊕ List Rg)) (fun s =>
      bif (decide ((s.1 < ((List.length s.2.1.2) : Int)))) then (((getI s.2.1.2 s.1)).bind fun x1 =>
        bif ((x1.1.1 == s.2.2.1) && (x1.1.2 == s.2.2.2)) then (((getI s.2.1.2 s.1)).bind fun x2 =>
          some (.inr (.inr x2.2))) else
        some (.inl ((IntKind.wrap .i64 (s.1 + 1)), s.2))) else
      some (.inr (.inl s.2))) ((pre.length : Int), (s, id)) = some r ∧ (match r with | .inl _ => ([] : List Rg) | .inr y => y) = (match glook lk l id with | none => [] | some q => q.2) := by
    intro l
    induction l with
    | nil =>
      intro pre hp
      rw [List.append_nil] at hp
      refine ⟨.inl (s, id), iter_inr ?_, rfl⟩
      have : ¬ ((pre.length : Int) < ((s.2.length : Nat) : Int)) := by rw [hp]; omega
      simp only [this, decide_false, cond_false]
    | cons q l ih =>
      intro pre hp
      have e1 : (pre.length : Int) < ((s.2.length : Nat) : Int) := by rw [hp]; simp only [List.length_append, List.length_cons]; omega
      have e2 : getI s.2 (pre.length : Int) = some q := by rw [getI_nat, hp, List.getElem?_append_right (Nat.le_refl _), Nat.sub_self]; rfl
      by_cases c : q.1 = id
      · refine ⟨.inr q.2, iter_inr ?_, ?_⟩
        · simp only [e1, decide_true, cond_true, e2, Option.bind_some, two_eq, c]
        · simp [glook, lk, c]
      · obtain ⟨r, r1, r2⟩ := ih (pre ++ [q]) (by rw [hp]; simp)
        refine ⟨r, ?_, ?_⟩
        · rw [← r1]
          refine iter_inl ?_
          have hl : pre.length < 999000 := by rw [hp] at h; simp only [List.length_append, List.length_cons] at h; omega
          simp only [e1, decide_true, cond_true, e2, Option.bind_some, two_eq, c, decide_false, cond_false, wrap_nat (show pre.length < 9223372036854775807 by omega), List.length_append, List.length_cons, List.length_nil, Nat.zero_add]
        · rw [r2]; simp [glook, lk, c]
  obtain ⟨r, r1, r2⟩ := step s.2 [] rfl
  rw [show (((0 : Int), (s, id)) : Int × ((Tree × List Lk) × Sp)) = ((([] : List Lk).length : Int), (s, id)) from rfl, r1]
  simp only [Option.bind_some]
  cases r with
  | inl y => exact congrArg some r2
  | inr y => exact congrArg some r2
theorem Look_eq (s : Tree × List Lk) (id : Sp) (h : SmS s) : shape_Look (s, id) = some (if shpB s = true then (regsAt s.2 id, 0) else ([], 1)) := by
  have h3 := h.l
  unfold shape_Look
  simp only [IsShape_eq s h, Option.bind_some]
  cases hB : shpB s with
  | false => rfl
  | true =>
    obtain ⟨st, o1, rfl⟩ := shpB_iff.1 hB
    simp only [Bool.not_true, cond_false, Regs_eq id (show GS lk slt (shp st).2 from o1.l.srt) (show (shp st).2.length < 1000000 by omega), Option.bind_some, if_true]
    have hr : (regsAt (shp st).2 id).length < 999000 := by
      unfold regsAt
      split
      · decide
      · rename_i q hq; exact h.r q (glook_id hq).2
    simp only [room_small (show (regsAt (shp st).2 id).length ≤ 1000000 by omega) (show 32 ≤ 1000000 by decide), cond_true]
theorem aRegs_eq (l : List Rg) (h : l.length < 999000) : arraslaw0_Regs l = some () := by
  unfold arraslaw0_Regs
  have step : ∀ (d i : Nat) (m : List Rg), m.length = l.length → l.length - i = d → i ≤ l.length → ∃ m', m'.length = l.length ∧ iter (σ := (List Rg × Int)) (ρ := List Rg) (fun s =>
      bif (decide ((s.2 < ((List.length s.1) : Int)))) then (((getI s.1 s.2)).bind fun x1 =>
        ((getI s.1 s.2)).bind fun x2 =>
        some (.inl ((List.set s.1 (Int.toNat s.2) (((-9) : Int), (0 : Int), (0 : Int), (0 : Int))), (IntKind.wrap .i64 (s.2 + 1))))) else
      some (.inr s.1)) (m, (i : Int)) = some m' := by
    intro d
    induction d with
    | zero =>
      intro i m hm hd hi
      refine ⟨m, hm, iter_inr ?_⟩
      have : ¬ ((i : Int) < ((m.length : Nat) : Int)) := by omega
      simp only [this, decide_false, cond_false]
    | succ d ih =>
      intro i m hm hd hi
      have e1 : (i : Int) < ((m.length : Nat) : Int) := by omega
      obtain ⟨m', h1, h2⟩ := ih (i + 1) (m.set i (((-9) : Int), (0 : Int), (0 : Int), (0 : Int))) (by simpa using hm) (by omega) (by omega)
      refine ⟨m', h1, ?_⟩
      rw [← h2]
      refine iter_inl ?_
      simp only [e1, decide_true, cond_true, getI_D m i (by omega), Option.bind_some, Int.toNat_natCast, wrap_nat (show i < 9223372036854775807 by omega)]
  obtain ⟨m', h1, h2⟩ := step l.length 0 l rfl (by omega) (by omega)
  rw [show ((l, (0 : Int)) : List Rg × Int) = (l, ((0 : Nat) : Int)) from rfl, h2]
  simp only [Option.bind_some]
  have : room (List.length (m' ++ [(((0 : Int), (0 : Int), (0 : Int), (0 : Int)) : Rg)])) 32 = true := room_small (by simp only [List.length_append, List.length_cons, List.length_nil]; omega) (by decide)
  rw [this]; rfl
theorem places_some (x : Script_arraslaw17) : ∃ pl, arraslaw17_places x = some pl ∧ pl.length ≤ 20 := by
  have app : ∀ {σ ρ : Type} {f : σ → Option (σ ⊕ ρ)} (inv : List Sp → Nat → σ) (out : List Sp → ρ) (k : Nat) (g : Nat → Sp) (a0 : List Sp), (∀ a i, a.length ≤ 100 → i < k → f (inv a i) = some (.inl (inv (a ++ [g i]) (i + 1)))) → (∀ a, f (inv a k) = some (.inr (out a))) → a0.length + k ≤ 100 → ∃ r, r.length = a0.length + k ∧ iter f (inv a0 0) = some (out r) := by
    intro σ ρ f inv out k g a0 hf he hl
    refine ⟨a0 ++ (List.range k).map g, by simp, ?_⟩
    rw [iter_run' (inv := fun i => inv (a0 ++ (List.range i).map g) i) (k := k) (r := out (a0 ++ (List.range k).map g)) ?_ (he _) (by simp)]
    intro i hi
    rw [hf _ i (by simp; omega) hi, List.range_succ]
    simp
  unfold arraslaw17_places
  obtain ⟨r1, h1, h2⟩ := app (f := fun s : (List Sp × (Int × Script_arraslaw17)) =>
      bif (bif (decide ((s.2.1 < ((List.length s.2.2.1.1.1) : Int)))) then (decide ((s.2.1 < 12))) else false) then (((getI s.2.2.1.1.1 s.2.1)).bind fun x1 =>
        bif (room (List.length (s.1 ++ [x1.1])) 16) then some (.inl ((s.1 ++ [x1.1]), ((IntKind.wrap .i64 (s.2.1 + 1)), s.2.2))) else
        none) else
      some (.inr (s.1, s.2.2))) (fun a i => (a, ((i : Int), x))) (fun a => (a, x)) (min x.1.1.1.length 12) (fun i => (x.1.1.1.getD i default).1) [((0 : Int), (0 : Int)), ((0 : Int), (1 : Int))]
    (fun a i ha hi => by
      have hi1 : i < x.1.1.1.length := by omega
      have e1 : (i : Int) < ((x.1.1.1.length : Nat) : Int) := by omega
      have e2 : (i : Int) < 12 := by omega
      have hr : room (List.length (a ++ [(x.1.1.1.getD i default).1])) 16 = true := room_small (by simp only [List.length_append, List.length_cons, List.length_nil]; omega) (by decide)
      simp only [e1, e2, decide_true, cond_true, getI_D x.1.1.1 i hi1, Option.bind_some, hr, wrap_nat (show i < 9223372036854775807 by omega)])
    (fun a => by
      by_cases c : x.1.1.1.length ≤ 12
      · rw [Nat.min_eq_left c]; simp
      · rw [Nat.min_eq_right (by omega)]
        have : ¬ ((12 : Nat) : Int) < 12 := by omega
        have e1 : ((12 : Nat) : Int) < ((x.1.1.1.length : Nat) : Int) := by omega
        simp only [e1, this, decide_true, decide_false, cond_true, cond_false])
    (by simp; omega)
  obtain ⟨r2, h3, h4⟩ := app (f := fun s : (List Sp × (Int × Script_arraslaw17)) =>
      bif (bif (decide ((s.2.1 < ((List.length s.2.2.2.2) : Int)))) then (decide ((s.2.1 < 6))) else false) then (((getI s.2.2.2.2 s.2.1)).bind fun x2 =>
        bif (room (List.length (s.1 ++ [x2])) 16) then some (.inl ((s.1 ++ [x2]), ((IntKind.wrap .i64 (s.2.1 + 1)), s.2.2))) else
        none) else
      some (.inr (s.1, s.2.2))) (fun a i => (a, ((i : Int), x))) (fun a => (a, x)) (min x.2.2.length 6) (fun i => x.2.2.getD i default) r1
    (fun a i ha hi => by
      have hi1 : i < x.2.2.length := by omega
      have e1 : (i : Int) < ((x.2.2.length : Nat) : Int) := by omega
      have e2 : (i : Int) < 6 := by omega
      have hr : room (List.length (a ++ [x.2.2.getD i default])) 16 = true := room_small (by simp only [List.length_append, List.length_cons, List.length_nil]; omega) (by decide)
      simp only [e1, e2, decide_true, cond_true, getI_D x.2.2 i hi1, Option.bind_some, hr, wrap_nat (show i < 9223372036854775807 by omega)])
    (fun a => by
      by_cases c : x.2.2.length ≤ 6
      · rw [Nat.min_eq_left c]; simp
      · rw [Nat.min_eq_right (by omega)]
        have : ¬ ((6 : Nat) : Int) < 6 := by omega
        have e1 : ((6 : Nat) : Int) < ((x.2.2.length : Nat) : Int) := by omega
        simp only [e1, this, decide_true, decide_false, cond_true, cond_false])
    (by simp at h1; omega)
  refine ⟨r2, ?_, by simp at h1; omega⟩
  rw [show (([((0 : Int), (0 : Int)), ((0 : Int), (1 : Int))], ((0 : Int), x)) : List Sp × (Int × Script_arraslaw17)) = ([((0 : Int), (0 : Int)), ((0 : Int), (1 : Int))], (((0 : Nat) : Int), x)) from rfl, h2]
  simp only [Option.bind_some]
  rw [show ((r1, ((0 : Int), x)) : List Sp × (Int × Script_arraslaw17)) = (r1, (((0 : Nat) : Int), x)) from rfl, h4]
  rfl
theorem pure_ShapeLooks (y : El sScript_arraslaw17) (h : Bnd sScript_arraslaw17 y) : arraslaw17_ShapeLooks y = some true := by
  obtain ⟨b, hb, hb2⟩ := Heavy17_eq y h
  unfold arraslaw17_ShapeLooks
  rw [hb]
  simp only [Option.bind_some]
  cases b with
  | true => rfl
  | false =>
    have L := hb2 rfl
    obtain ⟨s, l, ids⟩ := y
    obtain ⟨pl, hpl, hpn⟩ := places_some (s, l, ids)
    have hS : SmS s := L.s
    simp only [cond_false, hpl, Option.bind_some]
    have hrl : ∀ id, (regsAt s.2 id).length < 999000 := fun id => by
      unfold regsAt
      split
      · decide
      · rename_i q hq; exact hS.r q (glook_id hq).2
    rw [iter_run' (inv := fun i : Nat => (pl, ((i : Int), ((s, (l, ids)) : Script_arraslaw17)))) (k := pl.length) (r := .inl (s, (l, ids)))]
    · simp only [Option.bind_some, wakes17_eq]
    · intro i hi
      have e1 : (i : Int) < (pl.length : Int) := by omega
      simp only [e1, decide_true, cond_true, getI_D pl i hi, Option.bind_some, ref_Shape_eq s hS, Look_eq s _ hS, num17_eq]
      cases hB : shpB s with
      | false =>
        simp only [Bool.false_eq_true, if_false, cond_false, Option.bind_some, bne_self_eq_false, EqRegs_eq [] [] (by decide), decide_true, Bool.not_true, CopyShape_eq s hS, aRegs_eq [] (by decide), EqShape_eq s s hS, wrap_nat (show i < 9223372036854775807 by omega)]
      | true =>
        simp only [if_true, cond_true, cond_false, Option.bind_some, getI_D pl i hi, refLook_eq s _ hS.l, bne_self_eq_false, EqRegs_eq _ _ (show (regsAt s.2 (pl.getD i default)).length < 9223372036854775807 by have := hrl (pl.getD i default); omega), decide_true, Bool.not_true, CopyShape_eq s hS, aRegs_eq _ (hrl _), EqShape_eq s s hS, wrap_nat (show i < 9223372036854775807 by omega)]
    · simp only [Int.lt_irrefl, decide_false, cond_false]
end Go.Tr
