/- A part of the proof: LsLooks, LsMays, LsD, LsFor. -/
import Derived.Test.YtlfkabehppdohaaGreatLsB
set_option linter.unusedVariables false
set_option linter.unusedSimpArgs false
namespace Go.Tr
open Go Go.Dv
instance i7 : DecidableEq (Int × Int × Stamp) := inferInstance
instance i8 : DecidableEq Go.Dv.Reg := inferInstanceAs (DecidableEq (Int × Int × Stamp))
instance i9 : DecidableEq (Stamp × List Go.Dv.Reg) := inferInstance
instance i10 : DecidableEq Go.Dv.Look := inferInstanceAs (DecidableEq (Stamp × List Go.Dv.Reg))
theorem places_some (x : Script_arraslaw17) : ∃ pl, arraslaw17_places x = some pl ∧ pl.length ≤ 20 := by
  have app : ∀ {σ ρ : Type} {f : σ → Option (σ ⊕ ρ)} (inv : List Sp → Nat → σ) (out : List Sp → ρ) (k : Nat) (g : Nat → Sp) (a0 : List Sp), (∀ a i, a.length ≤ 100 → i < k → f (inv a i) = some (.inl (inv (a ++ [g i]) (i + 1)))) → (∀ a, f (inv a k) = some (.inr (out a))) → a0.length + k ≤ 100 → ∃ r, r.length = a0.length + k ∧ iter f (inv a0 0) = some (out r) := by
    intro σ ρ f inv out k g a0 hf he hl
    refine ⟨a0 ++ (List.range k).map g, by simp, ?_⟩
    rw [iter_run' (inv := fun i => inv (a0 ++ (List.range i).map g) i) (k := k) (r := out (a0 ++ (List.range k).map g)) ?_ (he _) (by simp)]
    intro i hi
    rw [hf _ i (by simp; omega) hi, List.range_succ]
    simp
  unfold arraslaw17_places
  obtain ⟨r1, h1, h2⟩ := app (f := fun s : (List Sp × (Int × Script_arraslaw17)) =>
      bif (bif (decide ((s.2.1 < ((List.length s.2.2.1.1.1) : Int)))) then (decide ((s.2.1 < 12))) else false) then (((getI s.2.2.1.1.1 s.2.1)).bind fun x1 =>
        bif (room (List.length (s.1 ++ [x1.1])) 16) then some (.inl ((s.1 ++ [x1.1]), ((IntKind.wrap .i64 (s.2.1 + 1)), s.2.2))) else
        none) else
      some (.inr (s.1, s.2.2))) (fun a i => (a, ((i : Int), x))) (fun a => (a, x)) (min x.1.1.1.length 12) (fun i => (x.1.1.1.getD i default).1) [((0 : Int), (0 : Int)), ((0 : Int), (1 : Int))]
    (fun a i ha hi => by
      have hi1 : i < x.1.1.1.length := by omega
      have e1 : (i : Int) < ((x.1.1.1.length : Nat) : Int) := by omega
      have e2 : (i : Int) < 12 := by omega
      have hr : room (List.length (a ++ [(x.1.1.1.getD i default).1])) 16 = true := room_small (by simp only [List.length_append, List.length_cons, List.length_nil]; omega) (by decide)
      simp only [e1, e2, decide_true, cond_true, getI_D x.1.1.1 i hi1, Option.bind_some, hr, wrap_nat (show i < 9223372036854775807 by omega)])
    (fun a => by
      by_cases c : x.1.1.1.length ≤ 12
      · rw [Nat.min_eq_left c]; simp
      · rw [Nat.min_eq_right (by omega)]
        have : ¬ ((12 : Nat) : Int) < 12 := by omega
        have e1 : ((12 : Nat) : Int) < ((x.1.1.1.length : Nat) : Int) := by omega
        simp only [e1, this, decide_true, decide_false, cond_true, cond_false])
    (by simp; omega)
  obtain ⟨r2, h3, h4⟩ := app (f := fun s : (List Sp × (Int × Script_arraslaw17)) =>
      bif (bif (decide ((s.2.1 < ((List.length s.2.2.2.2) : Int)))) then (decide ((s.2.1 < 6))) else false) then (((getI s.2.2.2.2 s.2.1)).bind fun x2 =>
        bif (room (List.length (s.1 ++ [x2])) 16) then some (.inl ((s.1 ++ [x2]), ((IntKind.wrap .i64 (s.2.1 + 1)), s.2.2))) else
        none) else
      some (.inr (s.1, s.2.2))) (fun a i => (a, ((i : Int), x))) (fun a => (a, x)) (min x.2.2.length 6) (fun i => x.2.2.getD i default) r1
    (fun a i ha hi => by
      have hi1 : i < x.2.2.length := by omega
      have e1 : (i : Int) < ((x.2.2.length : Nat) : Int) := by omega
      have e2 : (i : Int) < 6 := by omega
      have hr : room (List.length (a ++ [x.2.2.getD i default])) 16 = true := room_small (by simp only [List.length_append, List.length_cons, List.length_nil]; omega) (by decide)
      simp only [e1, e2, decide_true, cond_true, getI_D x.2.2 i hi1, Option.bind_some, hr, wrap_nat (show i < 9223372036854775807 by omega)])
    (fun a => by
      by_cases c : x.2.2.length ≤ 6
      · rw [Nat.min_eq_left c]; simp
      · rw [Nat.min_eq_right (by omega)]
        have : ¬ ((6 : Nat) : Int) < 6 := by omega
        have e1 : ((6 : Nat) : Int) < ((x.2.2.length : Nat) : Int) := by omega
        simp only [e1, this, decide_true, decide_false, cond_true, cond_false])
    (by simp at h1; omega)
  refine ⟨r2, ?_, by simp at h1; omega⟩
  rw [show (([((0 : Int), (0 : Int)), ((0 : Int), (1 : Int))], ((0 : Int), x)) : List Sp × (Int × Script_arraslaw17)) = ([((0 : Int), (0 : Int)), ((0 : Int), (1 : Int))], (((0 : Nat) : Int), x)) from rfl, h2]
  simp only [Option.bind_some]
  rw [show ((r1, ((0 : Int), x)) : List Sp × (Int × Script_arraslaw17)) = (r1, (((0 : Nat) : Int), x)) from rfl, h4]
  rfl
end Go.Tr
set_option linter.unusedVariables false
set_option linter.unusedSimpArgs false
namespace Go.Tr
open Go Go.Dv
end Go.Tr
set_option linter.unusedVariables false
set_option linter.unusedSimpArgs false
namespace Go.Tr
open Go Go.Dv
def mvo (t : Int) (node parent : Sp) (key : ByteArray) : Op' := ((t, (0 : Int)), (1 : Int), [0], (1 : Int), node, parent, key, (0 : Int), (0 : Int))
def rowO (op : Nat → Op') (n : Nat) : List Op' := (List.range n).map fun k => op (k + 1)
def chk (op : Nat → Op') : Nat → Nat → List Nd → Bool
  | 0, _, _ => true
  | n + 1, i, l => decide (letsC l (op i) = 0) && chk op n (i + 1) (doL l (op i))
end Go.Tr
set_option linter.unusedVariables false
set_option linter.unusedSimpArgs false
namespace Go.Tr
open Go Go.Dv Go.Ky
def Way (l : List Nd) : Nat → Sp → Sp → Prop
  | 0, s, id => s = id
  | d + 1, s, id => s ≠ id ∧ ∃ p, par l s = some p ∧ Way l d p id
def Steps (l : List Nd) : Nat → Sp → Sp → Prop
  | 0, s, id => s = id
  | d + 1, s, id => ∃ p, par l s = some p ∧ Steps l d p id
theorem mem_kidsC {l : List Nd} {id : Sp} {q : Nd} (hs : Srt l) : q ∈ kidsC l id ↔ q ∈ l ∧ q.2.1 = id := by
  rw [← kidsC_eq id hs, (kids_perm l id).mem_iff, List.mem_filter, decide_eq_true_eq]
def AllUp (l : List Nd) : Prop := ∀ m ∈ l, liveC l m.1 = true ∧ (upC l m.1).length ≤ 12
theorem nds_mem : ∀ {os : List Op'} {l : List Nd} {m : Nd}, m ∈ nds l os → m ∈ l ∨ ∃ o ∈ os, m = (o.2.2.2.2.1, o.2.2.2.2.2.1, o.2.2.2.2.2.2.1)
  | [], l, m, h => .inl h
  | o :: os, l, m, h => by
    rcases nds_mem (os := os) (l := doL l o) h with h | ⟨q, hq, e⟩
    · unfold doL at h
      split at h
      · exact .inl h
      · rcases put_mem h with h | h
        · exact .inr ⟨o, by simp, h⟩
        · exact .inl h
    · exact .inr ⟨q, by simp [hq], e⟩
theorem mv_parts {o : Op'} (h : mvOk o = true) : stOk o.2.2.2.2.1 = true ∧ plOk o.2.2.2.2.2.1 = true ∧ keyB o.2.2.2.2.2.2.1 = true := by
  simp only [mvOk, Bool.and_eq_true] at h
  exact ⟨h.1.1.1.1.1.1.1.2, h.1.1.1.2, h.1.1.2⟩
theorem node_ok {os : List Op'} (h : OkT os) {m : Nd} (hm : m ∈ nds [] os) : stOk m.1 = true ∧ keyB m.2.2 = true := by
  rcases nds_mem hm with h0 | ⟨o, ho, rfl⟩
  · cases h0
  · have := mv_parts (h.mv o ho); exact ⟨this.1, this.2.2⟩
theorem kidsC_srt {l : List Nd} (id : Sp) (hs : Srt l) : (kidsC l id).Pairwise klt := by rw [← kidsC_eq id hs]; exact kids_srt id hs
end Go.Tr
