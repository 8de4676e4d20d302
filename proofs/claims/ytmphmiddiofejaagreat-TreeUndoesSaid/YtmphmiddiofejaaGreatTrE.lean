/- A part of the proof: TrSome. -/
import Derived.Test.YtmphmiddiofejaaGreatTrD
set_option linter.unusedVariables false
set_option linter.unusedSimpArgs false
namespace Go.Tr
open Go Go.Dv
theorem look0 {os : List Op'} {s : Sp} {n : Nat} (h : look (made os).1 s = none) (he : EndsIn (made os).1 n s) : n = 0 := by
  cases n with
  | zero => rfl
  | succ n => obtain ⟨p, hp, _⟩ := he; simp [par, h] at hp
set_option maxHeartbeats 4000000 in
theorem pure_some (y : El sScript_arraslaw16) (ask : Int) (h : Bnd sScript_arraslaw16 y) : arraslaw16_some (y, ask) = some true := by
  obtain ⟨b, hb, hb2⟩ := heavy_eq y h
  obtain ⟨t, L, ids0⟩ := y
  unfold arraslaw16_some
  rw [hb]
  cases b with
  | true => rfl
  | false =>
    obtain ⟨k1, k2, k3, k4, k5, k6⟩ := hb2 rfl
    have k1 : t.1.length + t.2.length ≤ 3000 := k1
    have k2 : t.2.length ≤ 60 := k2
    have k4 : ids0.length ≤ 200 := k4
    have hd : ∀ e ∈ t.2, Sm e.1.2.2.1 := fun e he => by have := k6 e he; unfold Sm; omega
    have hT := rTree_eq t (by omega) (by omega) hd
    have hM := May_eq t (by unfold Sm; omega) hd
    have hr0 : room (List.length ([((0 : Int), (0 : Int)), ((0 : Int), (1 : Int))] ++ ids0)) 16 = true := room_small (by simp only [List.length_append, List.length_cons, List.length_nil]; omega) (by decide)
    simp only [Option.bind_some, cond_false, hT, hr0, cond_true]
    let I : Nat → List Sp := fun i => [((0 : Int), (0 : Int)), ((0 : Int), (1 : Int))] ++ ids0 ++ (t.1.take i).flatMap fun n => [n.1, n.2.1]
    have hI : ∀ i, i ≤ t.1.length → (I i).length ≤ 202 + 2 * i := by
      intro i
      induction i with
      | zero => intro _; simp [I]; omega
      | succ i ih =>
        intro hi
        have := ih (by omega)
        have e : I (i + 1) = I i ++ [(t.1.getD i default).1, (t.1.getD i default).2.1] := by
          simp only [I, take_snoc (show i < t.1.length by omega), List.flatMap_append, List.flatMap_cons, List.flatMap_nil, List.append_nil, List.append_assoc]
        rw [e, List.length_append]; simp only [List.length_cons, List.length_nil]; omega
    rw [iter_run' (inv := fun i : Nat => (ask, (mayB t, (I i, ((i : Int), (t, (L, ids0))))))) (k := t.1.length) (r := (ask, (mayB t, (I t.1.length, (t, (L, ids0)))))) ?_ ?_ (by simp [I])]
    · have hIl := hI _ (Nat.le_refl _)
      simp only [Option.bind_some]
      generalize I t.1.length = ids at hIl ⊢
      rw [iter_run' (inv := fun i : Nat => (ask, (mayB t, (ids, ((i : Int), (t, (L, ids0))))))) (k := min ids.length 50) (r := .inl (t, (L, ids0)))]
      · simp only [Option.bind_some, wakes_eq]
      · intro i hi
        have hi1 : i < ids.length := by omega
        have e1 : (i : Int) < (ids.length : Int) := by omega
        have e2 : (i : Int) < 50 := by omega
        simp only [e1, e2, decide_true, cond_true, getI_D ids i hi1, Option.bind_some, num_eq, wrap_nat (show i < 9223372036854775807 by omega)]
        generalize ids.getD i default = s
        cases hm : mayB t with
        | false =>
          rw [hm] at hM
          have f1 : tree_Find (t, s) = some ((((0 : Int), (0 : Int)), ((0 : Int), (0 : Int)), (ByteArray.mk ([]).toArray)), (1 : Int)) := by unfold tree_Find; simp only [hM, Option.bind_some, Bool.not_false, cond_true]
          have f2 : tree_Kids (t, s) = some ([], 1) := by unfold tree_Kids; simp only [hM, Option.bind_some, Bool.not_false, cond_true]
          have f3 : tree_Above (t, s) = some ([], 1) := by unfold tree_Above; simp only [hM, Option.bind_some, Bool.not_false, cond_true]
          have f4 : tree_Live (t, s) = some (false, 1) := by unfold tree_Live; simp only [hM, Option.bind_some, Bool.not_false, cond_true]
          have q := EqStamps_eq [] [] (by simp)
          simp only [f1, f2, f3, f4, Option.bind_some, cond_false, q]
          cases ask == 0 <;> cases ask == 1 <;> cases ask == 2 <;> rfl
        | true =>
          obtain ⟨hk, ht⟩ := mayB_ok hm
          have hol : (t.2.map (·.1)).length ≤ 60 := by rw [List.length_map]; exact k2
          generalize t.2.map (·.1) = os at hk ht hol
          subst ht
          have hs : Srt (made os).1 := (nds0 os).1
          have hsm := (made_sm (os := os) (by omega)).1
          obtain ⟨n, he⟩ := (nds0 os).2.1 s
          have he : EndsIn (made os).1 n s := he
          have hnl : (made os).1.length < 999990 := by have := (nds0 os).2.2; show (nds [] os).length < _; omega
          simp only [Find_made hk (show os.length < 999980 by omega) s, Kids_eq s hk (show os.length < 999980 by omega), Above_made hk (show os.length < 999980 by omega) he, Live_made hk (show os.length < 999980 by omega) he, rFind_eq s hs hsm, rKids_eq s hs hsm hnl, rAbove_eq hs hsm he hnl, rLive_eq hs hsm hnl he, Option.bind_some, cond_true]
          have hu := ups_sm he hsm
          have hkl := kids_len (made os).1 s
          have q1 := EqStamps_eq ((kids (made os).1 s).map (·.1)) ((kids (made os).1 s).map (·.1)) (by rw [List.length_map]; omega)
          have q2 := EqStamps_eq (ups (made os).1 n s) (ups (made os).1 n s) (by omega)
          have q3 := EqStamps_eq [] [] (by simp)
          cases hl : look (made os).1 s with
          | none =>
            have e3 : ¬ (0 : Int) ≤ -1 := by omega
            simp only [fnd, hl, Option.isSome_none, Bool.false_eq_true, if_false, e3, decide_false, cond_false, q1, q2, q3, Option.bind_some, decide_true]
            cases ask == 0 <;> cases ask == 1 <;> cases ask == 2 <;> simp
            all_goals rfl
          | some m =>
            have e3 : (0 : Int) ≤ ((posN (made os).1 s : Nat) : Int) := by omega
            simp only [fnd, hl, Option.isSome_some, if_true, e3, decide_true, cond_true, getI_pos hs hl, nd_eq, q1, q2, q3, Option.bind_some]
            cases ask == 0 <;> cases ask == 1 <;> cases ask == 2 <;> simp
      · rcases Nat.lt_or_ge ids.length 50 with h1 | h1
        · have e1 : ¬ ((min ids.length 50 : Nat) : Int) < (ids.length : Int) := by omega
          simp only [e1, decide_false, cond_false]
        · have e2 : ¬ ((min ids.length 50 : Nat) : Int) < 50 := by omega
          by_cases e1 : ((min ids.length 50 : Nat) : Int) < (ids.length : Int)
          · simp only [e1, e2, decide_true, decide_false, cond_true, cond_false]
          · simp only [e1, decide_false, cond_false]
    · intro i hi
      have e1 : (i : Int) < (t.1.length : Int) := by omega
      have := hI i (by omega)
      have hr : room (List.length (I i ++ [(t.1.getD i default).1, (t.1.getD i default).2.1])) 16 = true := room_small (by simp only [List.length_append, List.length_cons, List.length_nil]; omega) (by decide)
      have e : I (i + 1) = I i ++ [(t.1.getD i default).1, (t.1.getD i default).2.1] := by
        simp only [I, take_snoc hi, List.flatMap_append, List.flatMap_cons, List.flatMap_nil, List.append_nil, List.append_assoc]
      simp only [e1, decide_true, cond_true, getI_D t.1 i hi, Option.bind_some, hr, wrap_nat (show i < 9223372036854775807 by omega), e]
    · simp
theorem pure_TreeFinds (y : El sScript_arraslaw16) (h : Bnd sScript_arraslaw16 y) : arraslaw16_TreeFinds y = some true := by unfold arraslaw16_TreeFinds; rw [pure_some y 0 h]; rfl
theorem pure_TreeKids (y : El sScript_arraslaw16) (h : Bnd sScript_arraslaw16 y) : arraslaw16_TreeKids y = some true := by unfold arraslaw16_TreeKids; rw [pure_some y 1 h]; rfl
theorem pure_TreeAboves (y : El sScript_arraslaw16) (h : Bnd sScript_arraslaw16 y) : arraslaw16_TreeAboves y = some true := by unfold arraslaw16_TreeAboves; rw [pure_some y 2 h]; rfl
theorem pure_TreeLives (y : El sScript_arraslaw16) (h : Bnd sScript_arraslaw16 y) : arraslaw16_TreeLives y = some true := by unfold arraslaw16_TreeLives; rw [pure_some y 3 h]; rfl
end Go.Tr
