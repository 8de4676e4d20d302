/- A part of the proof: TrAsks. -/
import Derived.Test.YtmphmiddiofejaaGreatTrD
set_option linter.unusedVariables false
set_option linter.unusedSimpArgs false
namespace Go.Tr
open Go Go.Dv
theorem Stamps_eq (l : List Sp) (hl : l.length < 1000000) : arraslaw0_Stamps l = some () := by
  unfold arraslaw0_Stamps
  let F : Nat → List Sp := fun i => (List.replicate (min i l.length) ((-9 : Int), (0 : Int))) ++ l.drop i
  have hF : ∀ i, i ≤ l.length → (F i).length = l.length := fun i hi => by
    simp only [F, List.length_append, List.length_replicate, List.length_drop]; omega
  rw [iter_run' (inv := fun i : Nat => (F i, (i : Int))) (k := l.length) (r := ()) ?_ ?_ (by simp [F])]
  · rfl
  · intro i hi
    have e1 : (i : Int) < ((F i).length : Int) := by rw [hF i (by omega)]; omega
    have hg : ∃ v, getI (F i) (i : Int) = some v := ⟨_, getI_lt _ i (by rw [hF i (by omega)]; exact hi)⟩
    obtain ⟨v, hv⟩ := hg
    have hs : (F i).set i ((-9 : Int), (0 : Int)) = F (i + 1) := by
      simp only [F, show min i l.length = i by omega, show min (i + 1) l.length = i + 1 by omega]
      rw [List.set_append_right _ _ (by simp), List.length_replicate, Nat.sub_self, List.drop_eq_getElem_cons hi, List.set_cons_zero, List.replicate_succ', List.append_assoc]
      rfl
    simp only [e1, decide_true, cond_true, hv, Option.bind_some, Int.toNat_natCast, hs, wrap_nat (show i < 9223372036854775807 by omega)]
  · have : ¬ (l.length : Int) < ((F l.length).length : Int) := by rw [hF _ (Nat.le_refl _)]; omega
    simp only [this, decide_false, cond_false]
set_option maxHeartbeats 4000000 in
theorem pure_TreeAsks (y : El sScript_arraslaw16) (h : Bnd sScript_arraslaw16 y) : arraslaw16_TreeAsks y = some true := by
  obtain ⟨b, hb, hb2⟩ := heavy_eq y h
  obtain ⟨t, L, ids0⟩ := y
  unfold arraslaw16_TreeAsks
  rw [hb]
  cases b with
  | true => rfl
  | false =>
    obtain ⟨k1, k2, k3, k4, k5, k6⟩ := hb2 rfl
    have k1 : t.1.length + t.2.length ≤ 3000 := k1
    have k2 : t.2.length ≤ 60 := k2
    have k4 : ids0.length ≤ 200 := k4
    have hd : ∀ e ∈ t.2, Sm e.1.2.2.1 := fun e he => by have := k6 e he; unfold Sm; omega
    have hT := rTree_eq t (by omega) (by omega) hd
    have hM := May_eq t (by unfold Sm; omega) hd
    have hr0 : room (List.length ([((0 : Int), (0 : Int)), ((0 : Int), (1 : Int))] ++ ids0)) 16 = true := room_small (by simp only [List.length_append, List.length_cons, List.length_nil]; omega) (by decide)
    simp only [Option.bind_some, cond_false, hT, hr0, cond_true]
    let I : Nat → List Sp := fun i => [((0 : Int), (0 : Int)), ((0 : Int), (1 : Int))] ++ ids0 ++ (t.1.take i).map fun n => n.1
    have hI : ∀ i, i ≤ t.1.length → (I i).length ≤ 202 + i := by
      intro i hi
      simp only [I, List.length_append, List.length_cons, List.length_nil, List.length_map, List.length_take]; omega
    rw [iter_run' (inv := fun i : Nat => (mayB t, (I i, ((i : Int), (t, (L, ids0)))))) (k := t.1.length) (r := (mayB t, (I t.1.length, (t, (L, ids0))))) ?_ ?_ (by simp [I])]
    · have hIl := hI _ (Nat.le_refl _)
      simp only [Option.bind_some]
      generalize I t.1.length = ids at hIl ⊢
      rw [iter_run' (inv := fun i : Nat => (mayB t, (ids, ((i : Int), (t, (L, ids0)))))) (k := min ids.length 40) (r := .inl (t, (L, ids0)))]
      · simp only [Option.bind_some, wakes_eq]
      · intro i hi
        have hi1 : i < ids.length := by omega
        have e1 : (i : Int) < (ids.length : Int) := by omega
        have e2 : (i : Int) < 40 := by omega
        simp only [e1, e2, decide_true, cond_true, getI_D ids i hi1, Option.bind_some, num_eq, wrap_nat (show i < 9223372036854775807 by omega)]
        generalize ids.getD i default = s
        cases hm : mayB t with
        | false =>
          rw [hm] at hM
          have f1 : tree_Find (t, s) = some ((((0 : Int), (0 : Int)), ((0 : Int), (0 : Int)), (ByteArray.mk ([]).toArray)), (1 : Int)) := by unfold tree_Find; simp only [hM, Option.bind_some, Bool.not_false, cond_true]
          have f2 : tree_Kids (t, s) = some ([], 1) := by unfold tree_Kids; simp only [hM, Option.bind_some, Bool.not_false, cond_true]
          have f3 : tree_Above (t, s) = some ([], 1) := by unfold tree_Above; simp only [hM, Option.bind_some, Bool.not_false, cond_true]
          have f4 : tree_Live (t, s) = some (false, 1) := by unfold tree_Live; simp only [hM, Option.bind_some, Bool.not_false, cond_true]
          simp only [f1, f2, f3, f4, Option.bind_some, Bool.not_false, cond_true]
          rfl
        | true =>
          obtain ⟨hk, ht⟩ := mayB_ok hm
          have hol : (t.2.map (·.1)).length ≤ 60 := by rw [List.length_map]; exact k2
          generalize t.2.map (·.1) = os at hk ht hol
          subst ht
          have hs : Srt (made os).1 := (nds0 os).1
          have hsm := (made_sm (os := os) (by omega)).1
          obtain ⟨n, he⟩ := (nds0 os).2.1 s
          have he : EndsIn (made os).1 n s := he
          have hnl : (made os).1.length < 999990 := by have := (nds0 os).2.2; show (nds [] os).length < _; omega
          simp only [Find_made hk (show os.length < 999980 by omega) s, Kids_eq s hk (show os.length < 999980 by omega), Above_made hk (show os.length < 999980 by omega) he, Live_made hk (show os.length < 999980 by omega) he, rFind_eq s hs hsm, rKids_eq s hs hsm hnl, rAbove_eq hs hsm he hnl, rLive_eq hs hsm hnl he, Option.bind_some, Bool.not_true, cond_false]
          have hu := ups_sm he hsm
          have hkl := kids_len (made os).1 s
          have hkm : ((kids (made os).1 s).map (·.1)).length < 1000000 := by rw [List.length_map]; unfold Sm at hsm; omega
          have q1 := EqStamps_eq ((kids (made os).1 s).map (·.1)) ((kids (made os).1 s).map (·.1)) (by omega)
          have q2 := EqStamps_eq (ups (made os).1 n s) (ups (made os).1 n s) (by omega)
          have w1 := Stamps_eq _ hkm
          have w2 := Stamps_eq _ hu
          have w3 := Stamps_eq [] (by decide)
          cases hl : look (made os).1 s with
          | none =>
            have e3 : ¬ (0 : Int) ≤ -1 := by omega
            have e4 : (-1 : Int) < 0 := by omega
            simp only [fnd, hl, Option.isSome_none, Bool.false_eq_true, if_false, e3, e4, decide_false, decide_true, cond_true, cond_false, q1, q2, Option.bind_some, w1, w2, w3]
            simp
          | some m =>
            have e3 : (0 : Int) ≤ ((posN (made os).1 s : Nat) : Int) := by omega
            have e4 : ¬ ((posN (made os).1 s : Nat) : Int) < 0 := by omega
            simp only [fnd, hl, Option.isSome_some, if_true, e3, e4, decide_true, decide_false, cond_true, cond_false, getI_pos hs hl, nd_eq, q1, q2, Option.bind_some, w1, w2]
            simp
      · rcases Nat.lt_or_ge ids.length 40 with h1 | h1
        · have e1 : ¬ ((min ids.length 40 : Nat) : Int) < (ids.length : Int) := by omega
          simp only [e1, decide_false, cond_false]
        · have e2 : ¬ ((min ids.length 40 : Nat) : Int) < 40 := by omega
          by_cases e1 : ((min ids.length 40 : Nat) : Int) < (ids.length : Int)
          · simp only [e1, e2, decide_true, decide_false, cond_true, cond_false]
          · simp only [e1, decide_false, cond_false]
    · intro i hi
      have e1 : (i : Int) < (t.1.length : Int) := by omega
      have := hI i (by omega)
      have hr : room (List.length (I i ++ [(t.1.getD i default).1])) 16 = true := room_small (by simp only [List.length_append, List.length_cons, List.length_nil]; omega) (by decide)
      have e : I (i + 1) = I i ++ [(t.1.getD i default).1] := by
        simp only [I, take_snoc hi, List.map_append, List.map_cons, List.map_nil, List.append_assoc]
      simp only [e1, decide_true, cond_true, getI_D t.1 i hi, Option.bind_some, hr, wrap_nat (show i < 9223372036854775807 by omega), e]
    · simp
end Go.Tr
