/- A part of the proof: TrUndo. -/
import Derived.Test.YtmphmiddiofejaaGreatTrE
set_option linter.unusedVariables false
set_option linter.unusedSimpArgs false
namespace Go.Tr
open Go Go.Dv
theorem CopyEntry_eq (e : Entry) (h : Sm e.1.2.2.1) : arrasref0_CopyEntry e = some e := by
  unfold arrasref0_CopyEntry
  rw [CopyOp_eq _ h]; rfl
theorem CopyMoves_eq (l : List Entry) (h : Sm l) (hd : ∀ e ∈ l, Sm e.1.2.2.1) : arrasref0_CopyMoves l = some l := by
  have h' : l.length < 1000000 := h
  unfold arrasref0_CopyMoves
  rw [copy_loop]
  · rfl
  · intro i hi
    have e1 : (i : Int) < (l.length : Int) := by omega
    have hr : room (List.length (l.take i ++ [l.getD i default])) 168 = true := room_small (by simp only [List.length_append, List.length_take, List.length_cons, List.length_nil]; omega) (by decide)
    simp only [e1, decide_true, cond_true, getI_D l i hi, Option.bind_some, CopyEntry_eq _ (hd _ (getD_mem hi)), hr, wrap_nat (show i < 9223372036854775807 by omega), take_snoc hi]
  · simp
theorem CopyTree_eq (t : Tree) (h1 : Sm t.1) (h2 : Sm t.2) (hd : ∀ e ∈ t.2, Sm e.1.2.2.1) : arrasref0_CopyTree t = some t := by
  unfold arrasref0_CopyTree
  rw [CopyNodes_eq _ h1, CopyMoves_eq _ h2 hd]; rfl
theorem ok_left {a b : List Op'} (h : OkT (a ++ b)) : OkT a := ⟨fun o ho => h.mv o (List.mem_append_left _ ho), (List.pairwise_append.1 h.srt).1⟩
theorem Undo_made {q : List Op'} {o : Op'} (h : OkT (q ++ [o])) (hl : q.length < 999900) : tree_Undo (made (q ++ [o])) = some (made q, o, 0) := by
  have hlen : (q ++ [o]).length < 999980 := by simp only [List.length_append, List.length_cons, List.length_nil]; omega
  have hsm := made_sm hlen
  have hel : (made (q ++ [o])).2.length = q.length + 1 := by show (ens [] (q ++ [o])).length = _; rw [ens_len]; simp
  have hn := nds0 q
  have hget : getI (made (q ++ [o])).2 ((q.length : Nat) : Int) = some (doE (nds [] q) o) := by
    rw [getI_nat]
    have := ens_get (l := []) (a := q ++ [o]) (i := q.length) (o := o) (by simp)
    rw [List.take_left'] at this
    · exact this
    · rfl
  have hdl : (made (q ++ [o])).1 = doL (nds [] q) o := by show nds [] (q ++ [o]) = _; rw [nds_app]; rfl
  have htk : (made (q ++ [o])).2.take q.length = ens [] q := by
    show (ens [] (q ++ [o])).take q.length = _
    rw [ens_app, List.take_left' (ens_len _ _)]
  have hw : IntKind.wrap .i64 (((q.length + 1 : Nat) : Int) - 1) = ((q.length : Nat) : Int) := by rw [Go.Dv.wrap_small] <;> omega
  have e0 : (((q.length + 1 : Nat) : Int) == 0) = false := by simp only [beq_eq_false_iff_ne]; omega
  have e1 : (0 : Int) ≤ ((q.length : Nat) : Int) := by omega
  have e2 : ((q.length : Nat) : Int) ≤ ((q.length + 1 : Nat) : Int) := by omega
  unfold tree_Undo
  simp only [May_made h hlen, Option.bind_some, Bool.not_true, cond_false, Own_eq _ hsm.1 hsm.2 (ok_deps h), hel, hw, e0, e1, e2, hget, hdl, undo_eq o hn.1 (show (nds [] q).length + 1 < 1000000 by have := hn.2.2; omega), decide_true, Bool.and_self, cond_true, Int.toNat_natCast, htk]
  rfl
theorem Undo_nil : ∃ z, tree_Undo (made []) = some (([], []), z, 3) := by
  refine ⟨((0, 0), 0, [], 0, (0, 0), (0, 0), ByteArray.mk ([]).toArray, 0, 0), ?_⟩
  unfold tree_Undo
  simp only [May_made (os := []) ok_nil (by decide), Option.bind_some, Bool.not_true, cond_false]
  rfl
theorem Undo_not {t : Tree} (hM : tree_May t = some false) : ∃ z, tree_Undo t = some (([], []), z, 1) := by
  refine ⟨((0, 0), 0, [], 0, (0, 0), (0, 0), ByteArray.mk ([]).toArray, 0, 0), ?_⟩
  unfold tree_Undo
  simp only [hM, Option.bind_some, Bool.not_false, cond_true]
theorem made_deps {os : List Op'} (h : OkT os) : ∀ e ∈ (made os).2, Sm e.1.2.2.1 := ok_deps h
theorem split_last {α : Type} {l : List α} {n : Nat} (h : l.length = n + 1) : ∃ q o, l = q ++ [o] ∧ q.length = n := by
  have hne : l ≠ [] := by rintro rfl; simp at h
  exact ⟨l.dropLast, l.getLast hne, (List.dropLast_concat_getLast hne).symm, by simp [h]⟩
set_option maxHeartbeats 4000000 in
theorem pure_TreeUndoes (y : El sScript_arraslaw16) (h : Bnd sScript_arraslaw16 y) : arraslaw16_TreeUndoes y = some true := by
  obtain ⟨b, hb, hb2⟩ := heavy_eq y h
  obtain ⟨t, L, ids0⟩ := y
  unfold arraslaw16_TreeUndoes
  rw [hb]
  cases b with
  | true => rfl
  | false =>
    obtain ⟨k1, k2, k3, k4, k5, k6⟩ := hb2 rfl
    have k1 : t.1.length + t.2.length ≤ 3000 := k1
    have k2 : t.2.length ≤ 60 := k2
    have hd : ∀ e ∈ t.2, Sm e.1.2.2.1 := fun e he => by have := k6 e he; unfold Sm; omega
    have hcnt : Cnt t.2 := ⟨by omega, fun e he => by have : e.1.2.2.1.length < 1000000 := hd e he; omega⟩
    have hT := rTree_eq t (by omega) (by omega) hd
    have hM := May_eq t (by unfold Sm; omega) hd
    have hC := CopyTree_eq t (by unfold Sm; omega) (by unfold Sm; omega) hd
    simp only [Option.bind_some, cond_false, hC]
    cases hm : mayB t with
    | false =>
      rw [hm] at hM hT
      obtain ⟨z, hz⟩ := Undo_not hM
      have e1 : (0 : Int) ≤ (t.2.length : Int) := by omega
      rw [iter_inr (r := .inr true)]
      · rfl
      · simp only [e1, decide_true, cond_true, hC, Option.bind_some, hz, EqTree_eq t t (by omega) hcnt, Bool.not_true, cond_false, hT, Bool.not_false, num_eq, wakes_eq]
        rfl
    | true =>
      obtain ⟨hk, ht⟩ := mayB_ok hm
      have hol : (t.2.map (·.1)).length ≤ 60 := by rw [List.length_map]; exact k2
      have hlen : (t.2.map (·.1)).length = t.2.length := List.length_map ..
      generalize t.2.map (·.1) = os at hk ht hol hlen
      have key : ∀ (q : List Op'), q.length ≤ os.length → OkT q → iter (σ := Int × (Script_arraslaw16 × Tree)) (ρ := (Script_arraslaw16 × Tree) ⊕ Bool) (fun s =>
      bif (decide ((s.1 ≤ ((List.length s.2.1.1.2) : Int)))) then (((arrasref0_CopyTree s.2.2)).bind fun x3 =>
        ((tree_Undo x3)).bind fun x4 =>
        ((arrasref0_EqTree (x3, s.2.2))).bind fun x5 =>
        bif (Bool.not x5) then some (.inr (.inr false)) else
        ((arrasref16_Tree s.2.2)).bind fun x6 =>
        bif (Bool.not x6) then ((bif ((arraslaw16_num x4.2.2) == 1) then (((arraslaw16_wakes ())).bind fun x7 =>
              some x7) else
            some false).bind fun x7 =>
          some (.inr (.inr x7))) else
        bif (((List.length s.2.2.2) : Int) == 0) then ((bif ((arraslaw16_num x4.2.2) == 3) then (bif (((List.length s.2.2.1) : Int) == 0) then (bif (s.1 == ((List.length s.2.1.1.2) : Int)) then (((arraslaw16_wakes ())).bind fun x7 =>
                  some x7) else
                some false) else
              some false) else
            some false).bind fun x7 =>
          some (.inr (.inr x7))) else
        ((arrasref16_Moves s.2.2)).bind fun x7 =>
        (bif ((arraslaw16_num x4.2.2) != 0) then some true else
          ((getI x7 (IntKind.wrap .i64 (((List.length s.2.2.2) : Int) - 1)))).bind fun x8 =>
          ((arrasref0_EqOp (x4.2.1, x8))).bind fun x9 =>
          bif (Bool.not x9) then some true else
          bif ((decide ((0 ≤ (IntKind.wrap .i64 (((List.length s.2.2.2) : Int) - 1))))) && (decide (((IntKind.wrap .i64 (((List.length s.2.2.2) : Int) - 1)) ≤ ((List.length x7) : Int))))) then (((arrasref16_Made (List.take (Int.toNat (IntKind.wrap .i64 (((List.length s.2.2.2) : Int) - 1))) x7))).bind fun x10 =>
            ((arrasref0_EqTree (x4.1, x10))).bind fun x11 =>
            some (Bool.not x11)) else
          none).bind fun x8 =>
        bif x8 then some (.inr (.inr false)) else
        some (.inl ((IntKind.wrap .i64 (s.1 + 1)), (s.2.1, x4.1)))) else
      some (.inr (.inl s.2))) (((os.length - q.length : Nat) : Int), ((t, (L, ids0)), made q)) = some (.inr true) := by
        intro q
        generalize hn : q.length = n
        induction n generalizing q with
        | zero =>
          intro hq hok
          obtain rfl : q = [] := List.length_eq_zero_iff.1 hn
          obtain ⟨z, hz⟩ := Undo_nil
          have e1 : ((os.length - 0 : Nat) : Int) ≤ (t.2.length : Int) := by omega
          have e2 : (((os.length - 0 : Nat) : Int) == ((t.2.length : Nat) : Int)) = true := by simp only [beq_iff_eq]; omega
          have hmt : arrasref16_Tree (made []) = some true := by rw [rTree_eq _ (by decide) (by decide) (ok_deps (l := []) ok_nil), mayB_made ok_nil]
          have hC0 : arrasref0_CopyTree (made []) = some (made []) := CopyTree_eq (made []) (show ([] : List Nd).length < 1000000 by decide) (show ([] : List Entry).length < 1000000 by decide) (ok_deps (l := []) ok_nil)
          have hE0 : arrasref0_EqTree (made [], made []) = some (decide (made [] = made [])) := EqTree_eq (made []) (made []) (by decide) ⟨by decide, by simp [made, ens]⟩
          rw [iter_inr (r := .inr true)]
          simp only [e1, decide_true, cond_true]
          rw [hC0]
          simp only [Option.bind_some]
          rw [hz]
          simp only [Option.bind_some]
          rw [hE0]
          simp only [Option.bind_some, decide_true, Bool.not_true, cond_false, hmt, num_eq, wakes_eq]
          simp only [show (made []).2 = ([] : List Entry) from rfl, show (made []).1 = ([] : List Nd) from rfl, List.length_nil, Int.natCast_zero, beq_self_eq_true, cond_true, e2, Option.bind_some]
        | succ n ih =>
          intro hq hok
          obtain ⟨q', o, rfl, hq'⟩ := split_last hn
          have hok' := ok_left hok
          have hun := Undo_made hok (by omega)
          have hsl : (q' ++ [o]).length < 999980 := by omega
          have hsm := made_sm hsl
          have hsm1 : (made (q' ++ [o])).1.length < 1000000 := hsm.1
          have hsm2 : (made (q' ++ [o])).2.length < 1000000 := hsm.2
          have hdp := made_deps hok
          have hmt : arrasref16_Tree (made (q' ++ [o])) = some true := by
            rw [rTree_eq _ (by omega) (by show (ens [] (q' ++ [o])).length < _; rw [ens_len]; omega) hdp, mayB_made hok]
          have hel : (made (q' ++ [o])).2.length = n + 1 := by show (ens [] (q' ++ [o])).length = _; rw [ens_len]; exact hn
          have hmv : arrasref16_Moves (made (q' ++ [o])) = some (q' ++ [o]) := by
            rw [Moves_eq _ (by omega)]; show some ((ens [] (q' ++ [o])).map (·.1)) = _; rw [ens_op]
          have hcn : Cnt (made (q' ++ [o])).2 := ⟨by omega, fun e he => by have : e.1.2.2.1.length < 1000000 := hdp e he; omega⟩
          have hcn' : Cnt (made q').2 := ⟨by have := (made_sm (os := q') (by omega)).2; unfold Sm at this; omega, fun e he => by have : e.1.2.2.1.length < 1000000 := made_deps hok' e he; omega⟩
          have e1 : ((os.length - (n + 1) : Nat) : Int) ≤ (t.2.length : Int) := by omega
          have e0 : (((n + 1 : Nat) : Int) == 0) = false := by simp only [beq_eq_false_iff_ne]; omega
          have hw : IntKind.wrap .i64 (((n + 1 : Nat) : Int) - 1) = ((n : Nat) : Int) := by rw [Go.Dv.wrap_small] <;> omega
          have hgo : getI (q' ++ [o]) ((n : Nat) : Int) = some o := by rw [getI_nat, ← hq']; simp
          have htk : (q' ++ [o]).take n = q' := List.take_left' hq'
          have hdo : o.2.2.1.length < 9223372036854775807 := by have := (mvOk_deps (hok.mv o (by simp))).1; omega
          have hmd : arrasref16_Made q' = some (made q') := Made_eq q' (by omega) (fun x hx => by have := (mvOk_deps (hok'.mv x hx)).1; unfold Sm; omega)
          have e3 : (0 : Int) ≤ ((n : Nat) : Int) := by omega
          have e4 : ((n : Nat) : Int) ≤ (((q' ++ [o]).length : Nat) : Int) := by omega
          have hwn : IntKind.wrap .i64 (((os.length - (n + 1) : Nat) : Int) + 1) = ((os.length - n : Nat) : Int) := by rw [Go.Dv.wrap_small] <;> omega
          have hm1 : (made q').1.length < 1000000 := (made_sm (os := q') (by omega)).1
          rw [iter_inl (s' := (((os.length - n : Nat) : Int), ((t, (L, ids0)), made q')))]
          · exact ih q' hq' (by omega) hok'
          · simp only [e1, decide_true, cond_true, CopyTree_eq _ hsm.1 hsm.2 hdp, Option.bind_some, hun, EqTree_eq _ (made (q' ++ [o])) (show (made (q' ++ [o])).1.length < 9223372036854775807 by omega) hcn, Bool.not_true, cond_false, hmt, hel, e0, hmv, num_eq, hw, hgo, EqOp_eq o o hdo, e3, e4, Bool.and_self, Int.toNat_natCast, htk, hmd, EqTree_eq (made q') (made q') (by omega) hcn', hwn]
            rfl
      have := key os (Nat.le_refl _) hk
      rw [Nat.sub_self, ← ht] at this
      exact congrArg (fun z => Option.bind z fun x3 => match x3 with
        | .inl y => some false
        | .inr y => some y) this
end Go.Tr
