/- A part of the proof: TrLate. -/
import Derived.Test.YtgokkeldclfnjaaTrC
set_option linter.unusedVariables false
set_option linter.unusedSimpArgs false
namespace Go.Tr
open Go Go.Dv
theorem keyB_k : keyB (ByteArray.mk ([107]).toArray) = true := by
  have hs : (ByteArray.mk ([107]).toArray).size = 1 := rfl
  simp [keyB, key_Is, hs, getB, Go.Dv.wrap_small, toList_data]
theorem lmv_ok {t : Int} {n p : Sp} (ht : stOk (t, 0) = true) (hn : stOk n = true) (hp : plOk p = true) : mvOk (arraslaw16_move (t, n, p)) = true := by
  have h2 : vecOk [0] = true := rfl
  have h3 : depAt (arraslaw16_move (t, n, p)) = 0 := rfl
  simp only [mvOk, h3]
  simp only [arraslaw16_move, ht, hn, hp, keyB_k, h2, Go.Dv.wrap_small (n := 0 + 1) (by omega) (by omega)]
  rfl
theorem lmv_step {os : List Op'} {t : Int} {n p : Sp} (h : OkT os) (hl : os.length < 100) (ho : mvOk (arraslaw16_move (t, n, p)) = true) (hh : hasO os (t, 0) = false) :
    tree_Apply (made os, arraslaw16_move (t, n, p)) = some (made (insO os (arraslaw16_move (t, n, p))), 0) ∧ OkT (insO os (arraslaw16_move (t, n, p))) := by
  have ha := Apply_eq (o := arraslaw16_move (t, n, p)) h (by omega) (by simp [arraslaw16_move])
  rw [ho, if_pos rfl, show hasO os (arraslaw16_move (t, n, p)).1 = false from hh, if_neg (by simp)] at ha
  refine ⟨ha, insO_ok h ho fun q hq e => ?_⟩
  have : hasO os (t, 0) = true := by simp only [hasO, List.any_eq_true, decide_eq_true_eq]; exact ⟨q, hq, e⟩
  rw [hh] at this; cases this
noncomputable abbrev lm (t : Int) (n p : Int) : Op' := arraslaw16_move (t, (n, 0), (p, 0))
theorem made3_eq : arraslaw16_made 3 = some [lm 1 1 0, lm 2 2 0, lm 3 3 0] := by
  unfold arraslaw16_made
  rw [iter_of (n := 4) (r := [lm 1 1 0, lm 2 2 0, lm 3 3 0]) (by kernel_rfl)]
  rfl
theorem lgetI {α β : Type} {l : List α} {n : Int} {g : α → β} {b : β} (h : (getI l n).map g = some b) : ∃ e, getI l n = some e ∧ g e = b := Option.map_eq_some_iff.1 h
theorem pure_TreeLate (y : El sScript_arraslaw16) (h : Bnd sScript_arraslaw16 y) : arraslaw16_TreeLate y = some true := by
  obtain ⟨t1, k1⟩ := lmv_step (t := 1) (n := (1, 0)) (p := (0, 0)) ok_nil (by decide) (lmv_ok rfl rfl rfl) rfl
  rw [show insO [] (arraslaw16_move ((1 : Int), (((1 : Int), (0 : Int)), ((0 : Int), (0 : Int))))) = [lm 1 1 0] from rfl] at t1 k1
  obtain ⟨t2, k2⟩ := lmv_step (t := 2) (n := (2, 0)) (p := (0, 0)) k1 (by decide) (lmv_ok rfl rfl rfl) (by kernel_rfl)
  rw [show insO [lm 1 1 0] (arraslaw16_move ((2 : Int), (((2 : Int), (0 : Int)), ((0 : Int), (0 : Int))))) = [lm 1 1 0, lm 2 2 0] from by kernel_rfl] at t2 k2
  obtain ⟨t3, k3⟩ := lmv_step (t := 3) (n := (3, 0)) (p := (0, 0)) k2 (by decide) (lmv_ok rfl rfl rfl) (by kernel_rfl)
  rw [show insO [lm 1 1 0, lm 2 2 0] (arraslaw16_move ((3 : Int), (((3 : Int), (0 : Int)), ((0 : Int), (0 : Int))))) = [lm 1 1 0, lm 2 2 0, lm 3 3 0] from by kernel_rfl] at t3 k3
  obtain ⟨t4, k4⟩ := lmv_step (t := 20) (n := (1, 0)) (p := (2, 0)) k3 (by decide) (lmv_ok rfl rfl rfl) (by kernel_rfl)
  rw [show insO [lm 1 1 0, lm 2 2 0, lm 3 3 0] (arraslaw16_move ((20 : Int), (((1 : Int), (0 : Int)), ((2 : Int), (0 : Int))))) = [lm 1 1 0, lm 2 2 0, lm 3 3 0, lm 20 1 2] from by kernel_rfl] at t4 k4
  obtain ⟨t5, k5⟩ := lmv_step (t := 10) (n := (2, 0)) (p := (1, 0)) k4 (by decide) (lmv_ok rfl rfl rfl) (by kernel_rfl)
  rw [show insO [lm 1 1 0, lm 2 2 0, lm 3 3 0, lm 20 1 2] (arraslaw16_move ((10 : Int), (((2 : Int), (0 : Int)), ((1 : Int), (0 : Int))))) = [lm 1 1 0, lm 2 2 0, lm 3 3 0, lm 10 2 1, lm 20 1 2] from by kernel_rfl] at t5 k5
  obtain ⟨t6, k6⟩ := lmv_step (t := 30) (n := (3, 0)) (p := (2, 0)) k5 (by decide) (lmv_ok rfl rfl rfl) (by kernel_rfl)
  rw [show insO [lm 1 1 0, lm 2 2 0, lm 3 3 0, lm 10 2 1, lm 20 1 2] (arraslaw16_move ((30 : Int), (((3 : Int), (0 : Int)), ((2 : Int), (0 : Int))))) = [lm 1 1 0, lm 2 2 0, lm 3 3 0, lm 10 2 1, lm 20 1 2, lm 30 3 2] from by kernel_rfl] at t6 k6
  obtain ⟨t7, k7⟩ := lmv_step (t := 5) (n := (1, 0)) (p := (3, 0)) k6 (by decide) (lmv_ok rfl rfl rfl) (by kernel_rfl)
  rw [show insO [lm 1 1 0, lm 2 2 0, lm 3 3 0, lm 10 2 1, lm 20 1 2, lm 30 3 2] (arraslaw16_move ((5 : Int), (((1 : Int), (0 : Int)), ((3 : Int), (0 : Int))))) = [lm 1 1 0, lm 2 2 0, lm 3 3 0, lm 5 1 3, lm 10 2 1, lm 20 1 2, lm 30 3 2] from by kernel_rfl] at t7 k7
  have c6 : (((made [lm 1 1 0, lm 2 2 0, lm 3 3 0, lm 10 2 1, lm 20 1 2, lm 30 3 2]).1.length : Nat) : Int) = 3 := by kernel_rfl
  have d6 : (((made [lm 1 1 0, lm 2 2 0, lm 3 3 0, lm 10 2 1, lm 20 1 2, lm 30 3 2]).2.length : Nat) : Int) = 6 := by kernel_rfl
  obtain ⟨a0, a0e, a0v⟩ := lgetI (l := (made [lm 1 1 0, lm 2 2 0, lm 3 3 0, lm 10 2 1, lm 20 1 2, lm 30 3 2]).1) (n := 0) (g := fun e => e.2.1) (b := (0, 0)) (by kernel_rfl)
  obtain ⟨a1, a1e, a1v⟩ := lgetI (l := (made [lm 1 1 0, lm 2 2 0, lm 3 3 0, lm 10 2 1, lm 20 1 2, lm 30 3 2]).1) (n := 1) (g := fun e => e.2.1) (b := (1, 0)) (by kernel_rfl)
  obtain ⟨a2, a2e, a2v⟩ := lgetI (l := (made [lm 1 1 0, lm 2 2 0, lm 3 3 0, lm 10 2 1, lm 20 1 2, lm 30 3 2]).1) (n := 2) (g := fun e => e.2.1) (b := (2, 0)) (by kernel_rfl)
  obtain ⟨b4, b4e, b4v⟩ := lgetI (l := (made [lm 1 1 0, lm 2 2 0, lm 3 3 0, lm 10 2 1, lm 20 1 2, lm 30 3 2]).2) (n := 4) (g := fun e => e.2.2.2.2) (b := true) (by kernel_rfl)
  obtain ⟨b3, b3e, b3v⟩ := lgetI (l := (made [lm 1 1 0, lm 2 2 0, lm 3 3 0, lm 10 2 1, lm 20 1 2, lm 30 3 2]).2) (n := 3) (g := fun e => e.2.2.2.2) (b := false) (by kernel_rfl)
  obtain ⟨p0, p0e, p0v⟩ := lgetI (l := (made [lm 1 1 0, lm 2 2 0, lm 3 3 0, lm 5 1 3, lm 10 2 1, lm 20 1 2, lm 30 3 2]).1) (n := 0) (g := fun e => e.2.1) (b := (3, 0)) (by kernel_rfl)
  obtain ⟨p1, p1e, p1v⟩ := lgetI (l := (made [lm 1 1 0, lm 2 2 0, lm 3 3 0, lm 5 1 3, lm 10 2 1, lm 20 1 2, lm 30 3 2]).1) (n := 1) (g := fun e => e.2.1) (b := (1, 0)) (by kernel_rfl)
  obtain ⟨p2, p2e, p2v⟩ := lgetI (l := (made [lm 1 1 0, lm 2 2 0, lm 3 3 0, lm 5 1 3, lm 10 2 1, lm 20 1 2, lm 30 3 2]).1) (n := 2) (g := fun e => e.2.1) (b := (0, 0)) (by kernel_rfl)
  obtain ⟨q6, q6e, q6v⟩ := lgetI (l := (made [lm 1 1 0, lm 2 2 0, lm 3 3 0, lm 5 1 3, lm 10 2 1, lm 20 1 2, lm 30 3 2]).2) (n := 6) (g := fun e => e.2.2.2.2) (b := true) (by kernel_rfl)
  have hn : ∀ e : Int, arraslaw16_num e = e := fun _ => rfl
  unfold arraslaw16_TreeLate
  rw [made3_eq]
  simp only [Option.bind_some]
  rw [iter_run' (inv := fun i : Nat => ([lm 1 1 0, lm 2 2 0, lm 3 3 0], ((i : Int), (y, made ([lm 1 1 0, lm 2 2 0, lm 3 3 0].take i))))) (k := 3) (r := .inl ([lm 1 1 0, lm 2 2 0, lm 3 3 0], (y, made [lm 1 1 0, lm 2 2 0, lm 3 3 0])))]
  · have g0 : getI [lm 1 1 0, lm 2 2 0, lm 3 3 0] 0 = some (lm 1 1 0) := rfl
    have g1 : getI [lm 1 1 0, lm 2 2 0, lm 3 3 0] 1 = some (lm 2 2 0) := rfl
    have g2 : getI [lm 1 1 0, lm 2 2 0, lm 3 3 0] 2 = some (lm 3 3 0) := rfl
    have n1 : ∀ t n p, (lm t n p).2.2.2.2.1 = (n, 0) := fun _ _ _ => rfl
    have hy : (0 : Int) ≤ ((y.2.1.length : Nat) : Int) := by omega
    simp only [Option.bind_some, g0, g1, g2, n1, t4, t5, t6, hn, c6, d6, a0e, a1e, a2e, b4e, b3e, a0v, a1v, a2v, b4v, b3v, bne_self_eq_false, cond_false, Bool.not_true, beq_self_eq_true, Bool.and_self, t7, p0e, p1e, p2e, q6e, p0v, p1v, p2v, q6v, cond_true, hy, decide_true, wakes_eq]
  · intro i hi
    match i, hi with
    | 0, _ =>
      have g : getI [lm 1 1 0, lm 2 2 0, lm 3 3 0] ((0 : Nat) : Int) = some (lm 1 1 0) := rfl
      simp only [g, Option.bind_some, List.take_zero, List.take_succ_cons, show tree_Apply (made [], lm 1 1 0) = some (made [lm 1 1 0], 0) from t1, hn, bne_self_eq_false, cond_false]
      rfl
    | 1, _ =>
      have g : getI [lm 1 1 0, lm 2 2 0, lm 3 3 0] ((1 : Nat) : Int) = some (lm 2 2 0) := rfl
      simp only [g, Option.bind_some, List.take_zero, List.take_succ_cons, show tree_Apply (made [lm 1 1 0], lm 2 2 0) = some (made [lm 1 1 0, lm 2 2 0], 0) from t2, hn, bne_self_eq_false, cond_false]
      rfl
    | 2, _ =>
      have g : getI [lm 1 1 0, lm 2 2 0, lm 3 3 0] ((2 : Nat) : Int) = some (lm 3 3 0) := rfl
      simp only [g, Option.bind_some, List.take_zero, List.take_succ_cons, show tree_Apply (made [lm 1 1 0, lm 2 2 0], lm 3 3 0) = some (made [lm 1 1 0, lm 2 2 0, lm 3 3 0], 0) from t3, hn, bne_self_eq_false, cond_false]
      rfl
  · rfl
end Go.Tr
