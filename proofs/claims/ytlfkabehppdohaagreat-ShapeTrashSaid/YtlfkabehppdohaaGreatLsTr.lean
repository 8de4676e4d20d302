/- A part of the proof: LsLooks, LsTrash. -/
import Derived.Test.YtlfkabehppdohaaGreatLsB
import Derived.Test.YtlfkabehppdohaaGreatLsD
set_option linter.unusedVariables false
set_option linter.unusedSimpArgs false
namespace Go.Tr
open Go Go.Dv
instance i7 : DecidableEq (Int × Int × Stamp) := inferInstance
instance i8 : DecidableEq Go.Dv.Reg := inferInstanceAs (DecidableEq (Int × Int × Stamp))
instance i9 : DecidableEq (Stamp × List Go.Dv.Reg) := inferInstance
instance i10 : DecidableEq Go.Dv.Look := inferInstanceAs (DecidableEq (Stamp × List Go.Dv.Reg))
theorem Look_eq (s : Tree × List Lk) (id : Sp) (h : SmS s) : shape_Look (s, id) = some (if shpB s = true then (regsAt s.2 id, 0) else ([], 1)) := by
  have h3 := h.l
  unfold shape_Look
  simp only [IsShape_eq s h, Option.bind_some]
  cases hB : shpB s with
  | false => rfl
  | true =>
    obtain ⟨st, o1, rfl⟩ := shpB_iff.1 hB
    simp only [Bool.not_true, cond_false, Regs_eq id (show GS lk slt (shp st).2 from o1.l.srt) (show (shp st).2.length < 1000000 by omega), Option.bind_some, if_true]
    have hr : (regsAt (shp st).2 id).length < 999000 := by
      unfold regsAt
      split
      · decide
      · rename_i q hq; exact h.r q (glook_id hq).2
    simp only [room_small (show (regsAt (shp st).2 id).length ≤ 1000000 by omega) (show 32 ≤ 1000000 by decide), cond_true]
end Go.Tr
set_option linter.unusedVariables false
set_option linter.unusedSimpArgs false
namespace Go.Tr
open Go Go.Dv Go.Ky
def styO (t : Int) (node : Sp) (prop val : Int) : Op' := ((t, (0 : Int)), (1 : Int), [0], (2 : Int), node, ((0 : Int), (0 : Int)), (ByteArray.mk ([]).toArray), prop, val)
def opS (i : Nat) : Op' := styO (IntKind.wrap .i64 (50 + (i : Int))) ((i : Int), 0) 17 i
theorem styO_ok {t : Int} {node : Sp} {prop val : Int} (ht : stOk (t, 0) = true) (hn : stOk node = true) (hp : prOk prop val = true) : opOk (styO t node prop val) = true := by
  have h2 : vecOk [0] = true := rfl
  have h3 : depAt (styO t node prop val) = 0 := rfl
  simp only [opOk, hdOk, styO] at *
  simp only [ht, hn, hp, h2, h3, Go.Dv.wrap_small (n := 0 + 1) (by omega) (by omega)]
  rfl
def lksT : Nat → List Lk
  | 0 => []
  | n + 1 => putLk (lksT n) (((n + 1 : Nat) : Int), 0) (17, ((n + 1 : Nat) : Int), ((50 + (n + 1 : Nat) : Int), 0))
def stT (n : Nat) : St := (rowO opD n, lksT n)
def opG : Op' := mvo 100 ((1 : Int), 0) (0, 1) kK
def opOut (i : Nat) : Op' := mvo 101 ((i : Int), 0) (0, 0) kM
def opIn (i : Nat) : Op' := mvo 101 ((101 : Int), 0) ((i : Int), 0) kM
def stG (n : Nat) : St := (rowO opD n ++ [opG], lksT n)
theorem lksT_len : ∀ n, (lksT n).length ≤ n
  | 0 => Nat.le_refl _
  | n + 1 => by
    have := lksT_len n
    have h2 : (lksT (n + 1)).length ≤ (lksT n).length + 1 := gput_len
    omega
theorem rowD_len (n : Nat) : (rowO opD n).length = n := by simp [rowO]
theorem rowD_later (n : Nat) (t : Int) (ht : (n : Int) < t) : ∀ q ∈ rowO opD n, slt q.1 (t, (0 : Int)) := by
  intro q hq
  obtain ⟨j, hj, rfl⟩ := List.mem_map.1 hq
  have := List.mem_range.1 hj
  exact .inl (by show ((j + 1 : Nat) : Int) < t; omega)
theorem opS_ok (i : Nat) (h : 1 ≤ i) (h2 : i ≤ 50) : opOk (opS i) = true := by
  refine styO_ok ?_ (st_small h (by omega)) ?_
  · rw [Go.Dv.wrap_small (by omega) (by omega)]
    simp only [stOk, Bool.and_eq_true, decide_eq_true_eq]; omega
  · simp only [prOk, prIs, prLo, prHi, Bool.and_eq_true, decide_eq_true_eq]
    simp
    omega
theorem stT_step (n : Nat) (hn : n < 40) (h : OkS (stT n)) :
    (∃ s1, shape_Apply (shp (stT n), opD (n + 1)) = some (s1, 0) ∧ shape_Apply (s1, opS (n + 1)) = some (shp (stT (n + 1)), 0)) ∧ OkS (stT (n + 1)) := by
  have hl := lksT_len n
  obtain ⟨a1, s1⟩ := apply_end (lk := lksT n) (o := opD (n + 1)) h (by rw [rowD_len]; omega) (by omega) (opD_ok _ (by omega) (by omega)) rfl (rowD_later n _ (by show (n : Int) < ((n + 1 : Nat) : Int); omega)) (by show 1 < _; omega)
  rw [← rowO_succ] at a1 s1
  have ho := opS_ok (n + 1) (by omega) (by omega)
  have hc : clash (rowO opD (n + 1), lksT n) (opS (n + 1)) = false := rfl
  have hp : putS (rowO opD (n + 1), lksT n) (opS (n + 1)) = stT (n + 1) := by
    show (rowO opD (n + 1), putLk (lksT n) _ _) = _
    have : regOf (opS (n + 1)) = (17, ((n + 1 : Nat) : Int), ((50 + (n + 1 : Nat) : Int), 0)) := by
      show ((17 : Int), ((n + 1 : Nat) : Int), (IntKind.wrap .i64 (50 + ((n + 1 : Nat) : Int)), (0 : Int))) = _
      rw [Go.Dv.wrap_small (by omega) (by omega)]
    rw [this]; rfl
  have a2 := shape_Apply_eq (s := (rowO opD (n + 1), lksT n)) (o := opS (n + 1)) s1 (by rw [rowD_len]; omega) (by show (lksT n).length < _; omega) (by show 1 < _; omega)
  rw [ho, hc, hp] at a2
  have ok := putS_ok s1 ho hc
  rw [hp] at ok
  exact ⟨⟨_, a1, by simpa using a2⟩, ok⟩
theorem stT_ok : ∀ n, n ≤ 40 → OkS (stT n)
  | 0, _ => oks_nil
  | n + 1, h => (stT_step n (by omega) (stT_ok n (by omega))).2
def chkT (n : Nat) : Bool :=
  decide (letsC (nds [] (rowO opD n)) opG = 0) && (List.range n).all fun k =>
    decide (regsAt (lksT n) (((k + 1 : Nat) : Int), 0) = [(17, ((k + 1 : Nat) : Int), ((50 + (k + 1 : Nat) : Int), 0))]) && !liveC (nds [] (rowO opD n ++ [opG])) (((k + 1 : Nat) : Int), 0) &&
    liveC (nds [] (rowO opD n)) (((k + 1 : Nat) : Int), 0) && (decide ((lastK (kidsC (nds [] (rowO opD n)) (((k + 1 : Nat) : Int), 0))).data.toList = [107]) || decide ((lastK (kidsC (nds [] (rowO opD n)) (((k + 1 : Nat) : Int), 0))).data.toList = [])) &&
    decide (letsC (nds [] (rowO opD n ++ [opG])) (opOut (k + 1)) = 6) && decide (letsC (nds [] (rowO opD n ++ [opG])) (opIn (k + 1)) = 3)
theorem chkT_all : ((List.range 6).all fun n => chkT (n + 1)) = true := by kernel_rfl
theorem bytes_of {a : ByteArray} {l : List UInt8} (h : a.data.toList = l) : a = ByteArray.mk l.toArray := by
  cases a with
  | mk d => simp only at h; subst h; simp
theorem gap_ok {l : List Nd} {p : Sp} (h1 : liveC l p = true) (h2 : (lastK (kidsC l p)).data.toList = [107] ∨ (lastK (kidsC l p)).data.toList = []) : (gapC l p).2 = 0 := by
  unfold gapC
  rw [if_pos h1]
  rcases h2 with h2 | h2
  · have e := bytes_of h2
    rw [e, show mayK (ByteArray.mk [107].toArray) ⟨#[]⟩ = true from by simp [mayK, keyB_k, empB], if_pos rfl, go_stop (by decide)]
    rfl
  · have e := bytes_of h2
    rw [e, show mayK (ByteArray.mk [].toArray) ⟨#[]⟩ = true from by simp [mayK, empB], if_pos rfl, go_stop (by decide)]
    rfl
theorem gap_dead {l : List Nd} {p : Sp} (h1 : liveC l p = false) : (gapC l p).2 = 3 := by
  unfold gapC; rw [h1]; rfl
theorem Within6 (n : Nat) (h : n ≤ 140737488355328) : arraslaw0_Within (((n : Nat) : Int), (6 : Int)) = some (((n % 6 : Nat) : Int)) := by
  unfold arraslaw0_Within
  have e1 : IntKind.wrap .u64 ((n : Nat) : Int) = (n : Int) := wrap_u64 (by omega) (by omega)
  have e2 : IntKind.wrap .u64 6 = 6 := rfl
  simp only [e1, e2, show ((6 : Int) == 0) = false from rfl, cond_false]
  rw [Int.tmod_eq_emod_of_nonneg (by omega), Go.Dv.wrap_small (by omega) (by omega)]
  congr 1
theorem pure_ShapeTrash (y : El sScript_arraslaw17) (h : Bnd sScript_arraslaw17 y) : arraslaw17_ShapeTrash y = some true := by
  obtain ⟨_, ⟨hL, _⟩, _⟩ := h
  unfold arraslaw17_ShapeTrash
  rw [Within6 _ hL]
  simp only [Option.bind_some]
  have hw : IntKind.wrap .i64 (1 + ((y.2.1.length % 6 : Nat) : Int)) = ((y.2.1.length % 6 + 1 : Nat) : Int) := by
    rw [Go.Dv.wrap_small] <;> omega
  rw [hw]
  generalize hn : y.2.1.length % 6 + 1 = n
  have hn6 : n ≤ 6 := by omega
  have hn1 : 1 ≤ n := by omega
  have hc := List.all_eq_true.1 chkT_all (n - 1) (List.mem_range.2 (by omega))
  rw [Nat.sub_add_cancel hn1] at hc
  simp only [chkT, Bool.and_eq_true, decide_eq_true_eq, List.all_eq_true] at hc
  obtain ⟨hG, hc⟩ := hc
  have hll := lksT_len n
  have okT := stT_ok n (by omega)
  obtain ⟨aG, sG⟩ := apply_end (lk := lksT n) (o := opG) okT (by rw [rowD_len]; omega) (by omega) (mvo_ok rfl rfl rfl keyB_k) rfl (rowD_later n 100 (by omega)) (by show 1 < _; omega)
  have mG : shape_May (shp (stT n), opG) = some 0 := by
    rw [← hG]
    exact May_ok okT (by show (rowO opD n).length < _; rw [rowD_len]; omega) (by show (lksT n).length < _; omega) (mvo_ok rfl rfl rfl keyB_k) (by show 1 < _; omega)
  have glen : (stG n).1.length < 998000 := by show (rowO opD n ++ [opG]).length < _; simp only [List.length_append, rowD_len, List.length_cons, List.length_nil]; omega
  have glen2 : (stG n).2.length < 998000 := by show (lksT n).length < _; omega
  have gsm := sms_shp (st := stG n) sG (by omega) (by omega)
  -- the chain
  rw [iter_run' (inv := fun k : Nat => (((n : Nat) : Int), (((k + 1 : Nat) : Int), (y, (shp (stT k), (((k : Nat) : Int), (0 : Int))))))) (k := n) (r := .inl (((n : Nat) : Int), (y, (shp (stT n), (((n : Nat) : Int), (0 : Int))))))]
  · simp only [Option.bind_some]
    rw [show shape_May (shp (stT n), (((100 : Int), (0 : Int)), (1 : Int), [0], (1 : Int), ((1 : Int), (0 : Int)), ((0 : Int), (1 : Int)), (ByteArray.mk ([107]).toArray), (0 : Int), (0 : Int))) = _ from mG]
    simp only [Option.bind_some, num17_eq, bne_self_eq_false, cond_false]
    rw [show shape_Apply (shp (stT n), (((100 : Int), (0 : Int)), (1 : Int), [0], (1 : Int), ((1 : Int), (0 : Int)), ((0 : Int), (1 : Int)), (ByteArray.mk ([107]).toArray), (0 : Int), (0 : Int))) = _ from aG]
    simp only [Option.bind_some, num17_eq, bne_self_eq_false, cond_false]
    rw [iter_run' (inv := fun k : Nat => (((n : Nat) : Int), (((k + 1 : Nat) : Int), (y, (shp (stT n), ((((n : Nat) : Int), (0 : Int)), (opG, shp (stG n)))))))) (k := n) (r := .inl (y, (shp (stT n), ((((n : Nat) : Int), (0 : Int)), (opG, shp (stG n))))))]
    · simp only [Option.bind_some, wakes17_eq]
    · intro k hk
      obtain ⟨⟨⟨⟨⟨c1, c2⟩, c3⟩, c4⟩, c5⟩, c6⟩ := hc k (List.mem_range.2 hk)
      rw [Bool.not_eq_true'] at c2
      have e1 : ((k + 1 : Nat) : Int) ≤ ((n : Nat) : Int) := by omega
      have hlook := Look_eq (shp (stG n)) ((((k + 1 : Nat) : Int), (0 : Int)) : Sp) gsm
      rw [shpB_iff.2 ⟨stG n, sG, rfl⟩, if_pos rfl, show regsAt (shp (stG n)).2 ((((k + 1 : Nat) : Int), (0 : Int)) : Sp) = _ from c1] at hlook
      have hs1 := Slot_root (s := stG n) ((((k + 1 : Nat) : Int), (0 : Int)) : Sp) sG glen glen2
      have hs2 := Slot_root (s := stT n) ((((k + 1 : Nat) : Int), (0 : Int)) : Sp) okT (by show (rowO opD n).length < _; rw [rowD_len]; omega) (by show (lksT n).length < _; omega)
      have g1 := gap_dead (show liveC (made (stG n).1).1 ((((k + 1 : Nat) : Int), (0 : Int)) : Sp) = false from c2)
      have g2 := gap_ok (l := (made (stT n).1).1) c3 (by rw [Bool.or_eq_true, decide_eq_true_eq, decide_eq_true_eq] at c4; exact c4)
      have mO : shape_May (shp (stG n), opOut (k + 1)) = some 6 := by
        rw [← c5]
        exact May_ok sG glen glen2 (mvo_ok rfl (st_small (by omega) (by omega)) rfl keyB_m) (by show 1 < _; omega)
      have mI : shape_May (shp (stG n), opIn (k + 1)) = some 3 := by
        rw [← c6]
        exact May_ok sG glen glen2 (mvo_ok rfl rfl (pl_small (by omega)) keyB_m) (by show 1 < _; omega)
      have n0 := nds0 (stG n).1
      have hlive : arrasref16_Live (made (stG n).1, ((((k + 1 : Nat) : Int), (0 : Int)) : Sp)) = some false := by
        rw [rLive_C _ n0.1 (by show (nds [] (stG n).1).length < _; omega) n0.2.1]
        exact congrArg some (c2)
      simp only [e1, decide_true, cond_true, hlook, hs1, hs2, Option.bind_some, num17_eq, g1, g2, bne_self_eq_false, cond_false, List.length_cons, List.length_nil]
      rw [show getI [((17 : Int), (((k + 1 : Nat) : Int), ((50 + ((k + 1 : Nat) : Int), (0 : Int)) : Int × Int)))] (0 : Int) = some ((17 : Int), (((k + 1 : Nat) : Int), ((50 + ((k + 1 : Nat) : Int), (0 : Int)) : Int × Int))) from rfl]
      simp only [Option.bind_some, bne_self_eq_false, cond_false]
      rw [show shape_May (shp (stG n), (((101 : Int), (0 : Int)), (1 : Int), [0], (1 : Int), (((k + 1 : Nat) : Int), (0 : Int)), ((0 : Int), (0 : Int)), (ByteArray.mk ([109]).toArray), (0 : Int), (0 : Int))) = _ from mO]
      rw [show shape_May (shp (stG n), (((101 : Int), (0 : Int)), (1 : Int), [0], (1 : Int), ((101 : Int), (0 : Int)), (((k + 1 : Nat) : Int), (0 : Int)), (ByteArray.mk ([109]).toArray), (0 : Int), (0 : Int))) = _ from mI]
      simp only [Option.bind_some, bne_self_eq_false, cond_false]
      rw [show arrasref16_Live ((shp (stG n)).1, (((k + 1 : Nat) : Int), (0 : Int))) = _ from hlive]
      simp only [Option.bind_some, cond_false, wrap_nat (show k + 1 < 9223372036854775807 by omega)]
      rfl
    · have e1 : ¬ ((n + 1 : Nat) : Int) ≤ ((n : Nat) : Int) := by omega
      simp only [e1, decide_false, cond_false]
  · intro k hk
    have e1 : ((k + 1 : Nat) : Int) ≤ ((n : Nat) : Int) := by omega
    obtain ⟨⟨s1, a1, a2⟩, _⟩ := stT_step k (by omega) (stT_ok k (by omega))
    simp only [e1, decide_true, cond_true]
    rw [show shape_Apply (shp (stT k), ((((k + 1 : Nat) : Int), (0 : Int)), (1 : Int), [0], (1 : Int), (((k + 1 : Nat) : Int), (0 : Int)), (((k : Nat) : Int), (0 : Int)), (ByteArray.mk ([107]).toArray), (0 : Int), (0 : Int))) = _ from a1]
    simp only [Option.bind_some]
    rw [show shape_Apply (s1, (((IntKind.wrap .i64 (50 + ((k + 1 : Nat) : Int))), (0 : Int)), (1 : Int), [0], (2 : Int), (((k + 1 : Nat) : Int), (0 : Int)), ((0 : Int), (0 : Int)), (ByteArray.mk ([]).toArray), (17 : Int), ((k + 1 : Nat) : Int))) = _ from a2]
    simp only [Option.bind_some, num17_eq, bne_self_eq_false, cond_false, wrap_nat (show k + 1 < 9223372036854775807 by omega)]
  · have e1 : ¬ ((n + 1 : Nat) : Int) ≤ ((n : Nat) : Int) := by omega
    simp only [e1, decide_false, cond_false]
end Go.Tr
