/- A part of the proof: LsLooks, LsMays, LsD, LsFor. -/
import Derived.Test.YtlfkabehppdohaaGreatLsB
set_option linter.unusedVariables false
set_option linter.unusedSimpArgs false
namespace Go.Tr
open Go Go.Dv
theorem CopyEntry_eq (e : Entry) (h : Sm e.1.2.2.1) : arrasref0_CopyEntry e = some e := by
  unfold arrasref0_CopyEntry
  rw [CopyOp_eq _ h]; rfl
theorem CopyMoves_eq (l : List Entry) (h : Sm l) (hd : ∀ e ∈ l, Sm e.1.2.2.1) : arrasref0_CopyMoves l = some l := by
  have h' : l.length < 1000000 := h
  unfold arrasref0_CopyMoves
  rw [copy_loop]
  · rfl
  · intro i hi
    have e1 : (i : Int) < (l.length : Int) := by omega
    have hr : room (List.length (l.take i ++ [l.getD i default])) 168 = true := room_small (by simp only [List.length_append, List.length_take, List.length_cons, List.length_nil]; omega) (by decide)
    simp only [e1, decide_true, cond_true, getI_D l i hi, Option.bind_some, CopyEntry_eq _ (hd _ (getD_mem hi)), hr, wrap_nat (show i < 9223372036854775807 by omega), take_snoc hi]
  · simp
theorem CopyTree_eq (t : Tree) (h1 : Sm t.1) (h2 : Sm t.2) (hd : ∀ e ∈ t.2, Sm e.1.2.2.1) : arrasref0_CopyTree t = some t := by
  unfold arrasref0_CopyTree
  rw [CopyNodes_eq _ h1, CopyMoves_eq _ h2 hd]; rfl
instance i7 : DecidableEq (Int × Int × Stamp) := inferInstance
instance i8 : DecidableEq Go.Dv.Reg := inferInstanceAs (DecidableEq (Int × Int × Stamp))
instance i9 : DecidableEq (Stamp × List Go.Dv.Reg) := inferInstance
instance i10 : DecidableEq Go.Dv.Look := inferInstanceAs (DecidableEq (Stamp × List Go.Dv.Reg))
theorem CopyRegs_eq (l : List Rg) (h : l.length < 999900) : arrasref0_CopyRegs l = some l := by
  unfold arrasref0_CopyRegs
  rw [copy_loop]
  · rfl
  · intro i hi
    have e1 : (i : Int) < (l.length : Int) := by omega
    have hr : room (List.length (l.take i ++ [l.getD i default])) 32 = true := room_small (by simp only [List.length_append, List.length_take, List.length_cons, List.length_nil]; omega) (by decide)
    simp only [e1, decide_true, cond_true, getI_D l i hi, Option.bind_some, hr, wrap_nat (show i < 9223372036854775807 by omega), take_snoc hi]
  · simp
theorem CopyLook_eq (q : Lk) (h : q.2.length < 999900) : arrasref0_CopyLook q = some q := by
  unfold arrasref0_CopyLook
  rw [CopyRegs_eq _ h]; rfl
theorem CopyLooks_eq (l : List Lk) (h : l.length < 999900) (hr : ∀ q ∈ l, q.2.length < 999900) : arrasref0_CopyLooks l = some l := by
  unfold arrasref0_CopyLooks
  rw [copy_loop]
  · rfl
  · intro i hi
    have e1 : (i : Int) < (l.length : Int) := by omega
    have hrr : room (List.length (l.take i ++ [l.getD i default])) 40 = true := room_small (by simp only [List.length_append, List.length_take, List.length_cons, List.length_nil]; omega) (by decide)
    simp only [e1, decide_true, cond_true, getI_D l i hi, Option.bind_some, CopyLook_eq _ (hr _ (getD_mem hi)), hrr, wrap_nat (show i < 9223372036854775807 by omega), take_snoc hi]
  · simp
theorem CopyShape_eq (s : Tree × List Lk) (h : SmS s) : arrasref0_CopyShape s = some s := by
  have h1 := h.n
  have h2 := h.m
  have h3 := h.l
  unfold arrasref0_CopyShape
  rw [CopyTree_eq s.1 (show s.1.1.length < 1000000 by omega) (show s.1.2.length < 1000000 by omega) h.d, CopyLooks_eq s.2 (by omega) (fun q hq => by have := h.r q hq; omega)]
  rfl
end Go.Tr
set_option linter.unusedVariables false
set_option linter.unusedSimpArgs false
namespace Go.Tr
open Go Go.Dv
end Go.Tr
set_option linter.unusedVariables false
set_option linter.unusedSimpArgs false
namespace Go.Tr
open Go Go.Dv
def mvo (t : Int) (node parent : Sp) (key : ByteArray) : Op' := ((t, (0 : Int)), (1 : Int), [0], (1 : Int), node, parent, key, (0 : Int), (0 : Int))
def rowO (op : Nat → Op') (n : Nat) : List Op' := (List.range n).map fun k => op (k + 1)
def chk (op : Nat → Op') : Nat → Nat → List Nd → Bool
  | 0, _, _ => true
  | n + 1, i, l => decide (letsC l (op i) = 0) && chk op n (i + 1) (doL l (op i))
end Go.Tr
set_option linter.unusedVariables false
set_option linter.unusedSimpArgs false
namespace Go.Tr
open Go Go.Dv Go.Ky
def Way (l : List Nd) : Nat → Sp → Sp → Prop
  | 0, s, id => s = id
  | d + 1, s, id => s ≠ id ∧ ∃ p, par l s = some p ∧ Way l d p id
def Steps (l : List Nd) : Nat → Sp → Sp → Prop
  | 0, s, id => s = id
  | d + 1, s, id => ∃ p, par l s = some p ∧ Steps l d p id
def AllUp (l : List Nd) : Prop := ∀ m ∈ l, liveC l m.1 = true ∧ (upC l m.1).length ≤ 12
theorem nds_mem : ∀ {os : List Op'} {l : List Nd} {m : Nd}, m ∈ nds l os → m ∈ l ∨ ∃ o ∈ os, m = (o.2.2.2.2.1, o.2.2.2.2.2.1, o.2.2.2.2.2.2.1)
  | [], l, m, h => .inl h
  | o :: os, l, m, h => by
    rcases nds_mem (os := os) (l := doL l o) h with h | ⟨q, hq, e⟩
    · unfold doL at h
      split at h
      · exact .inl h
      · rcases put_mem h with h | h
        · exact .inr ⟨o, by simp, h⟩
        · exact .inl h
    · exact .inr ⟨q, by simp [hq], e⟩
theorem mv_parts {o : Op'} (h : mvOk o = true) : stOk o.2.2.2.2.1 = true ∧ plOk o.2.2.2.2.2.1 = true ∧ keyB o.2.2.2.2.2.2.1 = true := by
  simp only [mvOk, Bool.and_eq_true] at h
  exact ⟨h.1.1.1.1.1.1.1.2, h.1.1.1.2, h.1.1.2⟩
theorem node_ok {os : List Op'} (h : OkT os) {m : Nd} (hm : m ∈ nds [] os) : stOk m.1 = true ∧ keyB m.2.2 = true := by
  rcases nds_mem hm with h0 | ⟨o, ho, rfl⟩
  · cases h0
  · have := mv_parts (h.mv o ho); exact ⟨this.1, this.2.2⟩
theorem root_none {os : List Op'} (h : OkT os) : look (nds [] os) (0, 0) = none := by
  cases hq : look (nds [] os) (0, 0) with
  | none => rfl
  | some m =>
    have := (node_ok h (look_id hq).2).1
    rw [(look_id hq).1] at this
    cases this
end Go.Tr
