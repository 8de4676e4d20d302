/- A part of the proof: TrP0, TrM, TrP1, LsBase. -/
import Derived.Test.YtdpgchmodijllaaGreatDvI
import Derived.Test.YtdpgchmodijllaaGreatNat
set_option linter.unusedVariables false
namespace Go.Dv
open Go (IntKind)
theorem iterN_inl {σ ρ : Type} {f : σ → Option (σ ⊕ ρ)} {n : Nat} {s s' : σ} (h : f s = some (.inl s')) : iterN f (n + 1) s = iterN f n s' := by simp only [iterN, h]
theorem iterN_inr {σ ρ : Type} {f : σ → Option (σ ⊕ ρ)} {n : Nat} {s : σ} {r : ρ} (h : f s = some (.inr r)) : iterN f (n + 1) s = some r := by simp only [iterN, h]
theorem getI_lit0 {α : Type} (a : α) (l : List α) : getI (a :: l) 0 = some a := rfl
theorem getI_lit1 {α : Type} (a b : α) (l : List α) : getI (a :: b :: l) 1 = some b := rfl
end Go.Dv
/- Forests: nodes by their stamps, each beneath a place; moves that make no circle. Plain Lean. -/
set_option linter.unusedVariables false
set_option linter.unusedSimpArgs false
namespace Go.Tr
abbrev Sp : Type := Int × Int
abbrev Nd : Type := Sp × Sp × ByteArray
def slt (a b : Sp) : Prop := a.1 < b.1 ∨ (a.1 = b.1 ∧ a.2 < b.2)
instance (a b : Sp) : Decidable (slt a b) := by unfold slt; exact inferInstance
theorem slt_irr (a : Sp) : ¬ slt a a := by unfold slt; omega
theorem slt_trans {a b c : Sp} (h : slt a b) (k : slt b c) : slt a c := by unfold slt at *; omega
theorem slt_tri (a b : Sp) : slt a b ∨ a = b ∨ slt b a := by
  unfold slt
  obtain ⟨a1, a2⟩ := a
  obtain ⟨b1, b2⟩ := b
  simp only [Prod.mk.injEq]; omega

def Srt (l : List Nd) : Prop := l.Pairwise fun a b => slt a.1 b.1
def look : List Nd → Sp → Option Nd
  | [], _ => none
  | m :: l, id => if m.1 = id then some m else look l id
def posN : List Nd → Sp → Nat
  | [], _ => 0
  | m :: l, id => if slt m.1 id then posN l id + 1 else 0
def putN : List Nd → Nd → List Nd
  | [], n => [n]
  | m :: l, n => if slt m.1 n.1 then m :: putN l n else if m.1 = n.1 then n :: l else n :: m :: l
def par (l : List Nd) (s : Sp) : Option Sp := (look l s).map (·.2.1)
def EndsIn (l : List Nd) : Nat → Sp → Prop
  | 0, s => par l s = none
  | n + 1, s => ∃ p, par l s = some p ∧ EndsIn l n p
def Acy (l : List Nd) : Prop := ∀ s, ∃ n, EndsIn l n s
def ov (l : List Nd) (id : Sp) : Nat → Sp → Bool
  | 0, s => decide (s = id)
  | n + 1, s => decide (s = id) || match par l s with
    | some p => ov l id n p
    | none => false
def path (l : List Nd) : Nat → Sp → List Sp
  | 0, s => []
  | n + 1, s => s :: match par l s with
    | some p => path l n p
    | none => []
def circ (l : List Nd) (id at_ : Sp) : Bool := ov l id l.length at_
end Go.Tr
set_option linter.unusedVariables false
set_option linter.unusedSimpArgs false
namespace Go.Tr
open Go Go.Dv Go.Sort Go.Proofs
def scmp (a b : Sp) : Int := if slt a b then -1 else if a = b then 0 else 1
def cmpI (a b : Int) : Int := if a < b then -1 else if b < a then 1 else 0
theorem cmp_Compare_int_eq (a b : Int) : cmp_Compare_int (a, b) = cmpI a b := by
  simp only [cmp_Compare_int, cmp_isNaN_int, cmpI]
  simp only [bne_self_eq_false, cond_false]
  by_cases h : a < b
  · simp [h]
  · by_cases h2 : b < a <;> simp [h, h2]
theorem cmp_Or_two (a b : Int) : cmp_Or_int [a, b] = some (if a ≠ 0 then a else b) := by
  unfold cmp_Or_int iter
  by_cases h : a = 0
  · rw [iterN_inl (s' := (0, [a, b], 2, 1)) (by simp [getI_lit0, getI_lit1, h]; rfl)]
    by_cases h2 : b = 0
    · rw [iterN_inl (s' := (0, [a, b], 2, 2)) (by simp [getI_lit0, getI_lit1, h2]; rfl), iterN_inr (r := .inl 0) (by simp)]
      simp [h, h2]
    · have e : (b != 0) = true := by simp [h2]
      rw [iterN_inr (r := .inr b) (by simp [getI_lit0, getI_lit1, e])]
      simp [h]
  · have e : (a != 0) = true := by simp [h]
    rw [iterN_inr (r := .inr a) (by simp [getI_lit0, getI_lit1, e])]
    simp [h]
theorem stamp_Cmp_eq (a b : Sp) : stamp_Cmp (a, b) = some (scmp a b) := by
  simp only [stamp_Cmp, cmp_Compare_int_eq, cmp_Or_two, Option.bind_some]
  obtain ⟨a1, a2⟩ := a
  obtain ⟨b1, b2⟩ := b
  simp only [scmp, slt, cmpI, Prod.mk.injEq, Option.some.injEq]
  split <;> split <;> split <;> (try split) <;> (try split) <;> (try split) <;> first | omega | (simp_all; try omega)
theorem cmpStr_lt : ∀ (a b : List UInt8), (Go.Lib.compareBytes a b < 0 ↔ a < b) ∧ (Go.Lib.compareBytes a b = 0 ↔ a = b) ∧ (0 < Go.Lib.compareBytes a b ↔ b < a)
  | [], [] => by simp [Go.Lib.compareBytes]
  | [], _ :: _ => by simp [Go.Lib.compareBytes]
  | _ :: _, [] => by simp [Go.Lib.compareBytes]
  | x :: a, y :: b => by
    simp only [Go.Lib.compareBytes, List.cons_lt_cons_iff, List.cons.injEq]
    have ih := cmpStr_lt a b
    by_cases h : x < y
    · have h2 : ¬ y < x := UInt8.not_lt.2 (UInt8.le_of_lt h)
      have h3 : x ≠ y := UInt8.ne_of_lt h
      simp [h, h2, h3, h3.symm]
    · by_cases h2 : y < x
      · have h3 : x ≠ y := (UInt8.ne_of_lt h2).symm
        simp [h, h2, h3, h3.symm]
      · have h3 : x = y := UInt8.le_antisymm (UInt8.not_lt.1 h2) (UInt8.not_lt.1 h)
        subst h3
        simp [h, ih]
def klt (a b : Nd) : Prop := a.2.2.data.toList < b.2.2.data.toList ∨ (a.2.2.data.toList = b.2.2.data.toList ∧ slt a.1 b.1)
instance (a b : Nd) : Decidable (klt a b) := by unfold klt; exact inferInstance
theorem cf_lt (a b : Nd) : (cf_slices_SortFunc_Node a b < 0 ↔ klt a b) ∧ (tree_Children_1 (a, b)).isSome = true := by
  have hk := cmpStr_lt a.2.2.data.toList b.2.2.data.toList
  simp only [cf_slices_SortFunc_Node, tree_Children_1, stamp_Cmp_eq, Option.bind_some, strings_Compare, cmp_Or_two, cmpStr, Option.getD_some, Option.isSome_some, and_true, klt]
  by_cases h0 : Go.Lib.compareBytes a.2.2.data.toList b.2.2.data.toList = 0
  · have h1 := hk.2.1.1 h0
    rw [if_neg (by simp [h0])]
    simp only [h1, List.lt_irrefl, false_or, true_and, scmp]
    split
    · simp [*]
    · split
      · rename_i h2 h3; simp [h3, slt_irr]
      · simp [*]
  · rw [if_pos h0, hk.1]
    constructor
    · exact .inl
    · rintro (h | ⟨h, _⟩)
      · exact h
      · exact absurd (hk.2.1.2 h) h0
theorem klt_trans {a b c : Nd} (h : klt a b) (k : klt b c) : klt a c := by
  unfold klt at *
  rcases h with h | ⟨h, h2⟩ <;> rcases k with k | ⟨k, k2⟩
  · exact .inl (List.lt_trans h k)
  · exact .inl (k ▸ h)
  · exact .inl (h ▸ k)
  · exact .inr ⟨h.trans k, slt_trans h2 k2⟩
theorem klt_irr (a : Nd) : ¬ klt a a := by
  unfold klt
  rintro (h | ⟨_, h⟩)
  · exact List.lt_irrefl _ h
  · exact slt_irr _ h
theorem klt_tri (a b : Nd) : klt a b ∨ klt b a ∨ (a.1 = b.1 ∧ a.2.2 = b.2.2) := by
  unfold klt
  have hk := cmpStr_lt a.2.2.data.toList b.2.2.data.toList
  rcases Int.lt_trichotomy (Go.Lib.compareBytes a.2.2.data.toList b.2.2.data.toList) 0 with h | h | h
  · exact .inl (.inl (hk.1.1 h))
  · have h1 := hk.2.1.1 h
    rcases slt_tri a.1 b.1 with h2 | h2 | h2
    · exact .inl (.inr ⟨h1, h2⟩)
    · refine .inr (.inr ⟨h2, ?_⟩)
      have : a.2.2.data = b.2.2.data := Array.toList_inj.1 h1
      cases ha : a.2.2; cases hb : b.2.2; simp [ha, hb] at this; rw [this]
    · exact .inr (.inl (.inr ⟨h1.symm, h2⟩))
  · exact .inr (.inl (.inl (hk.2.2.1 h)))
theorem ltOf_cf (a b : Nd) : ltOf cf_slices_SortFunc_Node a b = decide (klt a b) := by
  unfold ltOf
  rw [decide_eq_decide]; exact (cf_lt a b).1
theorem swo_cf : SWO (ltOf cf_slices_SortFunc_Node) where
  irrefl x := by rw [ltOf_cf]; simpa using klt_irr x
  trans x y z h k := by rw [ltOf_cf] at *; simp at *; exact klt_trans h k
  ntrans x y z h k := by
    rw [ltOf_cf] at *; simp at *
    intro hxz
    rcases klt_tri x y with h1 | h1 | h1
    · exact h h1
    · exact k (klt_trans h1 hxz)
    · -- x and y are alike
      apply k
      unfold klt at hxz ⊢
      rw [← h1.1, ← h1.2]; exact hxz
end Go.Tr
namespace Go.Dv
open Go.Sort Go.Proofs
theorem swo_slices_SortFunc_Node : SWO (ltOf cf_slices_SortFunc_Node) := Go.Tr.swo_cf
theorem total_slices_SortFunc_Node (x y : El sNode) : (tree_Children_1 (x, y)).isSome = true := (Go.Tr.cf_lt x y).2
end Go.Dv
