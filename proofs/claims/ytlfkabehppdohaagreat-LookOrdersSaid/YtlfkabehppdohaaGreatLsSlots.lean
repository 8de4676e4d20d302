/- A part of the proof: LsSlots. -/
import Derived.Test.YtlfkabehppdohaaGreatLsC
set_option linter.unusedVariables false
set_option linter.unusedSimpArgs false
namespace Go.Tr
open Go Go.Dv Go.Ky
def ix (i n : Nat) : Int := if i < n then (i : Int) else -1
def atK (K : List Nd) (b : Sp) : Nat := K.findIdx fun n => decide (n.1 = b)
def jK (K : List Nd) (b : Sp) : Int := if b = (0, 0) then (K.length : Int) else ix (atK K b) K.length
def aK (K : List Nd) (i : Nat) : ByteArray := if i = 0 then (ByteArray.mk ([]).toArray) else (K.getD (i - 1) default).2.2
def bK (K : List Nd) (i : Nat) : ByteArray := if i < K.length then (K.getD i default).2.2 else (ByteArray.mk ([]).toArray)
noncomputable def gapA (a b : ByteArray) : ByteArray × Int :=
  if empB a = false ∧ a = b then ((ByteArray.mk ([]).toArray), 5) else if mayK a b = true then resK (go 64 a.data.toList (boundK b.data.toList)) else (⟨#[]⟩, 1)
noncomputable def gapG (l : List Nd) (p b : Sp) : ByteArray × Int :=
  if liveC l p = true then (if jK (kidsC l p) b < 0 then ((ByteArray.mk ([]).toArray), 3) else gapA (aK (kidsC l p) (jK (kidsC l p) b).toNat) (bK (kidsC l p) (jK (kidsC l p) b).toNat)) else ((ByteArray.mk ([]).toArray), 3)
theorem find_loop1 {α σ ρ : Type} [Inhabited α] {K : List α} {p : α → Bool} {f : σ → Option (σ ⊕ ρ)} (inv : Nat → σ) (out : Nat → ρ) (no : ρ)
    (h1 : ∀ i, i < K.length → p (K.getD i default) = false → f (inv i) = some (.inl (inv (i + 1)))) (h2 : ∀ i, i < K.length → p (K.getD i default) = true → f (inv i) = some (.inr (out i))) (h3 : f (inv K.length) = some (.inr no)) {s0 : σ} (h0 : s0 = inv 0 := by rfl) :
    iter f s0 = some (if K.findIdx p < K.length then out (K.findIdx p) else no) := by
  have hle : K.findIdx p ≤ K.length := List.findIdx_le_length
  rw [iter_run' (inv := inv) (k := K.findIdx p) (r := if K.findIdx p < K.length then out (K.findIdx p) else no) ?_ ?_ h0]
  · intro i hi
    have hi' : i < K.length := by omega
    refine h1 i hi' ?_
    have := List.not_of_lt_findIdx hi
    rw [List.getD_eq_getElem?_getD, List.getElem?_eq_getElem hi']
    simpa using this
  · by_cases h : K.findIdx p < K.length
    · rw [if_pos h]
      refine h2 _ h ?_
      rw [List.getD_eq_getElem?_getD, List.getElem?_eq_getElem h]
      exact List.findIdx_getElem
    · rw [if_neg h, show K.findIdx p = K.length by omega]; exact h3
theorem InStamps_eq (l : List Sp) (b : Sp) (hl : l.length < 1000000000) : arrasref0_InStamps (l, b) = some (ix (l.findIdx fun q => decide (q = b)) l.length) := by
  unfold arrasref0_InStamps
  rw [find_loop1 (K := l) (p := fun q => decide (q = b)) (inv := fun i : Nat => (l, ((i : Int), b))) (out := fun i => .inr (i : Int)) (no := .inl b)]
  · unfold ix
    by_cases hc : (l.findIdx fun q => decide (q = b)) < l.length
    · simp only [if_pos hc, Option.bind_some]
    · simp only [if_neg hc, Option.bind_some]
  · intro i hi hp
    have e1 : (i : Int) < (l.length : Int) := by omega
    simp only [e1, decide_true, cond_true, getI_D l i hi, Option.bind_some, two_eq, hp, cond_false, wrap_nat (show i < 9223372036854775807 by omega)]
  · intro i hi hp
    have e1 : (i : Int) < (l.length : Int) := by omega
    simp only [e1, decide_true, cond_true, getI_D l i hi, Option.bind_some, two_eq, hp]
  · simp only [Int.lt_irrefl, decide_false, cond_false]
theorem ix_mem {l : List Sp} {b : Sp} : 0 ≤ ix (l.findIdx fun q => decide (q = b)) l.length ↔ b ∈ l := by
  have h : (l.findIdx fun q => decide (q = b)) < l.length ↔ b ∈ l := by
    rw [List.findIdx_lt_length]
    simp
  rw [← h]
  unfold ix; split <;> omega
def refK : Option L → ByteArray × Bool
  | none => ((ByteArray.mk ([]).toArray), false)
  | some s => (mkB s, true)
abbrev SR : Type := ByteArray × (ByteArray × (List Int × (Bool × Int)))
def outR (acc : L) : Option L → Unit ⊕ (ByteArray × Bool)
  | none => .inl ()
  | some s => .inr (mkB (acc ++ s), true)
noncomputable def refA (a b : ByteArray) : ByteArray × Int :=
  if empB a = false ∧ a = b then ((ByteArray.mk ([]).toArray), 5) else resK (go 64 a.data.toList (boundK b.data.toList))
noncomputable def refG (l : List Nd) (p b : Sp) : ByteArray × Int :=
  if liveC l p = true then (if jK (kidsC l p) b < 0 then ((ByteArray.mk ([]).toArray), 3) else refA (aK (kidsC l p) (jK (kidsC l p) b).toNat) (bK (kidsC l p) (jK (kidsC l p) b).toNat)) else ((ByteArray.mk ([]).toArray), 3)
end Go.Tr
