import Derived.ScopeJumps
import Derived.WalkMore
import Derived.Deep.LoopGhost
import Derived.Laws.Strings
namespace Go.Proofs.YthcadjfkbkegcaaJump
open Go
theorem bytesLess_not : ∀ a b : List UInt8, (Op.bytesLess a b || a == b) = !(Op.bytesLess b a)
  | [], [] => by simp [Op.bytesLess]
  | [], _ :: _ => by simp [Op.bytesLess]
  | _ :: _, [] => by simp [Op.bytesLess]
  | x :: a, y :: b => by
    have ih := bytesLess_not a b
    simp only [Op.bytesLess]
    rcases Nat.lt_trichotomy x.toNat y.toNat with h | h | h
    · have h1 : x < y := h
      have h2 : ¬ y < x := fun h' => Nat.lt_asymm h h'
      have h3 : (y == x) = false := by simp; rintro rfl; exact Nat.lt_irrefl _ h
      simp [h1, h2, h3]
    · obtain rfl : x = y := UInt8.toNat_inj.mp h
      have h1 : ¬ x < x := fun h' => Nat.lt_irrefl _ h'
      simp only [h1, decide_false, Bool.false_or, beq_self_eq_true, Bool.true_and]
      rw [← ih]; simp
    · have h1 : y < x := h
      have h2 : ¬ x < y := fun h' => Nat.lt_asymm h h'
      have h3 : (x == y) = false := by simp; rintro rfl; exact Nat.lt_irrefl _ h
      simp [h1, h2, h3]
theorem str_leq (t : TypeId) (a b : ByteArray) : binOp .leq t (.string a) (.string b) = pure (.bool (!(Op.bytesLess b.toList a.toList))) := by
  simp only [binOp, Op.stringOp]; rw [bytesLess_not]
theorem str_gtr (t : TypeId) (a b : ByteArray) : binOp .gtr t (.string a) (.string b) = pure (.bool (Op.bytesLess b.toList a.toList)) := by
  simp only [binOp, Op.stringOp]; rw [bytesLess_not]; simp
theorem str_geq (t : TypeId) (a b : ByteArray) : binOp .geq t (.string a) (.string b) = pure (.bool (!(Op.bytesLess a.toList b.toList))) := by
  simp only [binOp, Op.stringOp]
section
variable {P : Program} {Q : Exit → Act → World → Prop} {a : Act} {w : World} {S : Act → World → Prop} {l : Nat}
theorem jump_normal : Exit.jump l S Q .normal a w = Q .normal a w := rfl
theorem jump_exit (id : Nat) : Exit.jump l S Q (.exit id) a w = Q (.exit id) a w := rfl
theorem jump_ret : Exit.jump l S Q .ret a w = Q .ret a w := rfl
theorem jump_panic (ch : List PanicEntry) : Exit.jump l S Q (.panic ch) a w = Q (.panic ch) a w := rfl

theorem jump_mono {S' : Act → World → Prop} (h : ∀ a w, S a w → S' a w) : ∀ e a w, Exit.jump l S Q e a w → Exit.jump l S' Q e a w := by
  intro e a w hq
  cases e with
  | goto l' => exact ⟨hq.1, h _ _ hq.2⟩
  | _ => exact hq

/-- A scope whose label stands on its spine: at the label an invariant that bears a number, which every pass to the goto lowers. -/
theorem wp_scope_label {c rest : Code} (l : Nat) (hf : findLabel c l = some (Code.skip.seq rest))
    (h : ∀ S : Act → World → Prop,
      (∀ (I : Nat → Act → World → Prop) (n₀ : Nat) (a : Act) (w : World), I n₀ a w →
        (∀ n a w, I n a w → ∀ (J : Nat → Act → World → Prop) (K : Act → World → Prop), (∀ k a' w', I k a' w' → J k a' w') → (∀ a' w', Handed J n a' w' → K a' w') →
          rest.wp P (Exit.jump l K Q) a w) →
        rest.wp P (Exit.jump l S Q) a w) →
      c.wp P (Exit.jump l S Q) a w) : (Code.scope c).wp P Q a w := by
  have hg : ∀ k : List Item, gotoIn l (.inScope c :: k) = some (.code (Code.skip.seq rest) :: .inScope c :: k) := fun k => by simp [gotoIn, hf]
  intro b k cs
  have hc := h (fun a w => ∃ e a' w', Q e a' w' ∧ Arrives P (lone (b.at a (.code rest :: .inScope c :: k)) cs w) b k cs e a' w') ?_
  · obtain ⟨e, a₁, w₁, hq, harr⟩ := hc b (.inScope c :: k) cs
    cases e with
    | normal => exact ⟨.normal, a₁, w₁, hq, .head step_scope (Steps.trans harr (.one step_inScope))⟩
    | exit id => exact ⟨.exit id, a₁, w₁, hq, fun k' hk => .head step_scope (harr k' (by simp [exitTo, hk]))⟩
    | goto l' =>
      obtain ⟨rfl, e₂, a₂, w₂, hq₂, harr₂⟩ := hq
      exact ⟨e₂, a₂, w₂, hq₂, .of_steps (.head step_scope (Steps.trans (harr _ (hg k)) (.head step_seq (.one step_skip)))) harr₂⟩
    | ret => exact ⟨_, a₁, w₁, hq, .of_steps (.one step_scope) harr⟩
    | panic ch => exact ⟨_, a₁, w₁, hq, .of_steps (.one step_scope) harr⟩
    | outgrown => exact ⟨_, a₁, w₁, hq, .of_steps (.one step_scope) harr⟩
  · intro I n₀ a w h₀ pass
    have key : ∀ n a w, I n a w → ∃ e a' w', Q e a' w' ∧ Arrives P (lone (b.at a (.code rest :: .inScope c :: k)) cs w) b k cs e a' w' := by
      intro n
      induction n using Nat.strongRecOn with
      | _ n ih =>
        intro a w hI
        obtain ⟨e, a₁, w₁, hq, harr⟩ := pass n a w hI I _ (fun _ _ _ q => q) (fun _ _ q => q) b (.inScope c :: k) cs
        cases e with
        | normal => exact ⟨.normal, a₁, w₁, hq, Steps.trans harr (.one step_inScope)⟩
        | exit id => exact ⟨.exit id, a₁, w₁, hq, fun k' hk => harr k' (by simp [exitTo, hk])⟩
        | goto l' =>
          obtain ⟨rfl, n', hlt, hI'⟩ := hq
          obtain ⟨e₂, a₂, w₂, hq₂, harr₂⟩ := ih n' hlt a₁ w₁ hI'
          exact ⟨e₂, a₂, w₂, hq₂, .of_steps (Steps.trans (harr _ (hg k)) (.head step_seq (.one step_skip))) harr₂⟩
        | ret => exact ⟨_, a₁, w₁, hq, harr⟩
        | panic ch => exact ⟨_, a₁, w₁, hq, harr⟩
        | outgrown => exact ⟨_, a₁, w₁, hq, harr⟩
    refine wp_mono (pass n₀ a w h₀ I _ (fun _ _ _ q => q) (fun _ _ q => q)) ?_
    exact jump_mono fun a w ⟨n', _, hI'⟩ => key n' a w hI'
end
end Go.Proofs.YthcadjfkbkegcaaJump
