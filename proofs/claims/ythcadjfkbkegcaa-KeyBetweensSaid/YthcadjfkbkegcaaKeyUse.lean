/- key.Between and wakes, in the form in which the laws use them. -/
import Derived.Test.YthcadjfkbkegcaaKeyPure
namespace Go.Proofs.YthcadjfkbkegcaaKeyPure
open Go Go.RowKit Go.Proofs.Ythcadjfkbkegcaa.PKey Go.Proofs.YthcadjfkbkegcaaW.PrintWords Go.Proofs.YthcadjfkbkegcaaW.PrintLast Go.Proofs.YthcadjfkbkegcaaKeyMath
theorem nil_toList : (⟨#[]⟩ : ByteArray).toList = [] := mk_toList []
theorem may_sizes {a b : ByteArray} (h : May a.toList b.toList) : a.size ≤ 64 ∧ b.size ≤ 64 := by
  obtain ⟨h1, h2, _⟩ := h
  constructor
  · rcases h1 with h1 | h1
    · rw [← len_size, h1]; exact Nat.zero_le _
    · rw [← len_size]; exact h1.2
  · rcases h2 with h1 | h1
    · rw [← len_size, h1]; exact Nat.zero_le _
    · rw [← len_size]; exact h1.2
theorem between_may {a b : ByteArray} (h : May a.toList b.toList) : (∃ s, go 64 a.toList (bound b.toList) = some s ∧ Ev (fun k => key_Between.f k a b) (mk s, 0)) ∨
    (go 64 a.toList (bound b.toList) = none ∧ Ev (fun k => key_Between.f k a b) (⟨#[]⟩, 5)) := by
  have hs := may_sizes h
  rcases between a b (by omega) (by omega) with ⟨_, h2⟩ | ⟨h2, _⟩
  · cases hg : go 64 a.toList (bound b.toList) with
    | none => rw [hg] at h2; exact .inr ⟨rfl, h2⟩
    | some s => rw [hg] at h2; exact .inl ⟨s, rfl, h2⟩
  · exact absurd h h2
theorem may_nil : May [] [] := ⟨.inl rfl, .inl rfl, .inl rfl⟩
theorem bound_some {s : L} (h : s ≠ []) : bound s = some s := if_neg h
theorem may_left {a b s : L} (h : May a b) (hg : go 64 a (bound b) = some s) : May s b := by
  obtain ⟨h1, _, h3⟩ := lies h hg
  refine ⟨.inr h1, h.2.1, ?_⟩
  rcases h3 with h3 | h3
  · exact .inr (.inl h3)
  · exact .inr (.inr h3)
theorem may_right {a b s : L} (h : May a b) (hg : go 64 a (bound b) = some s) : May a s := by
  obtain ⟨h1, h2, _⟩ := lies h hg
  exact ⟨h.1, .inr h1, .inr (.inr h2)⟩
theorem wakes : Ev (fun k => arraslaw8_wakes.f k) true := by
  have h : May (⟨#[]⟩ : ByteArray).toList (⟨#[]⟩ : ByteArray).toList := by rw [nil_toList]; exact may_nil
  rcases between_may h with ⟨s, hg, K, hK⟩ | ⟨hg, _⟩
  · rw [nil_toList] at hg
    have e : s = [128] := Option.some.inj (hg.symm.trans go_first)
    subst e
    refine ⟨K, fun k hk => ?_⟩
    have h1 := hK k hk
    dsimp only at h1 ⊢
    unfold arraslaw8_wakes.f
    rw [h1, Option.bind_some]
    unfold arraslaw8_num.f
    rw [Option.bind_some, if_pos rfl]
    have e2 : strOfNums ([128] : List Int) = mk [128] := str_ints [128]
    rw [e2, beq_self_eq_true]
  · rw [nil_toList] at hg
    have := hg.symm.trans go_first
    cases this
theorem num_ev (n : Int) : arraslaw8_num.f n = some n := rfl
theorem mk_size (s : L) : (mk s).size = s.length := by rw [← len_size, mk_toList]
/-- Within answers. -/
theorem within (x n : Int) (hn : 0 < n) (hm : n ≤ 9223372036854775807) : ∃ t, arraslaw0_Within.f x n = some t ∧ 0 ≤ t ∧ t < n := by
  unfold arraslaw0_Within.f
  have e : IntKind.u64.wrap n = n := by simp [IntKind.wrap, IntKind.bits, IntKind.signed]; omega
  rw [e, if_neg (by omega)]
  refine ⟨_, rfl, ?_⟩
  have h0 : 0 ≤ IntKind.u64.wrap x := by simp [IntKind.wrap, IntKind.bits, IntKind.signed]; omega
  have h1 : Int.tmod (IntKind.u64.wrap x) n = IntKind.u64.wrap x % n := Int.tmod_eq_emod_of_nonneg h0
  have h2 := Int.emod_nonneg (IntKind.u64.wrap x) (show n ≠ 0 by omega)
  have h3 := Int.emod_lt_of_pos (IntKind.u64.wrap x) hn
  rw [h1, wrapS _ (by omega) (by omega)]
  exact ⟨h2, h3⟩
end Go.Proofs.YthcadjfkbkegcaaKeyPure
