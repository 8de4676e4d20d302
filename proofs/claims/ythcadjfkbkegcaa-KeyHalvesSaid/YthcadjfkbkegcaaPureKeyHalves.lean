/- The law KeyHalves: for every list of numbers it answers true: from either side there is room for 384 keys and more. No condition. -/
import Derived.Test.YthcadjfkbkegcaaPKeyx2
import Derived.Test.YthcadjfkbkegcaaKeyUse
namespace Go.Proofs.Ythcadjfkbkegcaa.Pure
open Go Go.RowKit Go.Proofs.Ythcadjfkbkegcaa.PKey Go.Proofs.YthcadjfkbkegcaaW.PrintWords Go.Proofs.YthcadjfkbkegcaaW.PrintLast
open Go.Proofs.YthcadjfkbkegcaaKeyMath Go.Proofs.YthcadjfkbkegcaaKeyPure

theorem halves_j2 (l : List Int) (x3 : Int) (a b s : ByteArray) (c : Nat) (hc : c < 2000) : ∃ left : Bool, ∀ k,
    arraslaw8_KeyHalves.j2 (k + 1) l x3 a b c c s false = arraslaw8_KeyHalves.l1 k l x3 (if left then s else a) (if left then b else s) ((c + 1 : Nat) : Int) ((c + 1 : Nat) : Int) := by
  have e : wrap64 ((c : Int) + 1) = ((c + 1 : Nat) : Int) := by rw [wrapS _ (by omega) (by omega)]; omega
  by_cases h0 : x3 = 0
  · exact ⟨true, fun k => by rw [arraslaw8_KeyHalves.j2, if_neg (by decide), if_pos h0, e]; rfl⟩
  · by_cases h2 : x3 = 2
    · by_cases hl : (c : Int) < (l.length : Int)
      · obtain ⟨t, ht, _⟩ := within (rd l c) 2 (by omega) (by omega)
        by_cases h5 : t = 0
        · exact ⟨true, fun k => by rw [arraslaw8_KeyHalves.j2, if_neg (by decide), if_neg h0, if_pos h2, if_pos hl, if_pos (by omega), ht, Option.bind_some, if_pos h5, e]; rfl⟩
        · exact ⟨false, fun k => by rw [arraslaw8_KeyHalves.j2, if_neg (by decide), if_neg h0, if_pos h2, if_pos hl, if_pos (by omega), ht, Option.bind_some, if_neg h5, e]; rfl⟩
      · exact ⟨false, fun k => by rw [arraslaw8_KeyHalves.j2, if_neg (by decide), if_neg h0, if_pos h2, if_neg hl, e]; rfl⟩
    · exact ⟨false, fun k => by rw [arraslaw8_KeyHalves.j2, if_neg (by decide), if_neg h0, if_neg h2, e]; rfl⟩

theorem halves_l1 (l : List Int) (x3 : Int) (next : Ev (fun k => arraslaw8_KeyHalves.l0 k l (wrap64 (x3 + 1))) true) (d : Nat) :
    ∀ (c : Nat) (a b : ByteArray), c + d = 2000 → May a.toList b.toList → (c ≤ 384 → At c a.toList (bound b.toList)) →
      Ev (fun k => arraslaw8_KeyHalves.l1 k l x3 a b (c : Int) (c : Int)) true := by
  obtain ⟨Kn, hn⟩ := next
  induction d with
  | zero =>
    intro c a b hc _ _
    refine ⟨Kn + 1, fun k hk => ?_⟩
    obtain ⟨m, rfl⟩ : ∃ m, k = m + 1 := ⟨k - 1, by omega⟩
    dsimp only
    rw [arraslaw8_KeyHalves.l1, if_neg (by omega), if_neg (by omega)]
    exact hn m (by omega)
  | succ d ih =>
    intro c a b hc hm hat
    rcases between_may hm with ⟨s, hg, K, hK⟩ | ⟨hg, K, hK⟩
    · obtain ⟨hkey, habove, hbelow⟩ := lies hm hg
      obtain ⟨left, hj⟩ := halves_j2 l x3 a b (mk s) c (by omega)
      have hs := ends_ne hkey.1
      have hnext : Ev (fun k => arraslaw8_KeyHalves.l1 k l x3 (if left then mk s else a) (if left then b else mk s) ((c + 1 : Nat) : Int) ((c + 1 : Nat) : Int)) true := by
        cases left with
        | true =>
          simp only [if_true]
          refine ih (c + 1) (mk s) b (by omega) (by rw [mk_toList]; exact may_left hm hg) (fun h => ?_)
          obtain ⟨s', hg', h1, _⟩ := (hat (by omega)).put
          have : s' = s := Option.some.inj ((go_more hg' 64 (by omega)).symm.trans hg)
          subst this
          rw [mk_toList]; exact h1
        | false =>
          simp only [Bool.false_eq_true, if_false]
          refine ih (c + 1) a (mk s) (by omega) (by rw [mk_toList]; exact may_right hm hg) (fun h => ?_)
          obtain ⟨s', hg', _, h1⟩ := (hat (by omega)).put
          have : s' = s := Option.some.inj ((go_more hg' 64 (by omega)).symm.trans hg)
          subst this
          rw [mk_toList, bound_some hs]; exact h1
      obtain ⟨K2, hK2⟩ := hnext
      refine ⟨max K K2 + 2, fun k hk => ?_⟩
      obtain ⟨m, rfl⟩ : ∃ m, k = m + 1 + 1 := ⟨k - 2, by omega⟩
      dsimp only
      rw [arraslaw8_KeyHalves.l1, if_pos (by omega)]
      have h1 := hK (m + 1) (by omega)
      dsimp only at h1
      rw [h1, Option.bind_some, num_ev, Option.bind_some]
      dsimp only
      rw [if_neg (show ¬ ((0 : Int) = 5) by decide), Option.bind_some, if_pos rfl, mk_toList, if_pos habove]
      have h2 := hK2 m (by omega)
      by_cases e : b.toList = []
      · rw [if_pos e, hj]; exact h2
      · rw [if_neg e, hbelow.resolve_left e, Bool.not_true, hj]; exact h2
    · refine ⟨max K Kn + 1, fun k hk => ?_⟩
      obtain ⟨m, rfl⟩ : ∃ m, k = m + 1 := ⟨k - 1, by omega⟩
      have hlt : ¬ c < 384 := by
        intro h
        obtain ⟨s', hg', _⟩ := (hat (by omega)).put
        have := (go_more hg' 64 (by omega)).symm.trans hg
        cases this
      dsimp only
      rw [arraslaw8_KeyHalves.l1, if_pos (by omega)]
      have h1 := hK m (by omega)
      dsimp only at h1
      rw [h1, Option.bind_some, num_ev, Option.bind_some, if_pos rfl, if_neg (by omega)]
      exact hn m (by omega)

theorem halves_l0 (l : List Int) (d : Nat) : ∀ (x3 : Nat), x3 + d = 3 → Ev (fun k => arraslaw8_KeyHalves.l0 k l (x3 : Int)) true := by
  induction d with
  | zero =>
    intro x3 h
    obtain ⟨K, hK⟩ := wakes
    refine ⟨K + 1, fun k hk => ?_⟩
    obtain ⟨m, rfl⟩ : ∃ m, k = m + 1 := ⟨k - 1, by omega⟩
    dsimp only
    have h1 := hK m (by omega)
    dsimp only at h1
    rw [arraslaw8_KeyHalves.l0, if_neg (by omega), h1]; rfl
  | succ d ih =>
    intro x3 h
    have hnext := ih (x3 + 1) (by omega)
    have e : wrap64 ((x3 : Int) + 1) = ((x3 + 1 : Nat) : Int) := by rw [wrapS _ (by omega) (by omega)]; omega
    rw [← e] at hnext
    have h1 := halves_l1 l x3 hnext 2000 0 ⟨#[]⟩ ⟨#[]⟩ (by omega) (by rw [nil_toList]; exact may_nil) (fun _ => by rw [nil_toList]; exact at_start)
    obtain ⟨K, hK⟩ := h1
    refine ⟨K + 1, fun k hk => ?_⟩
    obtain ⟨m, rfl⟩ : ∃ m, k = m + 1 := ⟨k - 1, by omega⟩
    dsimp only
    rw [arraslaw8_KeyHalves.l0, if_pos (by omega)]
    exact hK m (by omega)

theorem KeyHalves : arraslaw8_KeyHalves.Pure := by
  intro l _ _ _
  obtain ⟨K, hK⟩ := halves_l0 l 3 0 (by omega)
  exact ⟨K, hK K (Nat.le_refl _)⟩

end Go.Proofs.Ythcadjfkbkegcaa.Pure
