/- The law KeyLies: for every list of pairs of texts it answers true: what key.Between tells is a key and lies between. No condition. -/
import Derived.Test.YthcadjfkbkegcaaPKeyx5
import Derived.Test.YthcadjfkbkegcaaKeyUse
namespace Go.Proofs.Ythcadjfkbkegcaa.Pure
open Go Go.RowKit Go.Proofs.Ythcadjfkbkegcaa.PKey Go.Proofs.YthcadjfkbkegcaaW.PrintWords Go.Proofs.YthcadjfkbkegcaaW.PrintLast
open Go.Proofs.YthcadjfkbkegcaaKeyMath Go.Proofs.YthcadjfkbkegcaaKeyPure

theorem rd33 (l : List S33) (i : Nat) (h : i < l.length) : rd_T33 l (i : Int) = l[i] := by
  unfold rd_T33
  rw [Int.toNat_natCast, List.getD_eq_getElem?_getD, List.getElem?_eq_getElem h]
  rfl
theorem lies_j2 (l : List S33) (i : Nat) (hi : i < 25) (a b : ByteArray) (ha : a.size < 9223372036854775807) (hb : b.size < 9223372036854775807)
    (next : Ev (fun k => arraslaw8_KeyLies.l0 k l ((i + 1 : Nat) : Int)) true) : Ev (fun k => arraslaw8_KeyLies.j2 k l (i : Int) a b) true := by
  have e : wrap64 ((i : Int) + 1) = ((i + 1 : Nat) : Int) := by rw [wrapS _ (by omega) (by omega)]; omega
  obtain ⟨K2, hK2⟩ := next
  rcases between a b ha hb with ⟨hm, K, hK⟩ | ⟨hm, K, hK⟩
  · cases hg : go 64 a.toList (bound b.toList) with
    | none =>
      refine ⟨max K K2 + 1, fun k hk' => ?_⟩
      obtain ⟨m, rfl⟩ : ∃ m, k = m + 1 := ⟨k - 1, by omega⟩
      dsimp only
      have g1 := hK m (by omega)
      have g2 := hK2 m (by omega)
      rw [hg] at g1
      dsimp only [res] at g1 g2
      rw [arraslaw8_KeyLies.j2, g1, Option.bind_some, num_ev, Option.bind_some]
      dsimp only
      rw [if_neg (show ¬ ((5 : Int) = 0) by decide), e]
      exact g2
    | some s =>
      obtain ⟨h1, h2, h3⟩ := lies hm hg
      have hs : (mk s).size < 9223372036854775807 := by rw [mk_size]; have := h1.2; omega
      obtain ⟨r, hr1, hr2⟩ := isKey (mk s) hs
      have hc : key_Check.f (mk s) = some 0 := by unfold key_Check.f; rw [hr1, Option.bind_some, if_pos (hr2.mpr (by rw [mk_toList]; exact h1))]
      refine ⟨max K K2 + 1, fun k hk' => ?_⟩
      obtain ⟨m, rfl⟩ : ∃ m, k = m + 1 := ⟨k - 1, by omega⟩
      dsimp only
      have g1 := hK m (by omega)
      have g2 := hK2 m (by omega)
      rw [hg] at g1
      dsimp only [res] at g1 g2
      rw [arraslaw8_KeyLies.j2, g1, Option.bind_some, num_ev, Option.bind_some]
      dsimp only
      rw [if_pos rfl, hc, Option.bind_some, num_ev, Option.bind_some, if_pos rfl, mk_toList, if_pos h2, e]
      by_cases hb0 : b.toList = []
      · rw [if_pos hb0]; exact g2
      · rw [if_neg hb0, if_pos (h3.resolve_left hb0)]; exact g2
  · refine ⟨max K K2 + 1, fun k hk' => ?_⟩
    obtain ⟨m, rfl⟩ : ∃ m, k = m + 1 := ⟨k - 1, by omega⟩
    dsimp only
    have g1 := hK m (by omega)
    have g2 := hK2 m (by omega)
    dsimp only at g1 g2
    rw [arraslaw8_KeyLies.j2, g1, Option.bind_some, num_ev, Option.bind_some]
    dsimp only
    rw [if_neg (show ¬ ((1 : Int) = 0) by decide), e]
    exact g2

theorem heavy_is (a b : ByteArray) : ∃ r, arraslaw8_heavy.f a b = some r := ⟨_, rfl⟩

theorem lies_l0 (l : List S33) (hB : ∀ y ∈ l, y.f0.size ≤ 140737488351232 ∧ y.f1.size ≤ 140737488351232) (d : Nat) : ∀ (i : Nat), i + d = min l.length 25 → Ev (fun k => arraslaw8_KeyLies.l0 k l (i : Int)) true := by
  induction d with
  | zero =>
    intro i hi
    obtain ⟨K, hK⟩ := wakes
    refine ⟨K + 2, fun k hk' => ?_⟩
    obtain ⟨m, rfl⟩ : ∃ m, k = m + 1 + 1 := ⟨k - 2, by omega⟩
    dsimp only
    have h := hK m (by omega)
    dsimp only at h
    rw [arraslaw8_KeyLies.l0]
    by_cases hl : (i : Int) < (l.length : Int)
    · rw [if_pos hl, decide_eq_false (by omega), arraslaw8_KeyLies.j1, if_neg (by decide), h]; rfl
    · rw [if_neg hl, arraslaw8_KeyLies.j1, if_neg (by decide), h]; rfl
  | succ d ih =>
    intro i hi
    have hlt : i < l.length := by omega
    have hsz := hB _ (List.getElem_mem hlt)
    obtain ⟨r, hr⟩ := heavy_is (l[i]).f0 (l[i]).f1
    have next := ih (i + 1) (by omega)
    have j1 := lies_j2 l i (by omega) (l[i]).f1 (l[i]).f0 (by omega) (by omega) next
    have j2 := lies_j2 l i (by omega) (l[i]).f0 (l[i]).f1 (by omega) (by omega) next
    obtain ⟨K1, hK1⟩ := j1
    obtain ⟨K2, hK2⟩ := j2
    refine ⟨max K1 K2 + 2, fun k hk' => ?_⟩
    obtain ⟨m, rfl⟩ : ∃ m, k = m + 1 + 1 := ⟨k - 2, by omega⟩
    dsimp only
    have h1 := hK1 m (by omega)
    have h2 := hK2 m (by omega)
    rw [arraslaw8_KeyLies.l0, if_pos (by omega), decide_eq_true (by omega), arraslaw8_KeyLies.j1, if_pos rfl, if_pos (by omega), if_pos (by omega), rd33 l i hlt, hr, Option.bind_some]
    cases r with
    | true => rw [if_pos rfl]
    | false =>
      rw [if_neg (by decide)]
      by_cases hl : Op.bytesLess (l[i]).f1.toList (l[i]).f0.toList = true
      · rw [if_pos hl]; exact h1
      · rw [if_neg hl]; exact h2

theorem KeyLies (l : List S33) (_ : l.length * 32 ≤ 140737488351232) (hB : ∀ y ∈ l, y.f0.size ≤ 140737488351232 ∧ y.f1.size ≤ 140737488351232) : ∃ k, arraslaw8_KeyLies.f k l = some true := by
  obtain ⟨K, hK⟩ := lies_l0 l hB (min l.length 25) 0 (by omega)
  exact ⟨K, hK K (Nat.le_refl _)⟩
end Go.Proofs.Ythcadjfkbkegcaa.Pure
