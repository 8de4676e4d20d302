/- The law KeyMany: for every list of choices it answers true: placed again and again keys stay in their order, and each is a key. No condition. -/
import Derived.Test.YthcadjfkbkegcaaPKeyx6
import Derived.Test.YthcadjfkbkegcaaKeyUse
namespace Go.Proofs.Ythcadjfkbkegcaa.Pure
open Go Go.RowKit Go.Proofs.Ythcadjfkbkegcaa.PKey Go.Proofs.YthcadjfkbkegcaaW.PrintWords Go.Proofs.YthcadjfkbkegcaaW.PrintLast
open Go.Proofs.YthcadjfkbkegcaaKeyMath Go.Proofs.YthcadjfkbkegcaaKeyPure

/-- Keys, each above the one ahead of it. -/
def Row (ks : List ByteArray) : Prop := (∀ k ∈ ks, Key k.toList) ∧ ks.Pairwise fun a b => Op.bytesLess a.toList b.toList = true
theorem rdOf_get (ks : List ByteArray) (i : Nat) (h : i < ks.length) : rdOf ByteArray.empty ks (i : Int) = ks[i] := by
  unfold rdOf
  rw [Int.toNat_natCast, List.getD_eq_getElem?_getD, List.getElem?_eq_getElem h]
  rfl
theorem copy_loop (x : List ByteArray) (hx : x.length < 1000) (d : Nat) : ∀ (i : Nat), i + d = x.length →
    Ev (fun k => arrasref0_CopyStrings.l0 k x (x.take i) (i : Int)) x := by
  induction d with
  | zero =>
    intro i hi
    refine ⟨1, fun k hk => ?_⟩
    obtain ⟨m, rfl⟩ : ∃ m, k = m + 1 := ⟨k - 1, by omega⟩
    dsimp only
    rw [arrasref0_CopyStrings.l0, if_neg (by omega), List.take_of_length_le (by omega)]
  | succ d ih =>
    intro i hi
    obtain ⟨K, hK⟩ := ih (i + 1) (by omega)
    refine ⟨K + 1, fun k hk => ?_⟩
    obtain ⟨m, rfl⟩ : ∃ m, k = m + 1 := ⟨k - 1, by omega⟩
    dsimp only
    have hlt : i < x.length := by omega
    rw [arrasref0_CopyStrings.l0, if_pos (by omega), if_pos (by omega), if_pos (by rw [List.length_take]; omega), rdOf_get x i hlt, wrapS _ (by omega) (by omega), icast]
    have h := hK m (by omega)
    dsimp only at h
    rw [List.take_succ_eq_append_getElem hlt] at h
    exact h
theorem copy_strings (x : List ByteArray) (hx : x.length < 1000) : Ev (fun k => arrasref0_CopyStrings.f k x) x := by
  obtain ⟨K, hK⟩ := copy_loop x hx x.length 0 (by omega)
  exact ⟨K, fun k hk => hK k hk⟩

theorem check_loop (x : List ByteArray) (hr : Row x) (hx : x.length < 1000) (d : Nat) : ∀ (i : Nat), i + d = x.length →
    Ev (fun k => arraslaw8_KeyMany.l1 k x (i : Int)) true := by
  induction d with
  | zero =>
    intro i hi
    obtain ⟨K, hK⟩ := wakes
    refine ⟨K + 1, fun k hk => ?_⟩
    obtain ⟨m, rfl⟩ : ∃ m, k = m + 1 := ⟨k - 1, by omega⟩
    dsimp only
    have h := hK m (by omega)
    dsimp only at h
    rw [arraslaw8_KeyMany.l1, if_neg (by omega), h, Option.bind_some]
  | succ d ih =>
    intro i hi
    obtain ⟨K, hK⟩ := ih (i + 1) (by omega)
    refine ⟨K + 1, fun k hk => ?_⟩
    obtain ⟨m, rfl⟩ : ∃ m, k = m + 1 := ⟨k - 1, by omega⟩
    dsimp only
    have hlt : i < x.length := by omega
    have hkey := hr.1 _ (List.getElem_mem hlt)
    have hsz : (x[i]).size < 9223372036854775807 := by rw [← len_size]; have := hkey.2; omega
    obtain ⟨r, hr1, hr2⟩ := isKey (x[i]) hsz
    have hc : key_Check.f (x[i]) = some 0 := by unfold key_Check.f; rw [hr1, Option.bind_some, if_pos (hr2.mpr hkey)]
    have h := hK m (by omega)
    dsimp only at h
    rw [arraslaw8_KeyMany.l1, if_pos (by omega), if_pos (by omega), rdOf_get x i hlt, hc, Option.bind_some, num_ev, Option.bind_some, if_pos rfl, wrapS ((i : Int) + 1) (by omega) (by omega), icast]
    by_cases h0 : i = 0
    · subst h0; rw [if_neg (by omega)]; exact h
    · have e : wrap64 ((i : Int) - 1) = ((i - 1 : Nat) : Int) := by rw [wrapS _ (by omega) (by omega)]; omega
      rw [if_pos (by omega), e, if_pos (by omega), if_pos (by omega), rdOf_get x (i - 1) (by omega), if_pos (List.pairwise_iff_getElem.mp hr.2 (i - 1) i (by omega) hlt (by omega))]
      exact h

theorem row_put {ks : List ByteArray} (hr : Row ks) (t : Nat) (ht : t ≤ ks.length) (s : L) (hs : Key s) (hl : ∀ h : 0 < t, Op.bytesLess (ks[t - 1]'(by omega)).toList s = true)
    (hg : ∀ h : t < ks.length, Op.bytesLess s (ks[t]).toList = true) : Row (ks.take t ++ [mk s] ++ ks.drop t) := by
  have hp := List.pairwise_iff_getElem.mp hr.2
  refine ⟨?_, ?_⟩
  · intro k hk
    simp only [List.append_assoc, List.mem_append, List.mem_singleton] at hk
    rcases hk with hk | rfl | hk
    · exact hr.1 _ (List.mem_of_mem_take hk)
    · rw [mk_toList]; exact hs
    · exact hr.1 _ (List.mem_of_mem_drop hk)
  · rw [List.append_assoc, List.pairwise_append]
    have h1 : ∀ a ∈ ks.take t, Op.bytesLess a.toList s = true := by
      intro a ha
      obtain ⟨j, hj, rfl⟩ := List.mem_iff_getElem.mp ha
      rw [List.getElem_take]
      have hj2 : j < t := by rw [List.length_take] at hj; omega
      have h0 : 0 < t := by omega
      by_cases e : j = t - 1
      · subst e; exact hl h0
      · exact less_trans _ _ _ (hp j (t - 1) (by omega) (by omega) (by omega)) (hl h0)
    have h2 : ∀ b ∈ ks.drop t, Op.bytesLess s b.toList = true := by
      intro b hb
      obtain ⟨j, hj, rfl⟩ := List.mem_iff_getElem.mp hb
      rw [List.getElem_drop]
      have hj2 : t + j < ks.length := by rw [List.length_drop] at hj; omega
      have h0 : t < ks.length := by omega
      by_cases e : j = 0
      · subst e; exact hg h0
      · exact less_trans _ _ _ (hg h0) (hp t (t + j) (by omega) (by omega) (by omega))
    refine ⟨hr.2.sublist (List.take_sublist _ _), ?_, ?_⟩
    · rw [List.singleton_append, List.pairwise_cons]
      exact ⟨fun b hb => by rw [mk_toList]; exact h2 b hb, hr.2.sublist (List.drop_sublist _ _)⟩
    · intro a ha b hb
      simp only [List.singleton_append, List.mem_cons] at hb
      rcases hb with rfl | hb
      · rw [mk_toList]; exact h1 a ha
      · exact less_trans _ _ _ (h1 a ha) (h2 b hb)

theorem many_j3 (l : List Int) (ks : List ByteArray) (hr : Row ks) (i t : Nat) (hi : i < 60) (hk : ks.length ≤ i) (ht : t ≤ ks.length)
    (next : ∀ ks' : List ByteArray, Row ks' → ks'.length ≤ i + 1 → Ev (fun k => arraslaw8_KeyMany.l0 k l ks' ((i + 1 : Nat) : Int)) true)
    (a b : ByteArray) (ha : a = if h : 0 < t then ks[t - 1]'(by omega) else ⟨#[]⟩) (hb : b = if h : t < ks.length then ks[t] else ⟨#[]⟩) :
    Ev (fun k => arraslaw8_KeyMany.j3 k l ks (i : Int) (t : Int) a b) true := by
  have hp := List.pairwise_iff_getElem.mp hr.2
  have hm : May a.toList b.toList := by
    subst ha; subst hb
    refine ⟨?_, ?_, ?_⟩
    · split
      · exact .inr (hr.1 _ (List.getElem_mem _))
      · exact .inl nil_toList
    · split
      · exact .inr (hr.1 _ (List.getElem_mem _))
      · exact .inl nil_toList
    · split
      · split
        · exact .inr (.inr (hp (t - 1) t (by omega) (by omega) (by omega)))
        · exact .inr (.inl nil_toList)
      · exact .inl nil_toList
  have e : wrap64 ((i : Int) + 1) = ((i + 1 : Nat) : Int) := by rw [wrapS _ (by omega) (by omega)]; omega
  rcases between_may hm with ⟨s, hg, K, hK⟩ | ⟨hg, K, hK⟩
  · obtain ⟨h1, h2, h3⟩ := lies hm hg
    have hrow := row_put hr t ht s h1 (fun h => by rw [ha, dif_pos h] at h2; exact h2) (fun h => by
      rw [hb, dif_pos h] at h3
      refine h3.resolve_left ?_
      exact ends_ne (hr.1 _ (List.getElem_mem _)).1)
    obtain ⟨K2, hK2⟩ := next _ hrow (by simp [List.length_take, List.length_drop]; omega)
    obtain ⟨K3, hK3⟩ := copy_strings (ks.take t) (by rw [List.length_take]; omega)
    refine ⟨max (max K K2) K3 + 1, fun k hk' => ?_⟩
    obtain ⟨m, rfl⟩ : ∃ m, k = m + 1 := ⟨k - 1, by omega⟩
    dsimp only
    have g1 := hK m (by omega)
    have g2 := hK2 m (by omega)
    have g3 := hK3 m (by omega)
    dsimp only at g1 g2 g3
    rw [arraslaw8_KeyMany.j3, g1, Option.bind_some, num_ev, Option.bind_some]
    dsimp only
    rw [if_neg (show ¬ ((0 : Int) = 5) by decide), if_pos rfl, if_pos (by omega), if_pos (by omega), Int.toNat_natCast, g3, Option.bind_some, if_pos (by rw [List.length_take]; omega), Option.bind_some, Option.bind_some,
      if_pos (by simp [List.length_take, List.length_drop]; omega), e]
    exact g2
  · obtain ⟨K2, hK2⟩ := next ks hr (by omega)
    refine ⟨max K K2 + 1, fun k hk' => ?_⟩
    obtain ⟨m, rfl⟩ : ∃ m, k = m + 1 := ⟨k - 1, by omega⟩
    dsimp only
    have g1 := hK m (by omega)
    have g2 := hK2 m (by omega)
    dsimp only at g1 g2
    rw [arraslaw8_KeyMany.j3, g1, Option.bind_some, num_ev, Option.bind_some]
    dsimp only
    rw [if_pos rfl, e]
    exact g2

theorem many_l0 (l : List Int) (d : Nat) : ∀ (i : Nat) (ks : List ByteArray), i + d = min l.length 60 → Row ks → ks.length ≤ i →
    Ev (fun k => arraslaw8_KeyMany.l0 k l ks (i : Int)) true := by
  induction d with
  | zero =>
    intro i ks hi hr hk
    obtain ⟨K, hK⟩ := check_loop ks hr (by omega) ks.length 0 (by omega)
    refine ⟨K + 2, fun k hk' => ?_⟩
    obtain ⟨m, rfl⟩ : ∃ m, k = m + 1 + 1 := ⟨k - 2, by omega⟩
    dsimp only
    have h := hK m (by omega)
    rw [arraslaw8_KeyMany.l0]
    by_cases hl : (i : Int) < (l.length : Int)
    · rw [if_pos hl, decide_eq_false (by omega), arraslaw8_KeyMany.j1, if_neg (by decide)]; exact h
    · rw [if_neg hl, arraslaw8_KeyMany.j1, if_neg (by decide)]; exact h
  | succ d ih =>
    intro i ks hi hr hk
    obtain ⟨t, ht, h0, h1⟩ := within (rd l i) ((ks.length : Int) + 1) (by omega) (by omega)
    obtain ⟨t, rfl⟩ : ∃ n : Nat, t = n := ⟨t.toNat, by omega⟩
    have e : wrap64 ((ks.length : Int) + 1) = (ks.length : Int) + 1 := wrapS _ (by omega) (by omega)
    obtain ⟨K, hK⟩ := many_j3 l ks hr i t (by omega) hk (by omega) (fun ks' h h' => ih (i + 1) ks' (by omega) h h') _ _ rfl rfl
    refine ⟨K + 3, fun k hk' => ?_⟩
    obtain ⟨m, rfl⟩ : ∃ m, k = m + 1 + 1 + 1 := ⟨k - 3, by omega⟩
    dsimp only
    have h := hK m (by omega)
    dsimp only at h
    rw [arraslaw8_KeyMany.l0, if_pos (by omega), decide_eq_true (by omega), arraslaw8_KeyMany.j1, if_pos rfl, if_pos (by omega), if_pos (by omega), e, ht, Option.bind_some]
    have step2 : ∀ a : ByteArray, a = (if h : 0 < t then ks[t - 1]'(by omega) else ⟨#[]⟩) → arraslaw8_KeyMany.j2 (m + 1) l ks (i : Int) (t : Int) a (⟨#[]⟩ : ByteArray) = some true := by
      intro a ha
      rw [← ha] at h
      rw [arraslaw8_KeyMany.j2]
      by_cases h3 : t < ks.length
      · rw [if_pos (by omega), if_pos (by omega), rdOf_get ks t h3]
        rw [dif_pos h3] at h
        exact h
      · rw [if_neg (by omega)]
        rw [dif_neg h3] at h
        exact h
    by_cases h4 : 0 < t
    · have e2 : wrap64 ((t : Int) - 1) = ((t - 1 : Nat) : Int) := by rw [wrapS _ (by omega) (by omega)]; omega
      rw [if_pos (by omega), e2, if_pos (by omega), if_pos (by omega), rdOf_get ks (t - 1) (by omega)]
      exact step2 _ (by rw [dif_pos h4])
    · rw [if_neg (by omega)]
      exact step2 _ (by rw [dif_neg h4])

theorem KeyMany : arraslaw8_KeyMany.Pure := by
  intro l _ _ _
  obtain ⟨K, hK⟩ := many_l0 l (min l.length 60) 0 [] (by omega) ⟨(by intro k h; cases h), List.Pairwise.nil⟩ (by simp)
  exact ⟨K, hK K (Nat.le_refl _)⟩

end Go.Proofs.Ythcadjfkbkegcaa.Pure
