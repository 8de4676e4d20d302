/- The law KeyBetweens: for every list of pairs of texts it answers true: what is a key, and the key between two, are the reference's. No condition. -/
import Derived.Test.YthcadjfkbkegcaaPKeyx4
import Derived.Test.YthcadjfkbkegcaaKeyUse
namespace Go.Proofs.Ythcadjfkbkegcaa.Pure
open Go Go.RowKit Go.Proofs.Ythcadjfkbkegcaa.PKey Go.Proofs.YthcadjfkbkegcaaW.PrintWords Go.Proofs.YthcadjfkbkegcaaW.PrintLast
open Go.Proofs.YthcadjfkbkegcaaKeyMath Go.Proofs.YthcadjfkbkegcaaKeyPure

theorem rd33 (l : List S33) (i : Nat) (h : i < l.length) : rd_T33 l (i : Int) = l[i] := by
  unfold rd_T33
  rw [Int.toNat_natCast, List.getD_eq_getElem?_getD, List.getElem?_eq_getElem h]
  rfl
/-! ### the reference -/
theorem ref_at (a b : ByteArray) (acc : List Int) (left : Bool) (i : Nat) (hi : i < 64) (k : Nat) :
    arrasref8_Between.l0 (k + 1) a b acc left (i : Int) = arrasref8_Between.j1 k a b acc left (i : Int) ((hd (a.toList.drop i) : Nat) : Int) 256 := by
  rw [arrasref8_Between.l0, if_pos (by omega)]
  by_cases h : i < a.size
  · rw [if_pos (by omega), if_pos (by omega), bt_get a i h]
    have := hd_lt (a.toList.drop i)
    rw [wrapS _ (by omega) (by omega)]
  · rw [if_neg (by omega), List.drop_eq_nil_of_le (by rw [len_size]; omega)]
    rfl
theorem ref_step (m : Nat) (a b : ByteArray) (acc : L) (i : Nat) (left : Bool) (hi : i < 64) (hlen : (ints acc).length < 140737488355328) (hf : left = false → b.toList.drop i ≠ []) :
    arrasref8_Between.l0 (m + 2) a b (ints acc) left i = if hd (a.toList.drop i) + 2 ≤ hb (lft left b i) then some (mk (acc ++ [UInt8.ofNat (hd (a.toList.drop i) + (hb (lft left b i) - hd (a.toList.drop i)) / 2)]), true)
      else arrasref8_Between.l0 m a b (ints (acc ++ [UInt8.ofNat (hd (a.toList.drop i))])) (left || hb (lft left b i) == hd (a.toList.drop i) + 1) ((i + 1 : Nat) : Int) := by
  have hx := hd_lt (a.toList.drop i)
  have hy := hb_le (lft left b i)
  have hm : ((hd (a.toList.drop i) : Nat) : Int) % 256 = (hd (a.toList.drop i) : Nat) := by omega
  rw [ref_at a b _ _ i hi, arrasref8_Between.j1, wrapS ((i : Int) + 1) (by omega) (by omega)]
  cases left with
  | true =>
    have e : hb (lft true b i) = 256 := rfl
    rw [if_pos rfl, e, wrapS _ (by omega) (by omega)]
    by_cases hc : hd (a.toList.drop i) + 2 ≤ 256
    · rw [if_pos (by omega), if_pos hlen, if_pos hc, mid256 _ hc, ints_snoc _ _ (by omega), str_ints]
    · rw [if_neg (by omega), if_pos hlen, if_neg hc, hm, ints_snoc _ _ hx, Bool.true_or, icast]
  | false =>
    have e : lft false b i = some (b.toList.drop i) := rfl
    have hne := hf rfl
    have hib : i < b.size := by
      rcases Nat.lt_or_ge i b.size with h | h
      · exact h
      · exact absurd (List.drop_eq_nil_of_le (by rw [len_size]; exact h)) hne
    have eb : wrap64 (bt b (i : Int)) = ((hb (some (b.toList.drop i)) : Nat) : Int) := by
      rw [bt_get b i hib]
      have := hd_lt (b.toList.drop i)
      rw [wrapS _ (by omega) (by omega)]
      have h2 : i < b.toList.length := by rw [len_size]; exact hib
      rw [List.drop_eq_getElem_cons h2]
      rfl
    rw [e] at hy ⊢
    rw [if_neg (by decide), if_pos (by omega), if_pos (by omega), eb, wrapS (((hd (a.toList.drop i) : Nat) : Int) + 2) (by omega) (by omega), wrapS (((hd (a.toList.drop i) : Nat) : Int) + 1) (by omega) (by omega), beq_cast]
    by_cases hc : hd (a.toList.drop i) + 2 ≤ hb (some (b.toList.drop i))
    · rw [if_pos (by omega), if_pos hlen, if_pos hc, mid (hd (a.toList.drop i)) (hb (some (b.toList.drop i))) hx hy hc, ints_snoc _ _ (by omega), str_ints]
    · rw [if_neg (by omega), if_pos hlen, if_neg hc, hm, ints_snoc _ _ hx, Bool.false_or, icast]
def refRes : Option L → ByteArray × Bool
  | none => (⟨#[]⟩, false)
  | some s => (mk s, true)
theorem ref_loop (a b : ByteArray) (d : Nat) : ∀ (i : Nat) (acc : L) (left : Bool), i + d = 64 → acc.length = i → Fit (a.toList.drop i) (lft left b i) →
    Ev (fun k => arrasref8_Between.l0 k a b (ints acc) left i) (refRes ((go d (a.toList.drop i) (lft left b i)).map (acc ++ ·))) := by
  induction d with
  | zero =>
    intro i acc left hi hl _
    refine ⟨1, fun k hk => ?_⟩
    obtain ⟨m, rfl⟩ : ∃ m, k = m + 1 := ⟨k - 1, by omega⟩
    dsimp only
    rw [arrasref8_Between.l0, if_neg (by omega)]
    rfl
  | succ d ih =>
    intro i acc left hi hl hf
    have hlen : (ints acc).length < 140737488355328 := by rw [ints_len]; omega
    have hne : left = false → b.toList.drop i ≠ [] := by rintro rfl; exact fit_ne hf
    by_cases hc : hd (a.toList.drop i) + 2 ≤ hb (lft left b i)
    · refine ⟨2, fun k hk => ?_⟩
      obtain ⟨m, rfl⟩ : ∃ m, k = m + 2 := ⟨k - 2, by omega⟩
      dsimp only
      rw [ref_step m a b acc i left (by omega) hlen hne, if_pos hc, go_stop hc]
      rfl
    · have hf2 := fit_next hf hc
      rw [← lft_next, List.tail_drop] at hf2
      obtain ⟨K, hK⟩ := ih (i + 1) (acc ++ [UInt8.ofNat (hd (a.toList.drop i))]) (left || hb (lft left b i) == hd (a.toList.drop i) + 1) (by omega) (by simp [hl]) hf2
      refine ⟨K + 2, fun k hk => ?_⟩
      obtain ⟨m, rfl⟩ : ∃ m, k = m + 2 := ⟨k - 2, by omega⟩
      dsimp only
      have h2 := hK m (by omega)
      rw [lft_next, ← List.tail_drop] at h2
      rw [ref_step m a b acc i left (by omega) hlen hne, if_neg hc, go_next hc, Option.map_map]
      refine h2.trans ?_
      congr 2
      congr 1
      funext s
      simp
theorem ref_between (a b : ByteArray) (h : May a.toList b.toList) : Ev (fun k => arrasref8_Between.f k a b) (refRes (go 64 a.toList (bound b.toList))) := by
  have hf := may_fit h
  rw [← lft_bound] at hf
  obtain ⟨K, hK⟩ := ref_loop a b 64 0 [] (b.toList == []) (by omega) rfl (by rw [List.drop_zero]; exact hf)
  refine ⟨K, fun k hk => ?_⟩
  have h2 := hK k hk
  rw [lft_bound, List.drop_zero] at h2
  have e : (go 64 a.toList (bound b.toList)).map (([] : L) ++ ·) = go 64 a.toList (bound b.toList) := by
    cases go 64 a.toList (bound b.toList) <;> rfl
  rw [e] at h2
  exact h2
theorem may_between (a b : ByteArray) (ha : a.size < 9223372036854775807) (hb : b.size < 9223372036854775807) : ∃ r, arrasref8_MayBetween.f a b = some r ∧ (r = true ↔ May a.toList b.toList) := by
  obtain ⟨ra, ea, ha2⟩ := isKey a ha
  obtain ⟨rb, eb, hb2⟩ := isKey b hb
  unfold arrasref8_MayBetween.f
  rw [refKey, refKey, ea, eb]
  by_cases h1 : a.toList = []
  · rw [if_pos h1]
    by_cases h2 : b.toList = []
    · rw [if_pos h2]; exact ⟨true, rfl, fun _ => ⟨.inl h1, .inl h2, .inl h1⟩, fun _ => rfl⟩
    · rw [if_neg h2, Option.bind_some]
      cases rb with
      | true => rw [if_pos rfl]; exact ⟨true, rfl, fun _ => ⟨.inl h1, .inr (hb2.mp rfl), .inl h1⟩, fun _ => rfl⟩
      | false =>
        rw [if_neg (by decide)]
        refine ⟨false, rfl, fun h => (by cases h), ?_⟩
        rintro ⟨_, h | h, _⟩
        · exact absurd h h2
        · exact hb2.mpr h
  · rw [if_neg h1, Option.bind_some]
    cases ra with
    | false =>
      rw [if_neg (by decide)]
      refine ⟨false, rfl, fun h => (by cases h), ?_⟩
      rintro ⟨h | h, _, _⟩
      · exact absurd h h1
      · exact ha2.mpr h
    | true =>
      rw [if_pos rfl]
      by_cases h2 : b.toList = []
      · rw [if_pos h2]; exact ⟨true, rfl, fun _ => ⟨.inr (ha2.mp rfl), .inl h2, .inr (.inl h2)⟩, fun _ => rfl⟩
      · rw [if_neg h2, Option.bind_some]
        cases rb with
        | false =>
          rw [if_neg (by decide)]
          refine ⟨false, rfl, fun h => (by cases h), ?_⟩
          rintro ⟨_, h | h, _⟩
          · exact absurd h h2
          · exact hb2.mpr h
        | true =>
          rw [if_pos rfl]
          refine ⟨_, rfl, fun h => ⟨.inr (ha2.mp rfl), .inr (hb2.mp rfl), .inr (.inr h)⟩, ?_⟩
          rintro ⟨_, _, h | h | h⟩
          · exact absurd h h1
          · exact absurd h h2
          · exact h

/-! ### the law -/
def ok (a : ByteArray) : Prop := a.size < 9223372036854775807
theorem bet_j3 (l x4 : List S33) (i j : Nat) (hj : j < 4) (a b : ByteArray) (bad : Int) (want : ByteArray) (K0 : Nat) (hk : ∀ k, K0 ≤ k → key_Between.f k a b = some (want, bad))
    (next : Ev (fun k => arraslaw8_KeyBetweens.l1 k l (i : Int) x4 ((j + 1 : Nat) : Int)) true) : Ev (fun k => arraslaw8_KeyBetweens.j3 k l (i : Int) x4 (j : Int) bad want a b) true := by
  have e : wrap64 ((j : Int) + 1) = ((j + 1 : Nat) : Int) := by rw [wrapS _ (by omega) (by omega)]; omega
  obtain ⟨K, hK⟩ := next
  refine ⟨max K0 K + 1, fun k hk' => ?_⟩
  obtain ⟨m, rfl⟩ : ∃ m, k = m + 1 := ⟨k - 1, by omega⟩
  dsimp only
  rw [arraslaw8_KeyBetweens.j3, hk m (by omega), Option.bind_some, num_ev, Option.bind_some, if_pos rfl, if_pos rfl, e]
  exact hK m (by omega)
theorem bet_l1 (l x4 : List S33) (i : Nat) (h4 : x4.length = 4) (hok : ∀ p ∈ x4, ok p.f0 ∧ ok p.f1) (next : Ev (fun k => arraslaw8_KeyBetweens.l0 k l (wrap64 ((i : Int) + 1))) true) (d : Nat) :
    ∀ (j : Nat), j + d = 4 → Ev (fun k => arraslaw8_KeyBetweens.l1 k l (i : Int) x4 (j : Int)) true := by
  induction d with
  | zero =>
    intro j hj
    obtain ⟨K, hK⟩ := next
    refine ⟨K + 1, fun k hk' => ?_⟩
    obtain ⟨m, rfl⟩ : ∃ m, k = m + 1 := ⟨k - 1, by omega⟩
    dsimp only
    rw [arraslaw8_KeyBetweens.l1, if_neg (by omega)]
    exact hK m (by omega)
  | succ d ih =>
    intro j hj
    have hlt : j < x4.length := by omega
    obtain ⟨oa, ob⟩ := hok _ (List.getElem_mem hlt)
    generalize hp : x4[j] = p at oa ob
    obtain ⟨a, b⟩ := p
    have hnext := ih (j + 1) (by omega)
    obtain ⟨ra, ea, ha2⟩ := isKey a oa
    have hchk : ∃ c : Int, key_Check.f a = some c ∧ ((c == 0) != ra) = false := by
      unfold key_Check.f
      rw [ea, Option.bind_some]
      cases ra with
      | true => exact ⟨0, rfl, rfl⟩
      | false => exact ⟨1, rfl, rfl⟩
    obtain ⟨c, hc1, hc2⟩ := hchk
    obtain ⟨rm, em, hm⟩ := may_between a b oa ob
    cases rm with
    | true =>
      have hmay := hm.mp rfl
      obtain ⟨K1, hK1⟩ := ref_between a b hmay
      rcases between_may hmay with ⟨s, hg, K2, hK2⟩ | ⟨hg, K2, hK2⟩
      · obtain ⟨K3, hK3⟩ := bet_j3 l x4 i j (by omega) a b 0 (mk s) K2 hK2 hnext
        refine ⟨max K1 K3 + 1, fun k hk' => ?_⟩
        obtain ⟨m, rfl⟩ : ∃ m, k = m + 1 := ⟨k - 1, by omega⟩
        dsimp only
        have g1 := hK1 m (by omega)
        rw [hg] at g1
        dsimp only [refRes] at g1
        rw [arraslaw8_KeyBetweens.l1, if_pos (by omega), if_pos (by omega), rd33 x4 j hlt, hp, hc1, Option.bind_some, num_ev, Option.bind_some, refKey, ea, Option.bind_some, if_neg (by rw [hc2]; decide), em, Option.bind_some, if_pos rfl, g1, Option.bind_some, if_pos rfl]
        exact hK3 m (by omega)
      · obtain ⟨K3, hK3⟩ := bet_j3 l x4 i j (by omega) a b 5 ⟨#[]⟩ K2 hK2 hnext
        refine ⟨max K1 K3 + 1, fun k hk' => ?_⟩
        obtain ⟨m, rfl⟩ : ∃ m, k = m + 1 := ⟨k - 1, by omega⟩
        dsimp only
        have g1 := hK1 m (by omega)
        rw [hg] at g1
        dsimp only [refRes] at g1
        rw [arraslaw8_KeyBetweens.l1, if_pos (by omega), if_pos (by omega), rd33 x4 j hlt, hp, hc1, Option.bind_some, num_ev, Option.bind_some, refKey, ea, Option.bind_some, if_neg (by rw [hc2]; decide), em, Option.bind_some, if_pos rfl, g1, Option.bind_some, if_neg (by decide)]
        exact hK3 m (by omega)
    | false =>
      rcases between a b oa ob with ⟨h, _⟩ | ⟨h, K2, hK2⟩
      · have := hm.mpr h; cases this
      · obtain ⟨K3, hK3⟩ := bet_j3 l x4 i j (by omega) a b 1 ⟨#[]⟩ K2 hK2 hnext
        refine ⟨K3 + 1, fun k hk' => ?_⟩
        obtain ⟨m, rfl⟩ : ∃ m, k = m + 1 := ⟨k - 1, by omega⟩
        dsimp only
        rw [arraslaw8_KeyBetweens.l1, if_pos (by omega), if_pos (by omega), rd33 x4 j hlt, hp, hc1, Option.bind_some, num_ev, Option.bind_some, refKey, ea, Option.bind_some, if_neg (by rw [hc2]; decide), em, Option.bind_some, if_neg (by decide)]
        exact hK3 m (by omega)

theorem bet_l0 (l : List S33) (hB : ∀ y ∈ l, y.f0.size ≤ 140737488351232 ∧ y.f1.size ≤ 140737488351232) (d : Nat) : ∀ (i : Nat), i + d = min l.length 25 → Ev (fun k => arraslaw8_KeyBetweens.l0 k l (i : Int)) true := by
  induction d with
  | zero =>
    intro i hi
    obtain ⟨K, hK⟩ := wakes
    refine ⟨K + 2, fun k hk' => ?_⟩
    obtain ⟨m, rfl⟩ : ∃ m, k = m + 1 + 1 := ⟨k - 2, by omega⟩
    dsimp only
    have h := hK m (by omega)
    dsimp only at h
    rw [arraslaw8_KeyBetweens.l0]
    by_cases hl : (i : Int) < (l.length : Int)
    · rw [if_pos hl, decide_eq_false (by omega), arraslaw8_KeyBetweens.j1, if_neg (by decide), h]; rfl
    · rw [if_neg hl, arraslaw8_KeyBetweens.j1, if_neg (by decide), h]; rfl
  | succ d ih =>
    intro i hi
    have hlt : i < l.length := by omega
    have hsz := hB _ (List.getElem_mem hlt)
    have e : wrap64 ((i : Int) + 1) = ((i + 1 : Nat) : Int) := by rw [wrapS _ (by omega) (by omega)]; omega
    have next := ih (i + 1) (by omega)
    rw [← e] at next
    have o0 : ok (l[i]).f0 := by unfold ok; omega
    have o1 : ok (l[i]).f1 := by unfold ok; omega
    have on : ok ⟨#[]⟩ := by unfold ok; decide
    have hl1 := bet_l1 l [⟨(l[i]).f0, (l[i]).f1⟩, ⟨(l[i]).f1, (l[i]).f0⟩, ⟨(l[i]).f0, ⟨#[]⟩⟩, ⟨⟨#[]⟩, (l[i]).f0⟩] i rfl (by
      intro p hp
      simp only [List.mem_cons, List.not_mem_nil, or_false] at hp
      rcases hp with rfl | rfl | rfl | rfl
      · exact ⟨o0, o1⟩
      · exact ⟨o1, o0⟩
      · exact ⟨o0, on⟩
      · exact ⟨on, o0⟩) next 4 0 (by omega)
    obtain ⟨K, hK⟩ := hl1
    refine ⟨K + 2, fun k hk' => ?_⟩
    obtain ⟨m, rfl⟩ : ∃ m, k = m + 1 + 1 := ⟨k - 2, by omega⟩
    dsimp only
    have h := hK m (by omega)
    rw [arraslaw8_KeyBetweens.l0, if_pos (by omega), decide_eq_true (by omega), arraslaw8_KeyBetweens.j1, if_pos rfl, if_pos (by omega), if_pos (by omega), rd33 l i hlt]
    unfold arraslaw8_heavy.f
    rw [Option.bind_some]
    split
    · rfl
    · exact h

theorem KeyBetweens (l : List S33) (_ : l.length * 32 ≤ 140737488351232) (hB : ∀ y ∈ l, y.f0.size ≤ 140737488351232 ∧ y.f1.size ≤ 140737488351232) : ∃ k, arraslaw8_KeyBetweens.f k l = some true := by
  obtain ⟨K, hK⟩ := bet_l0 l hB (min l.length 25) 0 (by omega)
  exact ⟨K, hK K (Nat.le_refl _)⟩
end Go.Proofs.Ythcadjfkbkegcaa.Pure
