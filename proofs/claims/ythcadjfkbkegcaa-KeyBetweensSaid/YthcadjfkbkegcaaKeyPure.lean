/- What the program's functions on keys answer, told by the plain words of KeyMath. -/
import Derived.Test.YthcadjfkbkegcaaPKeyx1
import Derived.Test.YthcadjfkbkegcaaPKeyx2
import Derived.Test.YthcadjfkbkegcaaPKeyx3
import Derived.Test.YthcadjfkbkegcaaKeyMath
namespace Go.Proofs.YthcadjfkbkegcaaKeyPure
open Go Go.RowKit Go.Proofs.Ythcadjfkbkegcaa.PKey Go.Proofs.YthcadjfkbkegcaaW.PrintWords Go.Proofs.YthcadjfkbkegcaaW.PrintLast Go.Proofs.YthcadjfkbkegcaaKeyMath
def mk (s : L) : ByteArray := ⟨s.toArray⟩
def ints (s : L) : List Int := s.map fun u => (u.toNat : Int)
theorem mk_toList (s : L) : (mk s).toList = s := ByteArray.toList_mk s
theorem toList_inj {a b : ByteArray} (h : a.toList = b.toList) : a = b := by
  rw [ByteArray.toList_eq, ByteArray.toList_eq] at h
  cases a with | mk a => cases b with | mk b => exact congrArg _ (Array.toList_inj.mp h)
theorem mk_of (a : ByteArray) : mk a.toList = a := toList_inj (mk_toList _)
theorem len_size (a : ByteArray) : a.toList.length = a.size := by rw [ByteArray.toList_eq]; rfl
theorem str_ints (s : L) : strOfNums (ints s) = mk s := by
  unfold strOfNums ints mk
  rw [List.map_map]
  congr 2
  conv => rhs; rw [← List.map_id s]
  apply List.map_congr_left
  intro u _
  simp
theorem ints_snoc (s : L) (n : Nat) (h : n < 256) : ints s ++ [(n : Int)] = ints (s ++ [UInt8.ofNat n]) := by
  unfold ints
  rw [List.map_append, List.map_singleton, ofNat_toNat' n h]
theorem ints_len (s : L) : (ints s).length = s.length := by simp [ints]
theorem bt_get (a : ByteArray) (i : Nat) (h : i < a.size) : bt a (i : Int) = (hd (a.toList.drop i) : Nat) := by
  have h2 : i < a.toList.length := by rw [len_size]; exact h
  rw [List.drop_eq_getElem_cons h2]
  show bt a i = ((a.toList[i]).toNat : Int)
  unfold bt
  have h3 : ((i : Int).toNat) < a.size := by simpa using h
  rw [dif_pos h3]
  have : a.toList = a.data.toList := ByteArray.toList_eq a
  simp only [this, Int.toNat_natCast]
  rfl
theorem wrapS (n : Int) (h0 : -9223372036854775808 ≤ n) (h : n ≤ 9223372036854775807) : wrap64 n = n := by unfold wrap64; omega
theorem at_hd (a : ByteArray) (i : Nat) : key_at.f a i 0 = some ((hd (a.toList.drop i) : Nat) : Int) := by
  unfold key_at.f
  by_cases h : i < a.size
  · rw [if_pos (by omega), if_pos (by omega), bt_get a i h]
    have := hd_lt (a.toList.drop i)
    rw [wrapS _ (by omega) (by omega)]
  · rw [if_neg (by omega), List.drop_eq_nil_of_le (by rw [len_size]; omega)]
    rfl
theorem at_hb (a : ByteArray) (i : Nat) : key_at.f a i 256 = some ((hb (some (a.toList.drop i)) : Nat) : Int) := by
  unfold key_at.f
  by_cases h : i < a.size
  · have h2 : i < a.toList.length := by rw [len_size]; exact h
    rw [if_pos (by omega), if_pos (by omega), bt_get a i h]
    have := hd_lt (a.toList.drop i)
    rw [wrapS _ (by omega) (by omega)]
    rw [List.drop_eq_getElem_cons h2]
    rfl
  · rw [if_neg (by omega), List.drop_eq_nil_of_le (by rw [len_size]; omega)]
    rfl
theorem mid (x y : Nat) (hx : x < 256) (hy : y ≤ 256) (h : x + 2 ≤ y) : (wrap64 ((x : Int) + wrap64 (Int.tdiv (wrap64 ((y : Int) - x)) 2))) % 256 = ((x + (y - x) / 2 : Nat) : Int) := by
  rw [wrapS ((y : Int) - x) (by omega) (by omega), Int.tdiv_eq_ediv_of_nonneg (by omega)]
  rw [wrapS (((y : Int) - x) / 2) (by omega) (by omega), wrapS _ (by omega) (by omega)]
  omega
theorem mid256 (x : Nat) (h : x + 2 ≤ 256) : (wrap64 ((x : Int) + wrap64 (Int.tdiv (wrap64 (256 - (x : Int))) 2))) % 256 = ((x + (256 - x) / 2 : Nat) : Int) := by
  rw [wrapS (256 - (x : Int)) (by omega) (by omega), Int.tdiv_eq_ediv_of_nonneg (by omega)]
  rw [wrapS ((256 - (x : Int)) / 2) (by omega) (by omega), wrapS _ (by omega) (by omega)]
  omega
def res : Option L → ByteArray × Int
  | none => (⟨#[]⟩, 5)
  | some s => (mk s, 0)
def resAt (acc : L) (r : Option L) : ByteArray × Int := res (r.map (acc ++ ·))
def lft (left : Bool) (b : ByteArray) (i : Nat) : Option L := if left = true then none else some (b.toList.drop i)
theorem beq_cast (x y : Nat) : (((y : Nat) : Int) == ((x : Nat) : Int) + 1) = (y == x + 1) := by
  by_cases h : y = x + 1
  · subst h; simp
  · rw [beq_eq_false_iff_ne.mpr h]
    apply beq_eq_false_iff_ne.mpr
    omega
theorem icast (i : Nat) : ((i : Int) + 1) = ((i + 1 : Nat) : Int) := by omega
theorem l0_step (m : Nat) (a b : ByteArray) (acc : L) (i : Nat) (left : Bool) (hne : ¬ ((i : Int) = 64)) (hlen : (ints acc).length < 140737488355328) (hi : i < 1000) :
    key_Between.l0 (m + 1) a b (ints acc) i left = if hd (a.toList.drop i) + 2 ≤ hb (lft left b i) then some (mk (acc ++ [UInt8.ofNat (hd (a.toList.drop i) + (hb (lft left b i) - hd (a.toList.drop i)) / 2)]), 0)
      else key_Between.l0 m a b (ints (acc ++ [UInt8.ofNat (hd (a.toList.drop i))])) ((i + 1 : Nat) : Int) (left || hb (lft left b i) == hd (a.toList.drop i) + 1) := by
  have hx := hd_lt (a.toList.drop i)
  have hy := hb_le (lft left b i)
  have hm : ((hd (a.toList.drop i) : Nat) : Int) % 256 = (hd (a.toList.drop i) : Nat) := by omega
  rw [key_Between.l0, if_neg hne, at_hd]
  simp only [Option.bind_some]
  rw [wrapS ((i : Int) + 1) (by omega) (by omega)]
  cases left with
  | true =>
    have e : hb (lft true b i) = 256 := rfl
    rw [if_pos rfl, e, wrapS _ (by omega) (by omega)]
    by_cases hc : hd (a.toList.drop i) + 2 ≤ 256
    · rw [if_pos (by omega), if_pos hlen, if_pos hc, mid256 _ hc, ints_snoc _ _ (by omega), str_ints]
    · rw [if_neg (by omega), if_pos hlen, if_neg hc, hm, ints_snoc _ _ hx, Bool.true_or, icast]
  | false =>
    have e : lft false b i = some (b.toList.drop i) := rfl
    rw [e] at hy ⊢
    rw [if_neg (by decide), at_hb, Option.bind_some]
    rw [wrapS (((hd (a.toList.drop i) : Nat) : Int) + 2) (by omega) (by omega), wrapS (((hd (a.toList.drop i) : Nat) : Int) + 1) (by omega) (by omega), beq_cast]
    by_cases hc : hd (a.toList.drop i) + 2 ≤ hb (some (b.toList.drop i))
    · rw [if_pos (by omega), if_pos hlen, if_pos hc, mid (hd (a.toList.drop i)) (hb (some (b.toList.drop i))) hx hy hc, ints_snoc _ _ (by omega), str_ints]
    · rw [if_neg (by omega), if_pos hlen, if_neg hc, hm, ints_snoc _ _ hx, Bool.false_or, icast]
theorem lft_next (left : Bool) (b : ByteArray) (i x : Nat) : lft (left || hb (lft left b i) == x + 1) b (i + 1) = nx x (hb (lft left b i)) (lft left b i) := by
  unfold nx
  cases left with
  | true => simp [lft]
  | false =>
    by_cases e : hb (lft false b i) = x + 1
    · rw [if_pos e, e]; simp [lft]
    · rw [if_neg e, beq_eq_false_iff_ne.mpr e]; simp [lft]
theorem go_stop {n : Nat} {a : L} {b : Option L} (h : hd a + 2 ≤ hb b) : go (n + 1) a b = some [UInt8.ofNat (hd a + (hb b - hd a) / 2)] := by rw [go, if_pos h]
theorem go_next {n : Nat} {a : L} {b : Option L} (h : ¬ hd a + 2 ≤ hb b) : go (n + 1) a b = (go n a.tail (nx (hd a) (hb b) b)).map (UInt8.ofNat (hd a) :: ·) := by rw [go, if_neg h]
theorem resAt_cons (acc : L) (x : UInt8) (r : Option L) : resAt acc (r.map (x :: ·)) = resAt (acc ++ [x]) r := by
  unfold resAt
  cases r with
  | none => rfl
  | some s => simp
theorem between_loop (a b : ByteArray) (d : Nat) : ∀ (i : Nat) (acc : L) (left : Bool), i + d = 64 → acc.length = i →
    Ev (fun k => key_Between.l0 k a b (ints acc) i left) (resAt acc (go d (a.toList.drop i) (lft left b i))) := by
  induction d with
  | zero =>
    intro i acc left hi hl
    refine ⟨1, fun k hk => ?_⟩
    obtain ⟨m, rfl⟩ : ∃ m, k = m + 1 := ⟨k - 1, by omega⟩
    dsimp only
    rw [key_Between.l0, if_pos (by omega)]
    rfl
  | succ d ih =>
    intro i acc left hi hl
    have hne : ¬ ((i : Int) = 64) := by omega
    have hlen : (ints acc).length < 140737488355328 := by rw [ints_len]; omega
    by_cases hc : hd (a.toList.drop i) + 2 ≤ hb (lft left b i)
    · refine ⟨1, fun k hk => ?_⟩
      obtain ⟨m, rfl⟩ : ∃ m, k = m + 1 := ⟨k - 1, by omega⟩
      dsimp only
      rw [l0_step m a b acc i left hne hlen (by omega), if_pos hc, go_stop hc]
      rfl
    · obtain ⟨K, hK⟩ := ih (i + 1) (acc ++ [UInt8.ofNat (hd (a.toList.drop i))]) (left || hb (lft left b i) == hd (a.toList.drop i) + 1) (by omega) (by simp [hl])
      refine ⟨K + 1, fun k hk => ?_⟩
      obtain ⟨m, rfl⟩ : ∃ m, k = m + 1 := ⟨k - 1, by omega⟩
      dsimp only
      have h2 := hK m (by omega)
      rw [lft_next, ← List.tail_drop] at h2
      rw [l0_step m a b acc i left hne hlen (by omega), if_neg hc, go_next hc, resAt_cons]
      exact h2

def Key (l : L) : Prop := Ends8 l ∧ l.length ≤ 64
theorem bt_last (a : ByteArray) (h : a.toList ≠ []) : bt a ((a.size : Int) - 1) = ((a.toList.getLast h).toNat : Int) := by
  have h0 : 0 < a.size := by rw [← len_size]; exact List.length_pos_iff.mpr h
  rw [show (a.size : Int) - 1 = ((a.size - 1 : Nat) : Int) by omega, bt_get a _ (by omega)]
  have h2 : a.size - 1 < a.toList.length := by rw [len_size]; omega
  rw [List.drop_eq_getElem_cons h2, List.getLast_eq_getElem]
  simp only [hd, len_size]
theorem isKey (a : ByteArray) (hs : a.size < 9223372036854775807) : ∃ r, key_Is.f a = some r ∧ (r = true ↔ Key a.toList) := by
  unfold key_Is.f Key
  rw [len_size]
  by_cases h1 : (a.size : Int) ≥ 1
  · have hne : a.toList ≠ [] := by intro h; have := len_size a; rw [h] at this; simp at this; omega
    by_cases h2 : (a.size : Int) ≤ 64
    · rw [if_pos h1, if_pos h2, wrapS _ (by omega) (by omega), if_pos (by omega), if_pos (by omega), bt_last a hne]
      refine ⟨_, rfl, ?_⟩
      rw [ends_last _ hne, bne_iff_ne]
      constructor
      · intro h; exact ⟨fun h' => h (by rw [h']; rfl), by omega⟩
      · rintro ⟨h, _⟩ h'; exact h (UInt8.toNat_inj.mp (by simpa using h'))
    · rw [if_pos h1, if_neg h2]; exact ⟨_, rfl, by constructor; (intro h; cases h); (rintro ⟨_, h⟩; omega)⟩
  · rw [if_neg h1]
    refine ⟨_, rfl, ?_⟩
    constructor
    · intro h; cases h
    · rintro ⟨h, _⟩
      have := ends_ne h
      exact absurd (List.eq_nil_of_length_eq_zero (by rw [len_size]; omega)) this
theorem refKey (a : ByteArray) : arrasref8_Key.f a = key_Is.f a := rfl
/-- What may be asked of Between. -/
def May (a b : L) : Prop := (a = [] ∨ Key a) ∧ (b = [] ∨ Key b) ∧ (a = [] ∨ b = [] ∨ Op.bytesLess a b = true)
def bound (b : L) : Option L := if b = [] then none else some b
theorem j0_bad (a b : ByteArray) : Ev (fun k => key_Between.j0 k a b true) (⟨#[]⟩, 1) := by
  refine ⟨1, fun k hk => ?_⟩
  obtain ⟨m, rfl⟩ : ∃ m, k = m + 1 := ⟨k - 1, by omega⟩
  dsimp only
  rw [key_Between.j0, if_pos rfl]
theorem resAt_nil (r : Option L) : resAt [] r = res r := by
  unfold resAt
  cases r <;> rfl
theorem lft_bound (b : ByteArray) : lft (b.toList == []) b 0 = bound b.toList := by
  unfold bound lft
  by_cases e : b.toList = []
  · rw [if_pos e, if_pos (by rw [e]; rfl)]
  · rw [if_neg e, if_neg (by simpa using e)]; rfl
theorem j0_good (a b : ByteArray) : Ev (fun k => key_Between.j0 k a b false) (res (go 64 a.toList (bound b.toList))) := by
  obtain ⟨K, hK⟩ := between_loop a b 64 0 [] (b.toList == []) (by omega) rfl
  refine ⟨K + 1, fun k hk => ?_⟩
  obtain ⟨m, rfl⟩ : ∃ m, k = m + 1 := ⟨k - 1, by omega⟩
  dsimp only
  rw [key_Between.j0, if_neg (by decide)]
  have h2 := hK m (by omega)
  rw [resAt_nil, lft_bound, List.drop_zero] at h2
  exact h2
theorem less_nil (l : L) : Op.bytesLess l [] = false := by cases l <;> rfl
theorem nil_less (l : L) (h : l ≠ []) : Op.bytesLess [] l = true := by cases l with | nil => exact absurd rfl h | cons => rfl
/-- key.Between, told. -/
theorem between (a b : ByteArray) (ha : a.size < 9223372036854775807) (hb : b.size < 9223372036854775807) :
    (May a.toList b.toList ∧ Ev (fun k => key_Between.f k a b) (res (go 64 a.toList (bound b.toList)))) ∨
    (¬ May a.toList b.toList ∧ Ev (fun k => key_Between.f k a b) (⟨#[]⟩, 1)) := by
  obtain ⟨ra, ea, ha2⟩ := isKey a ha
  obtain ⟨rb, eb, hb2⟩ := isKey b hb
  have good := j0_good a b
  have bad := j0_bad a b
  unfold key_Between.f
  rw [ea, eb]
  simp only [Option.bind_some]
  by_cases h1 : a.toList = []
  · simp only [if_pos h1]
    by_cases h2 : b.toList = []
    · simp only [if_pos h2]
      exact .inl ⟨⟨.inl h1, .inl h2, .inl h1⟩, good⟩
    · simp only [if_neg h2]
      cases rb with
      | true =>
        simp only [if_true]
        rw [h1, nil_less _ h2]
        rw [h1] at good
        exact .inl ⟨⟨.inl rfl, .inr (hb2.mp rfl), .inl rfl⟩, good⟩
      | false =>
        simp only [Bool.false_eq_true, if_false]
        refine .inr ⟨?_, bad⟩
        rintro ⟨_, h | h, _⟩
        · exact h2 h
        · have := hb2.mpr h; cases this
  · simp only [if_neg h1]
    cases ra with
    | false =>
      simp only [Bool.false_eq_true, if_false]
      refine .inr ⟨?_, bad⟩
      rintro ⟨h | h, _, _⟩
      · exact h1 h
      · have := ha2.mpr h; cases this
    | true =>
      simp only [if_true]
      by_cases h2 : b.toList = []
      · simp only [if_pos h2]
        exact .inl ⟨⟨.inr (ha2.mp rfl), .inl h2, .inr (.inl h2)⟩, good⟩
      · simp only [if_neg h2]
        cases rb with
        | false =>
          simp only [Bool.false_eq_true, if_false]
          refine .inr ⟨?_, bad⟩
          rintro ⟨_, h | h, _⟩
          · exact h2 h
          · have := hb2.mpr h; cases this
        | true =>
          simp only [if_true]
          cases hl : Op.bytesLess a.toList b.toList with
          | true => exact .inl ⟨⟨.inr (ha2.mp rfl), .inr (hb2.mp rfl), .inr (.inr hl)⟩, good⟩
          | false =>
            refine .inr ⟨?_, bad⟩
            rintro ⟨_, _, h | h | h⟩
            · exact h1 h
            · exact h2 h
            · rw [hl] at h; cases h
theorem may_fit {a b : L} (h : May a b) : Fit a (bound b) := by
  unfold bound
  split
  · trivial
  · rename_i h2
    obtain ⟨_, h3, h4⟩ := h
    have h3 := h3.resolve_left h2
    refine ⟨h3.1, ?_⟩
    rcases h4 with rfl | h4 | h4
    · exact nil_less _ h2
    · exact absurd h4 h2
    · exact h4
/-- What is told is a key, and lies between. -/
theorem lies {a b s : L} (h : May a b) (hg : go 64 a (bound b) = some s) : Key s ∧ Op.bytesLess a s = true ∧ (b = [] ∨ Op.bytesLess s b = true) := by
  refine ⟨go_ends _ _ _ _ hg, go_above _ _ _ _ hg, ?_⟩
  by_cases e : b = []
  · exact .inl e
  · have hf := may_fit h
    unfold bound at hg hf
    rw [if_neg e] at hg hf
    exact .inr (go_below _ _ _ _ hf hg)
theorem go_first : go 64 [] none = some [128] := by
  rw [go, if_pos (by decide)]; rfl
end Go.Proofs.YthcadjfkbkegcaaKeyPure
