/- A part of the proof: LsSlots. -/
import Derived.Test.YtlfkabehppdohaaGreatLsC
set_option linter.unusedVariables false
set_option linter.unusedSimpArgs false
namespace Go.Tr
open Go Go.Dv Go.Ky
def ix (i n : Nat) : Int := if i < n then (i : Int) else -1
def atK (K : List Nd) (b : Sp) : Nat := K.findIdx fun n => decide (n.1 = b)
def jK (K : List Nd) (b : Sp) : Int := if b = (0, 0) then (K.length : Int) else ix (atK K b) K.length
def aK (K : List Nd) (i : Nat) : ByteArray := if i = 0 then (ByteArray.mk ([]).toArray) else (K.getD (i - 1) default).2.2
def bK (K : List Nd) (i : Nat) : ByteArray := if i < K.length then (K.getD i default).2.2 else (ByteArray.mk ([]).toArray)
noncomputable def gapA (a b : ByteArray) : ByteArray × Int :=
  if empB a = false ∧ a = b then ((ByteArray.mk ([]).toArray), 5) else if mayK a b = true then resK (go 64 a.data.toList (boundK b.data.toList)) else (⟨#[]⟩, 1)
noncomputable def gapG (l : List Nd) (p b : Sp) : ByteArray × Int :=
  if liveC l p = true then (if jK (kidsC l p) b < 0 then ((ByteArray.mk ([]).toArray), 3) else gapA (aK (kidsC l p) (jK (kidsC l p) b).toNat) (bK (kidsC l p) (jK (kidsC l p) b).toNat)) else ((ByteArray.mk ([]).toArray), 3)
theorem jK_le (K : List Nd) (b : Sp) : jK K b ≤ K.length := by
  unfold jK ix
  split
  · exact Int.le_refl _
  · split <;> omega
theorem find_loop1 {α σ ρ : Type} [Inhabited α] {K : List α} {p : α → Bool} {f : σ → Option (σ ⊕ ρ)} (inv : Nat → σ) (out : Nat → ρ) (no : ρ)
    (h1 : ∀ i, i < K.length → p (K.getD i default) = false → f (inv i) = some (.inl (inv (i + 1)))) (h2 : ∀ i, i < K.length → p (K.getD i default) = true → f (inv i) = some (.inr (out i))) (h3 : f (inv K.length) = some (.inr no)) {s0 : σ} (h0 : s0 = inv 0 := by rfl) :
    iter f s0 = some (if K.findIdx p < K.length then out (K.findIdx p) else no) := by
  have hle : K.findIdx p ≤ K.length := List.findIdx_le_length
  rw [iter_run' (inv := inv) (k := K.findIdx p) (r := if K.findIdx p < K.length then out (K.findIdx p) else no) ?_ ?_ h0]
  · intro i hi
    have hi' : i < K.length := by omega
    refine h1 i hi' ?_
    have := List.not_of_lt_findIdx hi
    rw [List.getD_eq_getElem?_getD, List.getElem?_eq_getElem hi']
    simpa using this
  · by_cases h : K.findIdx p < K.length
    · rw [if_pos h]
      refine h2 _ h ?_
      rw [List.getD_eq_getElem?_getD, List.getElem?_eq_getElem h]
      exact List.findIdx_getElem
    · rw [if_neg h, show K.findIdx p = K.length by omega]; exact h3
theorem ends_of {a : ByteArray} (h : keyB a = true) : Ends8 a.data.toList := by
  have hl := len_data a
  unfold keyB key_Is at h
  by_cases e1 : (1 : Int) ≤ (a.size : Int)
  · by_cases e2 : (a.size : Int) ≤ 64
    · have hw : IntKind.wrap .i64 ((a.size : Int) - 1) = ((a.size - 1 : Nat) : Int) := by rw [Go.Dv.wrap_small] <;> omega
      have hg := getB_hd a (a.size - 1) (by omega)
      rw [List.drop_eq_getElem_cons (by omega)] at hg
      simp only [e1, e2, decide_true, cond_true, hw, hg, Option.bind_some, Option.getD_some, Ky.hd] at h
      have hne : a.data.toList ≠ [] := by intro e; rw [e] at hl; simp at hl; omega
      rw [ends_last _ hne, List.getLast_eq_getElem]
      intro h0
      have hz : (a.data.toList[a.size - 1]'(by omega)) = 0 := by rw [← h0]; simp only [hl]
      rw [hz] at h
      simp at h
    · simp only [e1, e2, decide_true, decide_false, cond_true, cond_false, Option.getD_some] at h
      cases h
  · simp only [e1, decide_false, cond_false, Option.getD_some] at h
    cases h
theorem fit_may {a b : ByteArray} (h : mayK a b = true) : Fit a.data.toList (boundK b.data.toList) := by
  unfold boundK
  split
  · trivial
  · rename_i hb
    have he : empB b = false := by rw [emp_data]; exact decide_eq_false hb
    unfold mayK at h
    rw [he] at h
    simp only [Bool.false_or, Bool.and_eq_true] at h
    exact ⟨ends_of h.2.1, h.2.2⟩
theorem IndexFunc_eq (K : List Nd) (b : Sp) (hK : K.length < 1000000) : slices_IndexFunc_Node (K, b) = some (ix (atK K b) K.length) := by
  unfold slices_IndexFunc_Node
  rw [find_loop1 (K := K) (p := fun n => decide (n.1 = b)) (inv := fun i : Nat => (K, (b, (((K.length : Nat) : Int), (i : Int))))) (out := fun i => .inr (i : Int)) (no := .inl ())]
  · unfold ix atK
    by_cases hc : (K.findIdx fun n => decide (n.1 = b)) < K.length
    · simp only [if_pos hc, Option.bind_some]
    · simp only [if_neg hc, Option.bind_some]
  · intro i hi hp
    have e1 : (i : Int) < (K.length : Int) := by omega
    have e2 : shape_Gap_1 (K.getD i default, b) = false := by simp only [shape_Gap_1, two_eq]; exact hp
    simp only [e1, decide_true, cond_true, getI_D K i hi, Option.bind_some, e2, cond_false, wrap_nat (show i < 9223372036854775807 by omega)]
  · intro i hi hp
    have e1 : (i : Int) < (K.length : Int) := by omega
    have e2 : shape_Gap_1 (K.getD i default, b) = true := by simp only [shape_Gap_1, two_eq]; exact hp
    simp only [e1, decide_true, cond_true, getI_D K i hi, Option.bind_some, e2]
  · simp only [Int.lt_irrefl, decide_false, cond_false]
theorem InStamps_eq (l : List Sp) (b : Sp) (hl : l.length < 1000000000) : arrasref0_InStamps (l, b) = some (ix (l.findIdx fun q => decide (q = b)) l.length) := by
  unfold arrasref0_InStamps
  rw [find_loop1 (K := l) (p := fun q => decide (q = b)) (inv := fun i : Nat => (l, ((i : Int), b))) (out := fun i => .inr (i : Int)) (no := .inl b)]
  · unfold ix
    by_cases hc : (l.findIdx fun q => decide (q = b)) < l.length
    · simp only [if_pos hc, Option.bind_some]
    · simp only [if_neg hc, Option.bind_some]
  · intro i hi hp
    have e1 : (i : Int) < (l.length : Int) := by omega
    simp only [e1, decide_true, cond_true, getI_D l i hi, Option.bind_some, two_eq, hp, cond_false, wrap_nat (show i < 9223372036854775807 by omega)]
  · intro i hi hp
    have e1 : (i : Int) < (l.length : Int) := by omega
    simp only [e1, decide_true, cond_true, getI_D l i hi, Option.bind_some, two_eq, hp]
  · simp only [Int.lt_irrefl, decide_false, cond_false]
theorem gap_end (a b : ByteArray) : (bif (bif ((ByteArray.toList a) == (ByteArray.toList b)) then (Bool.not ((ByteArray.toList a) == (ByteArray.toList (ByteArray.mk ([]).toArray)))) else false) then some ((ByteArray.mk ([]).toArray), (5 : Int)) else
  ((key_Between (a, b))).bind fun x6 =>
  some x6) = some (gapA a b) := by
  simp only [toList_eq a b, emp_eq, key_Between_eq, Option.bind_some]
  unfold gapA
  by_cases h : a = b <;> cases empB a <;> simp [h]
theorem Gap_eq {s : Tree × List Lk} (p b : Sp) (hs : Srt s.1.1) (hl : s.1.1.length < 999000) (ha : Acy s.1.1) : shape_Gap (s, (p, b)) = some (gapG s.1.1 p b) := by
  have hsm : Sm s.1.1 := show s.1.1.length < 1000000 by omega
  have hkl := kids_len s.1.1 p
  unfold shape_Gap gapG
  simp only [Lives_C p hs hsm ha, Option.bind_some]
  cases liveC s.1.1 p with
  | false => rfl
  | true =>
    simp only [Bool.not_true, cond_false, Children_eq s.1 p hsm, Option.bind_some, root_eq, kidsC_eq p hs, if_true]
    rw [kidsC_eq p hs] at hkl
    generalize kidsC s.1.1 p = K at hkl ⊢
    have hj : (bif (Bool.not (rootB b)) then (((slices_IndexFunc_Node (K, b))).bind fun x3 => some (K, (x3, (s, (p, b))))) else some (K, (((List.length K) : Int), (s, (p, b))))) = some (K, (jK K b, (s, (p, b)))) := by
      unfold rootB jK
      by_cases hb : b = (0, 0)
      · simp [hb]
      · simp only [hb, decide_false, Bool.not_false, cond_true, if_false, IndexFunc_eq K b (by omega), Option.bind_some]
    simp only [hj, Option.bind_some]
    have hjl := jK_le K b
    generalize jK K b = j at hjl ⊢
    by_cases h0 : j < 0
    · simp only [h0, decide_true, cond_true, if_true]
    · obtain ⟨i, rfl⟩ : ∃ i : Nat, j = (i : Int) := ⟨j.toNat, by omega⟩
      simp only [h0, decide_false, cond_false, if_false, Int.toNat_natCast]
      have e1 : (bif (decide ((0 < (i : Int)))) then (((getI K (IntKind.wrap .i64 ((i : Int) - 1)))).bind fun x4 =>
        some (K, ((i : Int), (x4.2.2, ((ByteArray.mk ([]).toArray), (s, (p, b))))))) else
        some (K, ((i : Int), ((ByteArray.mk ([]).toArray), ((ByteArray.mk ([]).toArray), (s, (p, b)))))) : Option ((List Nd) × (Int × (ByteArray × (ByteArray × ((Tree × List Lk) × ((Int × Int) × (Int × Int)))))))) = some (K, ((i : Int), (aK K i, ((ByteArray.mk ([]).toArray), (s, (p, b)))))) := by
        unfold aK
        by_cases hi : i = 0
        · subst hi; rfl
        · have e : (0 : Int) < (i : Int) := by omega
          have hw : IntKind.wrap .i64 ((i : Int) - 1) = ((i - 1 : Nat) : Int) := by rw [Go.Dv.wrap_small] <;> omega
          simp only [e, decide_true, cond_true, hw, getI_D K (i - 1) (by omega), Option.bind_some, if_neg hi]
      simp only [e1, Option.bind_some]
      have e2 : (bif (decide (((i : Int) < ((List.length K) : Int)))) then (((getI K (i : Int))).bind fun x5 =>
        some (aK K i, (x5.2.2, (s, (p, b))))) else
        some (aK K i, ((ByteArray.mk ([]).toArray), (s, (p, b))))) = some (aK K i, (bK K i, (s, (p, b)))) := by
        unfold bK
        by_cases hi : i < K.length
        · have e : (i : Int) < (K.length : Int) := by omega
          simp only [e, decide_true, cond_true, getI_D K i hi, Option.bind_some, if_pos hi]
        · have e : ¬ (i : Int) < (K.length : Int) := by omega
          simp only [e, decide_false, cond_false, if_neg hi]
      simp only [e2, Option.bind_some]
      exact gap_end _ _
def refK : Option L → ByteArray × Bool
  | none => ((ByteArray.mk ([]).toArray), false)
  | some s => (mkB s, true)
theorem hb_hd {l : L} (h : l ≠ []) : hb (some l) = hd l := by
  cases l with
  | nil => exact absurd rfl h
  | cons x r => rfl
abbrev SR : Type := ByteArray × (ByteArray × (List Int × (Bool × Int)))
def outR (acc : L) : Option L → Unit ⊕ (ByteArray × Bool)
  | none => .inl ()
  | some s => .inr (mkB (acc ++ s), true)
theorem outR_cons (acc : L) (x : UInt8) (r : Option L) : outR acc (r.map (x :: ·)) = outR (acc ++ [x]) r := by
  cases r with
  | none => rfl
  | some s => simp [outR]
theorem rbetween_loop {a b : ByteArray} {f : SR → Option (SR ⊕ (Unit ⊕ (ByteArray × Bool)))}
    (h0 : ∀ (acc : L) (left : Bool), f (a, (b, (ints acc, (left, (64 : Int))))) = some (.inr (.inl ())))
    (h1 : ∀ (i : Nat) (acc : L) (left : Bool), i < 64 → acc.length = i → (left = false → b.data.toList.drop i ≠ []) → hd (a.data.toList.drop i) + 2 ≤ hb (lft left b i) → f (a, (b, (ints acc, (left, (i : Int))))) = some (.inr (.inr (mkB (acc ++ [UInt8.ofNat (hd (a.data.toList.drop i) + (hb (lft left b i) - hd (a.data.toList.drop i)) / 2)]), true))))
    (h2 : ∀ (i : Nat) (acc : L) (left : Bool), i < 64 → acc.length = i → (left = false → b.data.toList.drop i ≠ []) → ¬ hd (a.data.toList.drop i) + 2 ≤ hb (lft left b i) → f (a, (b, (ints acc, (left, (i : Int))))) = some (.inl (a, (b, (ints (acc ++ [UInt8.ofNat (hd (a.data.toList.drop i))]), ((left || hb (lft left b i) == hd (a.data.toList.drop i) + 1), ((i + 1 : Nat) : Int))))))) :
    ∀ (d i : Nat) (acc : L) (left : Bool), i + d = 64 → acc.length = i → Fit (a.data.toList.drop i) (lft left b i) → iter f (a, (b, (ints acc, (left, (i : Int))))) = some (outR acc (go d (a.data.toList.drop i) (lft left b i)))
  | 0, i, acc, left, hi, hl, _ => by
    obtain rfl : i = 64 := by omega
    exact iter_inr (h0 acc left)
  | d + 1, i, acc, left, hi, hl, hf => by
    have hne : left = false → b.data.toList.drop i ≠ [] := by rintro rfl; exact fit_ne hf
    by_cases hc : hd (a.data.toList.drop i) + 2 ≤ hb (lft left b i)
    · rw [iter_inr (h1 i acc left (by omega) hl hne hc), go_stop hc]; rfl
    · have hf2 := fit_next hf hc
      rw [← lft_next, List.tail_drop] at hf2
      rw [iter_inl (h2 i acc left (by omega) hl hne hc), go_next hc, outR_cons, rbetween_loop h0 h1 h2 d (i + 1) _ _ (by omega) (by simp [hl]) hf2, lft_next, ← List.tail_drop]
theorem rBetween_eq (a b : ByteArray) (hf : Fit a.data.toList (boundK b.data.toList)) : arrasref8_Between (a, b) = some (refK (go 64 a.data.toList (boundK b.data.toList))) := by
  unfold arrasref8_Between
  simp only [emp_eq]
  rw [← lft_bound b _ (emp_data b)] at hf ⊢
  rw [show ((a, (b, (([] : List Int), (empB b, (0 : Int))))) : SR) = (a, (b, (ints [], (empB b, ((0 : Nat) : Int))))) from rfl, rbetween_loop (a := a) (b := b) ?_ ?_ ?_ 64 0 [] (empB b) rfl rfl hf]
  · simp only [List.drop_zero, Option.bind_some]
    cases go 64 a.data.toList (lft (empB b) b 0) <;> rfl
  · intro acc left
    rfl
  · intro i acc left hi hl hne hc
    have hx := hd_lt (a.data.toList.drop i)
    have hy := hb_le (lft left b i)
    have e1 : (i : Int) < 64 := by omega
    have hX : (bif (decide ((i : Int) < ((ByteArray.size a) : Int))) then (((getB a (i : Int))).bind fun x1 => some (a, (b, (ints acc, (left, ((i : Int), ((IntKind.wrap .i64 x1), (256 : Int)))))))) else some (a, (b, (ints acc, (left, ((i : Int), ((0 : Int), (256 : Int)))))))) = some (a, (b, (ints acc, (left, ((i : Int), (((hd (a.data.toList.drop i) : Nat) : Int), (256 : Int))))))) := by
      by_cases h : i < a.size
      · have e : (i : Int) < (a.size : Int) := by omega
        simp only [e, decide_true, cond_true, getB_hd a i h, Option.bind_some]
        rw [Go.Dv.wrap_small (by omega) (by omega)]
      · have e : ¬ (i : Int) < (a.size : Int) := by omega
        simp only [e, decide_false, cond_false]
        rw [List.drop_eq_nil_of_le (by rw [len_data]; omega)]
        rfl
    have hY : (bif (Bool.not left) then (((getB b (i : Int))).bind fun x2 => some (a, (b, (ints acc, (left, ((i : Int), (((hd (a.data.toList.drop i) : Nat) : Int), (IntKind.wrap .i64 x2)))))))) else some (a, (b, (ints acc, (left, ((i : Int), (((hd (a.data.toList.drop i) : Nat) : Int), (256 : Int)))))))) = some (a, (b, (ints acc, (left, ((i : Int), (((hd (a.data.toList.drop i) : Nat) : Int), ((hb (lft left b i) : Nat) : Int))))))) := by
      cases left with
      | true => rfl
      | false =>
        have hn := hne rfl
        have hlt : i < b.size := by
          rw [← len_data]
          rcases Nat.lt_or_ge i b.data.toList.length with h | h
          · exact h
          · exact absurd (List.drop_eq_nil_of_le h) hn
        have e : lft false b i = some (b.data.toList.drop i) := rfl
        have := hd_lt (b.data.toList.drop i)
        simp only [Bool.not_false, cond_true, getB_hd b i hlt, Option.bind_some, e, hb_hd hn]
        rw [Go.Dv.wrap_small (by omega) (by omega)]
    have e2 : IntKind.wrap .i64 (((hd (a.data.toList.drop i) : Nat) : Int) + 2) = ((hd (a.data.toList.drop i) : Nat) : Int) + 2 := Go.Dv.wrap_small (by omega) (by omega)
    have e3 : ((hd (a.data.toList.drop i) : Nat) : Int) + 2 ≤ ((hb (lft left b i) : Nat) : Int) := by omega
    have hroom : ∀ n : Int, room (List.length (ints acc ++ [n])) 1 = true := fun n => room_small (by simp only [List.length_append, ints_len, List.length_cons, List.length_nil]; omega) (by decide)
    have hm := midK (hd (a.data.toList.drop i)) (hb (lft left b i)) hx hy hc
    simp only [e1, decide_true, cond_true, hX, Option.bind_some, hY, e2, e3, hroom, hm]
    rw [ints_snoc _ _ (by omega), str_ints]
    rfl
  · intro i acc left hi hl hne hc
    have hx := hd_lt (a.data.toList.drop i)
    have hy := hb_le (lft left b i)
    have e1 : (i : Int) < 64 := by omega
    have hX : (bif (decide ((i : Int) < ((ByteArray.size a) : Int))) then (((getB a (i : Int))).bind fun x1 => some (a, (b, (ints acc, (left, ((i : Int), ((IntKind.wrap .i64 x1), (256 : Int)))))))) else some (a, (b, (ints acc, (left, ((i : Int), ((0 : Int), (256 : Int)))))))) = some (a, (b, (ints acc, (left, ((i : Int), (((hd (a.data.toList.drop i) : Nat) : Int), (256 : Int))))))) := by
      by_cases h : i < a.size
      · have e : (i : Int) < (a.size : Int) := by omega
        simp only [e, decide_true, cond_true, getB_hd a i h, Option.bind_some]
        rw [Go.Dv.wrap_small (by omega) (by omega)]
      · have e : ¬ (i : Int) < (a.size : Int) := by omega
        simp only [e, decide_false, cond_false]
        rw [List.drop_eq_nil_of_le (by rw [len_data]; omega)]
        rfl
    have hY : (bif (Bool.not left) then (((getB b (i : Int))).bind fun x2 => some (a, (b, (ints acc, (left, ((i : Int), (((hd (a.data.toList.drop i) : Nat) : Int), (IntKind.wrap .i64 x2)))))))) else some (a, (b, (ints acc, (left, ((i : Int), (((hd (a.data.toList.drop i) : Nat) : Int), (256 : Int)))))))) = some (a, (b, (ints acc, (left, ((i : Int), (((hd (a.data.toList.drop i) : Nat) : Int), ((hb (lft left b i) : Nat) : Int))))))) := by
      cases left with
      | true => rfl
      | false =>
        have hn := hne rfl
        have hlt : i < b.size := by
          rw [← len_data]
          rcases Nat.lt_or_ge i b.data.toList.length with h | h
          · exact h
          · exact absurd (List.drop_eq_nil_of_le h) hn
        have e : lft false b i = some (b.data.toList.drop i) := rfl
        have := hd_lt (b.data.toList.drop i)
        simp only [Bool.not_false, cond_true, getB_hd b i hlt, Option.bind_some, e, hb_hd hn]
        rw [Go.Dv.wrap_small (by omega) (by omega)]
    have e2 : IntKind.wrap .i64 (((hd (a.data.toList.drop i) : Nat) : Int) + 2) = ((hd (a.data.toList.drop i) : Nat) : Int) + 2 := Go.Dv.wrap_small (by omega) (by omega)
    have e4 : IntKind.wrap .i64 (((hd (a.data.toList.drop i) : Nat) : Int) + 1) = ((hd (a.data.toList.drop i) : Nat) : Int) + 1 := Go.Dv.wrap_small (by omega) (by omega)
    have e3 : ¬ ((hd (a.data.toList.drop i) : Nat) : Int) + 2 ≤ ((hb (lft left b i) : Nat) : Int) := by omega
    have hroom : ∀ n : Int, room (List.length (ints acc ++ [n])) 1 = true := fun n => room_small (by simp only [List.length_append, ints_len, List.length_cons, List.length_nil]; omega) (by decide)
    have hbt : (bif left then true else (((hb (lft left b i) : Nat) : Int) == ((hd (a.data.toList.drop i) : Nat) : Int) + 1)) = (left || hb (lft left b i) == hd (a.data.toList.drop i) + 1) := by
      rw [beq_castK]; cases left <;> rfl
    have hroom2 : room (List.length (ints (acc ++ [UInt8.ofNat (hd (a.data.toList.drop i))]))) 1 = true := room_small (by rw [ints_len]; simp only [List.length_append, List.length_cons, List.length_nil]; omega) (by decide)
    simp only [e1, decide_true, cond_true, hX, Option.bind_some, hY, e2, e4, e3, decide_false, cond_false, hroom2, hbt, wrap_nat (show i < 9223372036854775807 by omega), wrap_u8 (n := ((hd (a.data.toList.drop i) : Nat) : Int)) (by omega) (by omega), ints_snoc _ _ hx]
noncomputable def refA (a b : ByteArray) : ByteArray × Int :=
  if empB a = false ∧ a = b then ((ByteArray.mk ([]).toArray), 5) else resK (go 64 a.data.toList (boundK b.data.toList))
theorem rgap_end (a b : ByteArray) (h : ¬ (empB a = false ∧ a = b) → Fit a.data.toList (boundK b.data.toList)) : (bif (bif (Bool.not ((ByteArray.toList a) == (ByteArray.toList (ByteArray.mk ([]).toArray)))) then ((ByteArray.toList a) == (ByteArray.toList b)) else false) then some ((ByteArray.mk ([]).toArray), (5 : Int)) else
    ((arrasref8_Between (a, b))).bind fun x6 =>
    bif (Bool.not x6.2) then some ((ByteArray.mk ([]).toArray), (5 : Int)) else
    some (x6.1, (0 : Int))) = some (refA a b) := by
  simp only [toList_eq a b, emp_eq]
  unfold refA
  by_cases hc : empB a = false ∧ a = b
  · rw [if_pos hc]
    have e : (bif (Bool.not (empB a)) then decide (a = b) else false) = true := by rw [hc.1]; exact decide_eq_true hc.2
    rw [e]; rfl
  · have e : (bif (Bool.not (empB a)) then decide (a = b) else false) = false := by
      cases he : empB a with
      | true => rfl
      | false => simp only [Bool.not_false, cond_true, decide_eq_false_iff_not]; exact fun h2 => hc ⟨he, h2⟩
    rw [if_neg hc, e]
    simp only [cond_false, rBetween_eq a b (h hc), Option.bind_some]
    cases go 64 a.data.toList (boundK b.data.toList) <;> rfl
noncomputable def refG (l : List Nd) (p b : Sp) : ByteArray × Int :=
  if liveC l p = true then (if jK (kidsC l p) b < 0 then ((ByteArray.mk ([]).toArray), 3) else refA (aK (kidsC l p) (jK (kidsC l p) b).toNat) (bK (kidsC l p) (jK (kidsC l p) b).toNat)) else ((ByteArray.mk ([]).toArray), 3)
theorem idx_map (K : List Nd) (b : Sp) : (K.map (fun x => x.1)).findIdx (fun q => decide (q = b)) = atK K b := by
  unfold atK
  induction K with
  | nil => rfl
  | cons n K ih =>
    simp only [List.map_cons, List.findIdx_cons, ih]
theorem mayK_of {K : List Nd} (hs : K.Pairwise klt) (hk : ∀ m ∈ K, keyB m.2.2 = true) (i : Nat) (hi : i ≤ K.length) (hn : ¬ (empB (aK K i) = false ∧ aK K i = bK K i)) : mayK (aK K i) (bK K i) = true := by
  have hemp : empB (ByteArray.mk ([]).toArray) = true := by simp [empB]
  have hb : i < K.length → keyB (bK K i) = true := fun h => by unfold bK; rw [if_pos h]; exact hk _ (getD_mem h)
  have hb' : ¬ i < K.length → bK K i = ByteArray.mk ([]).toArray := fun h => by unfold bK; rw [if_neg h]
  unfold mayK
  by_cases h0 : i = 0
  · have ea : aK K i = ByteArray.mk ([]).toArray := by unfold aK; rw [if_pos h0]
    rw [ea, hemp]
    by_cases h1 : i < K.length
    · have hne := ends_ne (ends_of (hb h1))
      rw [hb h1]
      have : Go.Op.bytesLess (ByteArray.mk ([]).toArray).data.toList (bK K i).data.toList = true := by
        cases hl : (bK K i).data.toList with
        | nil => exact absurd hl hne
        | cons x r => rfl
      rw [this]; simp
    · rw [hb' h1, hemp]; rfl
  · have hi1 : i - 1 < K.length := by omega
    have ea : aK K i = (K.getD (i - 1) default).2.2 := by unfold aK; rw [if_neg h0]
    have hka : keyB (aK K i) = true := by rw [ea]; exact hk _ (getD_mem hi1)
    have hea : empB (aK K i) = false := by rw [emp_data]; exact decide_eq_false (ends_ne (ends_of hka))
    rw [hka]
    by_cases h1 : i < K.length
    · rw [hb h1]
      have hlt : klt (K.getD (i - 1) default) (K.getD i default) := by
        rw [List.pairwise_iff_getElem] at hs
        have := hs (i - 1) i hi1 h1 (by omega)
        simpa only [List.getD_eq_getElem?_getD, List.getElem?_eq_getElem hi1, List.getElem?_eq_getElem h1, Option.getD_some] using this
      have eb : bK K i = (K.getD i default).2.2 := by unfold bK; rw [if_pos h1]
      have : Go.Op.bytesLess (aK K i).data.toList (bK K i).data.toList = true := by
        rw [bless_eq, decide_eq_true_eq, ea, eb]
        rcases hlt with h | ⟨h, _⟩
        · exact h
        · refine absurd ⟨hea, ?_⟩ hn
          rw [ea, eb, ← mkB_of (K.getD (i - 1) default).2.2, h, mkB_of]
      rw [this]; simp
    · rw [hb' h1, hemp]; simp
theorem gap_ref {l : List Nd} (p b : Sp) (hs : Srt l) (hk : ∀ m ∈ l, keyB m.2.2 = true) : gapG l p b = refG l p b := by
  unfold gapG refG
  have hK : ∀ m ∈ kidsC l p, keyB m.2.2 = true := fun m hm => hk m ((mem_kidsC hs).1 hm).1
  have hj := jK_le (kidsC l p) b
  have hS := kidsC_srt p hs
  generalize kidsC l p = K at *
  split
  · split
    · rfl
    · unfold gapA refA
      by_cases hc : empB (aK K (jK K b).toNat) = false ∧ aK K (jK K b).toNat = bK K (jK K b).toNat
      · rw [if_pos hc, if_pos hc]
      · rw [if_neg hc, if_neg hc, if_pos (mayK_of hS hK _ (by omega) hc)]
  · rfl
theorem rSlot_eq {s : Tree × List Lk} (p b : Sp) (hs : Srt s.1.1) (hl : s.1.1.length < 999000) (ha : Acy s.1.1) (hk : ∀ m ∈ s.1.1, keyB m.2.2 = true) : arrasref16_Slot (s, (p, b)) = some (refG s.1.1 p b) := by
  have hsm : Sm s.1.1 := show s.1.1.length < 1000000 by omega
  have hkl := kids_len s.1.1 p
  have hK : ∀ m ∈ kidsC s.1.1 p, keyB m.2.2 = true := fun m hm => hk m ((mem_kidsC hs).1 hm).1
  have hS := kidsC_srt p hs
  have hF : ∀ i, i < (kidsC s.1.1 p).length → ((arrasref16_Find (s.1.1, ((kidsC s.1.1 p).getD i default).1)).bind fun x5 => getI s.1.1 x5) = some ((kidsC s.1.1 p).getD i default) := fun i hi => by
    have hm := ((mem_kidsC hs).1 (getD_mem hi)).1
    have hlk := look_mem hs hm
    rw [rFind_eq _ hs hsm]
    simp only [fnd, hlk, Option.isSome_some, if_true, Option.bind_some]
    exact getI_pos hs hlk
  unfold arrasref16_Slot refG
  simp only [rLive_C p hs hl ha, Option.bind_some]
  cases liveC s.1.1 p with
  | false => rfl
  | true =>
    simp only [Bool.not_true, cond_false, rKids_eq p hs hsm (by omega), Option.bind_some, rroot_eq, kidsC_eq p hs, if_true]
    rw [kidsC_eq p hs] at hkl
    have hfit := mayK_of hS hK
    generalize kidsC s.1.1 p = K at *
    have hin : arrasref0_InStamps (K.map (fun x => x.1), b) = some (ix (atK K b) K.length) := by
      rw [InStamps_eq _ _ (by rw [List.length_map]; omega), idx_map, List.length_map]
    have hjl := jK_le K b
    by_cases h0 : jK K b < 0
    · have hb : b ≠ (0, 0) := by
        rintro rfl
        simp only [jK, if_true] at h0; omega
      have hj : jK K b = ix (atK K b) K.length := by unfold jK; rw [if_neg hb]
      rw [hj] at h0
      simp only [rootB, hb, decide_false, Bool.not_false, cond_true, hin, Option.bind_some, h0, decide_true, hj, if_true]
    · have hj : (bif (Bool.not (rootB b)) then (((arrasref0_InStamps (K.map (fun x => x.1), b))).bind fun x3 =>
          bif (decide ((x3 < 0))) then some (.inr ((ByteArray.mk ([]).toArray), (3 : Int))) else
          some (.inl (K.map (fun x => x.1), (x3, (s, (p, b)))))) else
        some (.inl (K.map (fun x => x.1), (((List.length (K.map (fun x => x.1))) : Int), (s, (p, b))))) : Option (((List (Int × Int)) × (Int × ((Tree × List Lk) × ((Int × Int) × (Int × Int))))) ⊕ (ByteArray × Int))) = some (.inl (K.map (fun x => x.1), (jK K b, (s, (p, b))))) := by
        unfold rootB
        by_cases hb : b = (0, 0)
        · simp [hb, jK]
        · have hj : jK K b = ix (atK K b) K.length := by unfold jK; rw [if_neg hb]
          rw [hj] at h0 ⊢
          simp only [hb, decide_false, Bool.not_false, cond_true, hin, Option.bind_some, h0, cond_false]
      simp only [hj, Option.bind_some, if_neg h0]
      obtain ⟨i, hi⟩ : ∃ i : Nat, jK K b = (i : Int) := ⟨(jK K b).toNat, by omega⟩
      rw [hi] at hjl ⊢
      simp only [Int.toNat_natCast]
      have hget : ∀ k, k < K.length → getI (K.map fun x => x.1) (k : Int) = some (K.getD k default).1 := fun k hk => by
        rw [getI_nat, List.getElem?_map, List.getElem?_eq_getElem hk, List.getD_eq_getElem?_getD, List.getElem?_eq_getElem hk]; rfl
      have hF2 : ∀ {β : Type} (k : Nat) (g : Nd → Option β), k < K.length → ((arrasref16_Find (s.1.1, (K.getD k default).1)).bind fun x5 => (getI s.1.1 x5).bind g) = g (K.getD k default) := fun k g hk => by
        have := hF k hk
        rw [← Option.bind_assoc, this]; rfl
      have e1 : (bif (decide ((0 < (i : Int)))) then (((getI (K.map fun x => x.1) (IntKind.wrap .i64 ((i : Int) - 1)))).bind fun x4 =>
        ((arrasref16_Find (s.1.1, x4))).bind fun x5 =>
        ((getI s.1.1 x5)).bind fun x6 =>
        some (K.map (fun x => x.1), ((i : Int), (x6.2.2, ((ByteArray.mk ([]).toArray), (s, (p, b))))))) else
        some (K.map (fun x => x.1), ((i : Int), ((ByteArray.mk ([]).toArray), ((ByteArray.mk ([]).toArray), (s, (p, b)))))) : Option ((List (Int × Int)) × (Int × (ByteArray × (ByteArray × ((Tree × List Lk) × ((Int × Int) × (Int × Int)))))))) = some (K.map (fun x => x.1), ((i : Int), (aK K i, ((ByteArray.mk ([]).toArray), (s, (p, b)))))) := by
        unfold aK
        by_cases hi : i = 0
        · subst hi; rfl
        · have e : (0 : Int) < (i : Int) := by omega
          have hw : IntKind.wrap .i64 ((i : Int) - 1) = ((i - 1 : Nat) : Int) := by rw [Go.Dv.wrap_small] <;> omega
          simp only [e, decide_true, cond_true, hw, hget (i - 1) (by omega), Option.bind_some, hF2 (i - 1) _ (by omega), if_neg hi]
      simp only [e1, Option.bind_some]
      have e2 : (bif (decide (((i : Int) < ((List.length (K.map fun x => x.1)) : Int)))) then (((getI (K.map fun x => x.1) (i : Int))).bind fun x5 =>
        ((arrasref16_Find (s.1.1, x5))).bind fun x6 =>
        ((getI s.1.1 x6)).bind fun x7 =>
        some (aK K i, (x7.2.2, (s, (p, b))))) else
        some (aK K i, ((ByteArray.mk ([]).toArray), (s, (p, b))))) = some (aK K i, (bK K i, (s, (p, b)))) := by
        unfold bK
        rw [List.length_map]
        by_cases hi : i < K.length
        · have e : (i : Int) < (K.length : Int) := by omega
          simp only [e, decide_true, cond_true, hget i hi, Option.bind_some, hF2 i _ hi, if_pos hi]
        · have e : ¬ (i : Int) < (K.length : Int) := by omega
          simp only [e, decide_false, cond_false, if_neg hi]
      simp only [e2, Option.bind_some]
      exact rgap_end _ _ fun hn => fit_may (hfit i (by omega) hn)
theorem shp_keys {st : St} (h : OkS st) : ∀ m ∈ (shp st).1.1, keyB m.2.2 = true := fun m hm => (node_ok h.1 hm).2
theorem pure_ShapeSlots (y : El sScript_arraslaw17) (h : Bnd sScript_arraslaw17 y) : arraslaw17_ShapeSlots y = some true := by
  obtain ⟨b, hb, hb2⟩ := Heavy17_eq y h
  unfold arraslaw17_ShapeSlots
  rw [hb]
  simp only [Option.bind_some]
  cases b with
  | true => rfl
  | false =>
    have L := hb2 rfl
    obtain ⟨s, l, ids⟩ := y
    obtain ⟨pl, hpl, hpn⟩ := places_some (s, l, ids)
    have hS : SmS s := L.s
    simp only [cond_false, hpl, Option.bind_some]
    have hslot : ∀ p q : Sp, ∃ r : ByteArray × Int, shape_Slot (s, (p, q)) = some r ∧ ((shpB s = true → arrasref16_Slot (s, (p, q)) = some r) ∧ (shpB s = false → r = ((ByteArray.mk ([]).toArray), 1))) := fun p q => by
      unfold shape_Slot
      simp only [IsShape_eq s hS, Option.bind_some]
      cases hB : shpB s with
      | false => exact ⟨_, rfl, ⟨fun h => (by cases h), fun _ => rfl⟩⟩
      | true =>
        obtain ⟨st, hst, rfl⟩ := shpB_iff.1 hB
        have n0 := nds0 st.1
        have hlen : (shp st).1.1.length < 999000 := hS.n
        refine ⟨gapG (shp st).1.1 p q, ?_, ⟨fun _ => ?_, fun h => (by cases h)⟩⟩
        · simp only [Bool.not_true, cond_false]
          rw [Gap_eq (s := shp st) p q n0.1 hlen n0.2.1]; rfl
        · rw [gap_ref (l := (shp st).1.1) p q n0.1 (shp_keys hst)]
          exact rSlot_eq (s := shp st) p q n0.1 hlen n0.2.1 (shp_keys hst)
    rw [iter_run' (inv := fun i : Nat => (pl, ((i : Int), ((s, (l, ids)) : Script_arraslaw17)))) (k := pl.length) (r := .inl (s, (l, ids)))]
    · simp only [Option.bind_some, wakes17_eq]
    · intro i hi
      have e1 : (i : Int) < (pl.length : Int) := by omega
      simp only [e1, decide_true, cond_true]
      rw [iter_run' (inv := fun k : Nat => (pl, ((i : Int), ((k : Int), ((s, (l, ids)) : Script_arraslaw17))))) (k := pl.length) (r := .inl (pl, ((i : Int), (s, (l, ids)))))]
      · simp only [Option.bind_some, wrap_nat (show i < 9223372036854775807 by omega)]
      · intro k hk
        have e2 : (k : Int) < (pl.length : Int) := by omega
        obtain ⟨r, h1, h2, h3⟩ := hslot (pl.getD i default) (pl.getD k default)
        simp only [e2, decide_true, cond_true, getI_D pl i hi, getI_D pl k hk, Option.bind_some, h1, ref_Shape_eq s hS]
        cases hB : shpB s with
        | false =>
          rw [h3 hB]
          simp only [cond_false, num17_eq, bne_self_eq_false, beq_self_eq_true, Bool.not_true, wrap_nat (show k < 9223372036854775807 by omega)]
        | true =>
          simp only [cond_true, getI_D pl i hi, getI_D pl k hk, Option.bind_some, h2 hB, num17_eq, bne_self_eq_false, beq_self_eq_true, Bool.not_true, cond_false, wrap_nat (show k < 9223372036854775807 by omega)]
      · simp only [Int.lt_irrefl, decide_false, cond_false]
    · simp only [Int.lt_irrefl, decide_false, cond_false]
end Go.Tr
