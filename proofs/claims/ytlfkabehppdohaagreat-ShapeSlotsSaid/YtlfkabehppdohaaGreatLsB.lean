/- A part of the proof: LsT, LsKM, LsK, LsL. -/
import Derived.Test.YtlfkabehppdohaaGreatLsA
import Derived.Test.YtlfkabehppdohaaGreatTrD
import Derived.Test.YtlfkabehppdohaaGreatDvI
set_option linter.unusedVariables false
set_option linter.unusedSimpArgs false
namespace Go.Tr
open Go Go.Dv
def kidsC (l : List Nd) (id : Sp) : List Nd := (l.filter fun n => decide (n.2.1 = id)).foldl insK []
theorem kidsC_eq {l : List Nd} (id : Sp) (hs : Srt l) : kids l id = kidsC l id := kids_fold id hs
def tallN (l : List Nd) : Nat → Sp → Nat
  | 0, _ => 0
  | n + 1, id => (kidsC l id).foldl (fun a k => max a (tallN l n k.1)) 0 + 1
theorem look_mem {l : List Nd} {q : Nd} (hs : Srt l) (h : q ∈ l) : look l q.1 = some q := by
  induction l with
  | nil => cases h
  | cons m l ih =>
    have hs' := List.pairwise_cons.1 hs
    rcases List.mem_cons.1 h with rfl | h
    · simp [look]
    · rw [look, if_neg (slt_ne (hs'.1 q h)), ih hs'.2 h]
def tallC (l : List Nd) (id : Sp) : Nat := tallN l (l.length + 1) id
theorem ups_more {l : List Nd} : ∀ {n m : Nat} {s : Sp}, EndsIn l n s → n ≤ m → ups l m s = ups l n s
  | 0, 0, _, _, _ => rfl
  | 0, m + 1, s, h, _ => by simp only [EndsIn] at h; simp [ups, h]
  | n + 1, 0, _, _, h => by omega
  | n + 1, m + 1, s, ⟨p, hp, h⟩, hm => by simp only [ups, hp]; rw [ups_more h (by omega)]
def upC (l : List Nd) (s : Sp) : List Sp := ups l l.length s
def liveC (l : List Nd) (s : Sp) : Bool := liveB l l.length s
theorem liveC_eq {l : List Nd} {n : Nat} {s : Sp} (h : EndsIn l n s) : liveC l s = liveB l n s := by
  unfold liveC liveB; rw [ups_more h (ends_le h)]
theorem Lives_C {t : Tree} (s : Sp) (hs : Srt t.1) (hl : Sm t.1) (ha : Acy t.1) : tree_Lives (t, s) = some (liveC t.1 s) := by
  obtain ⟨n, hn⟩ := ha s
  rw [Lives_eq hs hl hn, liveC_eq hn]
theorem rLive_C {t : Tree} (s : Sp) (hs : Srt t.1) (hl : t.1.length < 999000) (ha : Acy t.1) : arrasref16_Live (t, s) = some (liveC t.1 s) := by
  obtain ⟨n, hn⟩ := ha s
  rw [rLive_eq hs (show t.1.length < 1000000 by omega) (by omega) hn, liveC_eq hn]
def livC (l : List Nd) : Nat := (l.filter fun q => liveC l q.1).length
def trashB (s : Sp) : Bool := decide (s = (0, 1))
def movesC (l : List Nd) (o : Op') : Int :=
  if (!trashB o.2.2.2.2.2.1 && !liveC l o.2.2.2.2.2.1) = true then 3
  else if ((look l o.2.2.2.2.1).isSome && (circ l o.2.2.2.2.1 o.2.2.2.2.2.1 || !liveC l o.2.2.2.2.1) || !(look l o.2.2.2.2.1).isSome && trashB o.2.2.2.2.2.1) = true then 6
  else if (!(look l o.2.2.2.2.1).isSome && decide (48 ≤ livC l)) = true then 5
  else if (liveC l o.2.2.2.2.2.1 && decide (13 < (upC l o.2.2.2.2.2.1).length + 1 + tallC l o.2.2.2.2.1)) = true then 2 else 0
def letsC (l : List Nd) (o : Op') : Int := if (o.2.2.2.1 == 1) = true then movesC l o else if (look l o.2.2.2.2.1).isSome = true then 0 else 3
end Go.Tr
/- Plain lemmas on keys as lists of bytes: what lies between two, that it lies between, and how often one finds room. No program. -/
namespace Go.Ky
open Go
abbrev L := List UInt8
def hd (a : L) : Nat := match a with | [] => 0 | x :: _ => x.toNat
def hb (b : Option L) : Nat := match b with | none => 256 | some [] => 256 | some (y :: _) => y.toNat
def nx (x y : Nat) (b : Option L) : Option L := if y = x + 1 then none else b.map List.tail
def go : Nat → L → Option L → Option L
  | 0, _, _ => none
  | n + 1, a, b => if hd a + 2 ≤ hb b then some [UInt8.ofNat (hd a + (hb b - hd a) / 2)] else (go n a.tail (nx (hd a) (hb b) b)).map (UInt8.ofNat (hd a) :: ·)
theorem hd_lt (a : L) : hd a < 256 := by cases a with | nil => decide | cons x _ => exact UInt8.toNat_lt x
theorem hb_le (b : Option L) : hb b ≤ 256 := by
  match b with
  | none => decide
  | some [] => decide
  | some (y :: _) => have := UInt8.toNat_lt y; simp only [hb]; omega
theorem ofNat_toNat' (n : Nat) (h : n < 256) : (UInt8.ofNat n).toNat = n := by simp; omega
def Ends8 : L → Prop
  | [] => False
  | [x] => x ≠ 0
  | _ :: y :: r => Ends8 (y :: r)
theorem ends_ne {l : L} (h : Ends8 l) : l ≠ [] := by rintro rfl; exact h
theorem ends_tail {x : UInt8} {l : L} (h : Ends8 (x :: l)) (hl : l ≠ []) : Ends8 l := by
  cases l with
  | nil => exact absurd rfl hl
  | cons y r => exact h
theorem ends_last (l : L) (h : l ≠ []) : Ends8 l ↔ l.getLast h ≠ 0 := by
  induction l with
  | nil => exact absurd rfl h
  | cons x r ih =>
    cases r with
    | nil => exact Iff.rfl
    | cons y s => rw [List.getLast_cons (by simp)]; exact ih (by simp)

theorem less_cons (x y : UInt8) (a b : L) : Op.bytesLess (x :: a) (y :: b) = (decide (x < y) || (x == y && Op.bytesLess a b)) := rfl
def Fit (a : L) : Option L → Prop
  | none => True
  | some l => Ends8 l ∧ Op.bytesLess a l = true
theorem fit_cons {a : L} {y : UInt8} {l : L} (h : Fit a (some (y :: l))) : hd a < y.toNat ∨ (hd a = y.toNat ∧ l ≠ [] ∧ Fit a.tail (some l)) := by
  obtain ⟨he, hl⟩ := h
  cases a with
  | nil =>
    by_cases h0 : y = 0
    · subst h0
      have : l ≠ [] := by rintro rfl; exact he rfl
      refine .inr ⟨rfl, this, ends_tail he this, ?_⟩
      cases l with
      | nil => exact absurd rfl this
      | cons z r => rfl
    · refine .inl ?_
      have : y.toNat ≠ 0 := fun h => h0 (UInt8.toNat_inj.mp (by simpa using h))
      show 0 < y.toNat
      omega
  | cons x r =>
    rw [less_cons] at hl
    simp only [Bool.or_eq_true, decide_eq_true_eq, Bool.and_eq_true, beq_iff_eq] at hl
    rcases hl with h | ⟨rfl, h⟩
    · exact .inl h
    · have : l ≠ [] := by rintro rfl; cases r <;> cases h
      exact .inr ⟨rfl, this, ends_tail he this, h⟩
theorem fit_ne {a : L} {l : L} (h : Fit a (some l)) : l ≠ [] := ends_ne h.1
theorem fit_next {a : L} {b : Option L} (h : Fit a b) (h1 : ¬ hd a + 2 ≤ hb b) : Fit a.tail (nx (hd a) (hb b) b) := by
  unfold nx
  split
  · trivial
  · rename_i h2
    match b, h with
    | none, _ => trivial
    | some [], h => exact h.1.elim
    | some (y :: l), h =>
      rcases fit_cons h with h3 | h3
      · simp only [hb] at h1 h2; omega
      · exact h3.2.2

inductive Gap : Nat → L → Option L → Nat → Prop
  | stop {a : L} {b : Option L} {d : Nat} (ha : a.tail = []) (hbt : ∀ l, b = some l → l.tail = [] ) (h : hb b = hd a + d) (h2 : 2 ≤ d) : Gap 0 a b d
  | next {i : Nat} {a : L} {b : Option L} {d : Nat} (h1 : ¬ hd a + 2 ≤ hb b) (h2 : hd a ≤ hb b) (h : Gap i a.tail (nx (hd a) (hb b) b) d) : Gap (i + 1) a b d

theorem Gap.two {i d : Nat} {a : L} {b : Option L} (h : Gap i a b d) : 2 ≤ d := by
  induction h with
  | stop _ _ _ h2 => exact h2
  | next _ _ _ ih => exact ih

theorem gap_wide : Gap 0 [] none 256 := .stop rfl (by intro l h; cases h) rfl (by decide)
theorem Gap.put {i d : Nat} {a : L} {b : Option L} (h : Gap i a b d) : ∃ s, go (i + 1) a b = some s ∧
    (if 2 ≤ d - d / 2 then Gap i s b (d - d / 2) else Gap (i + 1) s b 256) ∧ (if 2 ≤ d / 2 then Gap i a (some s) (d / 2) else Gap (i + 1) a (some s) 256) := by
  induction h with
  | @stop a b d ha hbt h h2 =>
    have h3 := hd_lt a
    have h4 := hb_le b
    have hs : (UInt8.ofNat (hd a + d / 2)).toNat = hd a + d / 2 := ofNat_toNat' _ (by omega)
    refine ⟨[UInt8.ofNat (hd a + d / 2)], ?_, ?_, ?_⟩
    · rw [go, if_pos (by omega), h, show hd a + d - hd a = d by omega]
    · have e : hd [UInt8.ofNat (hd a + d / 2)] = hd a + d / 2 := hs
      split
      · exact .stop rfl hbt (by rw [e]; omega) (by omega)
      · refine .next (by rw [e]; omega) (by rw [e]; omega) ?_
        rw [e, h]
        have : nx (hd a + d / 2) (hd a + d) b = none := by unfold nx; rw [if_pos (by omega)]
        rw [this]
        exact gap_wide
    · have e : hb (some [UInt8.ofNat (hd a + d / 2)]) = hd a + d / 2 := hs
      split
      · exact .stop ha (by intro l hl; cases hl; rfl) (by rw [e]) (by omega)
      · refine .next (by rw [e]; omega) (by rw [e]; omega) ?_
        rw [e]
        have : nx (hd a) (hd a + d / 2) (some [UInt8.ofNat (hd a + d / 2)]) = none := by unfold nx; rw [if_pos (by omega)]
        rw [this, ha]
        exact gap_wide
  | @next i a b d h1 h2 h ih =>
    obtain ⟨s, hg, ga, gb⟩ := ih
    have h3 := hd_lt a
    have hs : (UInt8.ofNat (hd a)).toNat = hd a := ofNat_toNat' _ h3
    refine ⟨UInt8.ofNat (hd a) :: s, ?_, ?_, ?_⟩
    · rw [go, if_neg h1, hg]; rfl
    · have e : hd (UInt8.ofNat (hd a) :: s) = hd a := hs
      split at ga
      · rename_i h5; rw [if_pos h5]; exact .next (by rw [e]; exact h1) (by rw [e]; exact h2) (by rw [e]; exact ga)
      · rename_i h5; rw [if_neg h5]; exact .next (by rw [e]; exact h1) (by rw [e]; exact h2) (by rw [e]; exact ga)
    · have e : hb (some (UInt8.ofNat (hd a) :: s)) = hd a := hs
      have e2 : nx (hd a) (hd a) (some (UInt8.ofNat (hd a) :: s)) = some s := by unfold nx; rw [if_neg (by omega)]; rfl
      split at gb
      · rename_i h5; rw [if_pos h5]; exact .next (by rw [e]; omega) (by rw [e]; omega) (by rw [e, e2]; exact gb)
      · rename_i h5; rw [if_neg h5]; exact .next (by rw [e]; omega) (by rw [e]; omega) (by rw [e, e2]; exact gb)

def At (c : Nat) (a : L) (b : Option L) : Prop := Gap (c / 8) a b (2 ^ (8 - c % 8))
theorem pow8 (t : Nat) (h : t < 8) : (2 ^ (8 - t) - 2 ^ (8 - t) / 2 = 2 ^ (8 - (t + 1))) ∧ (2 ^ (8 - t) / 2 = 2 ^ (8 - (t + 1))) := by
  match t, h with
  | 0, _ => decide
  | 1, _ => decide
  | 2, _ => decide
  | 3, _ => decide
  | 4, _ => decide
  | 5, _ => decide
  | 6, _ => decide
  | 7, _ => decide
theorem At.put {c : Nat} {a : L} {b : Option L} (h : At c a b) : ∃ s, go (c / 8 + 1) a b = some s ∧ At (c + 1) s b ∧ At (c + 1) a (some s) := by
  obtain ⟨s, hg, ga, gb⟩ := Gap.put h
  have ht : c % 8 < 8 := Nat.mod_lt _ (by decide)
  have hp := pow8 (c % 8) ht
  rw [hp.1] at ga
  rw [hp.2] at gb
  refine ⟨s, hg, ?_, ?_⟩
  · by_cases h7 : c % 8 = 7
    · rw [h7] at ga
      rw [if_neg (by decide)] at ga
      unfold At
      rw [show (c + 1) / 8 = c / 8 + 1 by omega, show (c + 1) % 8 = 0 by omega]
      exact ga
    · have : 2 ≤ 2 ^ (8 - (c % 8 + 1)) := by
        have : 2 ^ 1 ≤ 2 ^ (8 - (c % 8 + 1)) := Nat.pow_le_pow_right (by decide) (by omega)
        simpa using this
      rw [if_pos this] at ga
      unfold At
      rw [show (c + 1) / 8 = c / 8 by omega, show (c + 1) % 8 = c % 8 + 1 by omega]
      exact ga
  · by_cases h7 : c % 8 = 7
    · rw [h7] at gb
      rw [if_neg (by decide)] at gb
      unfold At
      rw [show (c + 1) / 8 = c / 8 + 1 by omega, show (c + 1) % 8 = 0 by omega]
      exact gb
    · have : 2 ≤ 2 ^ (8 - (c % 8 + 1)) := by
        have : 2 ^ 1 ≤ 2 ^ (8 - (c % 8 + 1)) := Nat.pow_le_pow_right (by decide) (by omega)
        simpa using this
      rw [if_pos this] at gb
      unfold At
      rw [show (c + 1) / 8 = c / 8 by omega, show (c + 1) % 8 = c % 8 + 1 by omega]
      exact gb
end Go.Ky
set_option linter.unusedVariables false
set_option linter.unusedSimpArgs false
namespace Go.Tr
open Go Go.Dv Go.Ky
def mkB (s : L) : ByteArray := ⟨s.toArray⟩
def ints (s : L) : List Int := s.map fun u => (u.toNat : Int)
theorem mkB_of (a : ByteArray) : mkB a.data.toList = a := by cases a; simp [mkB]
theorem mkB_data (s : L) : (mkB s).data.toList = s := by simp [mkB]
theorem len_data (a : ByteArray) : a.data.toList.length = a.size := by cases a; rfl
theorem str_ints (s : L) : ByteArray.mk ((List.map (fun n : Int => (UInt8.ofNat (Int.toNat n))) (ints s))).toArray = mkB s := by
  unfold ints mkB
  rw [List.map_map]
  congr 2
  conv => rhs; rw [← List.map_id s]
  apply List.map_congr_left
  intro u _
  simp
theorem ints_snoc (s : L) (n : Nat) (h : n < 256) : ints s ++ [(n : Int)] = ints (s ++ [UInt8.ofNat n]) := by
  unfold ints
  rw [List.map_append, List.map_singleton, ofNat_toNat' n h]
theorem ints_len (s : L) : (ints s).length = s.length := by simp [ints]
theorem getB_hd (a : ByteArray) (i : Nat) (h : i < a.size) : getB a (i : Int) = some ((hd (a.data.toList.drop i) : Nat) : Int) := by
  have h2 : i < a.data.toList.length := by rw [len_data]; exact h
  unfold getB
  rw [if_pos (by omega), toList_data, Int.toNat_natCast, List.getElem?_eq_getElem h2, List.drop_eq_getElem_cons h2]
  rfl
theorem key_at_hd (a : ByteArray) (i : Nat) : key_at (a, ((i : Int), (0 : Int))) = some ((hd (a.data.toList.drop i) : Nat) : Int) := by
  unfold key_at
  by_cases h : i < a.size
  · have e : (i : Int) < (a.size : Int) := by omega
    have := hd_lt (a.data.toList.drop i)
    simp only [e, decide_true, cond_true, getB_hd a i h, Option.bind_some]
    rw [Go.Dv.wrap_small (by omega) (by omega)]
  · have e : ¬ (i : Int) < (a.size : Int) := by omega
    simp only [e, decide_false, cond_false]
    rw [List.drop_eq_nil_of_le (by rw [len_data]; omega)]
    rfl
theorem key_at_hb (a : ByteArray) (i : Nat) : key_at (a, ((i : Int), (256 : Int))) = some ((hb (some (a.data.toList.drop i)) : Nat) : Int) := by
  unfold key_at
  by_cases h : i < a.size
  · have e : (i : Int) < (a.size : Int) := by omega
    have h2 : i < a.data.toList.length := by rw [len_data]; exact h
    have := hd_lt (a.data.toList.drop i)
    simp only [e, decide_true, cond_true, getB_hd a i h, Option.bind_some]
    rw [Go.Dv.wrap_small (by omega) (by omega), List.drop_eq_getElem_cons h2]
    rfl
  · have e : ¬ (i : Int) < (a.size : Int) := by omega
    simp only [e, decide_false, cond_false]
    rw [List.drop_eq_nil_of_le (by rw [len_data]; omega)]
    rfl
theorem wrap_u8 {n : Int} (h1 : 0 ≤ n) (h2 : n < 256) : IntKind.wrap .u8 n = n := by simp [IntKind.wrap, IntKind.bits, IntKind.signed]; omega
theorem midK (x y : Nat) (hx : x < 256) (hy : y ≤ 256) (h : x + 2 ≤ y) : IntKind.wrap .u8 (IntKind.wrap .i64 ((x : Int) + (IntKind.wrap .i64 (Int.tdiv (IntKind.wrap .i64 ((y : Int) - (x : Int))) 2)))) = ((x + (y - x) / 2 : Nat) : Int) := by
  rw [Go.Dv.wrap_small (n := (y : Int) - (x : Int)) (by omega) (by omega), Int.tdiv_eq_ediv_of_nonneg (by omega), Go.Dv.wrap_small (n := ((y : Int) - (x : Int)) / 2) (by omega) (by omega), Go.Dv.wrap_small (by omega) (by omega), wrap_u8 (by omega) (by omega)]
  omega
def resK : Option L → ByteArray × Int
  | none => (⟨#[]⟩, 5)
  | some s => (mkB s, 0)
def resAtK (acc : L) (r : Option L) : ByteArray × Int := resK (r.map (acc ++ ·))
def lft (left : Bool) (b : ByteArray) (i : Nat) : Option L := if left = true then none else some (b.data.toList.drop i)
theorem beq_castK (x y : Nat) : (((y : Nat) : Int) == ((x : Nat) : Int) + 1) = (y == x + 1) := by
  by_cases h : y = x + 1
  · subst h; simp
  · rw [beq_eq_false_iff_ne.mpr h]
    apply beq_eq_false_iff_ne.mpr
    omega
theorem lft_next (left : Bool) (b : ByteArray) (i x : Nat) : lft (left || hb (lft left b i) == x + 1) b (i + 1) = nx x (hb (lft left b i)) (lft left b i) := by
  unfold nx
  cases left with
  | true => simp [lft]
  | false =>
    by_cases e : hb (lft false b i) = x + 1
    · rw [if_pos e, e]; simp [lft]
    · rw [if_neg e, beq_eq_false_iff_ne.mpr e]; simp [lft]
theorem go_stop {n : Nat} {a : L} {b : Option L} (h : hd a + 2 ≤ hb b) : go (n + 1) a b = some [UInt8.ofNat (hd a + (hb b - hd a) / 2)] := by rw [go, if_pos h]
theorem go_next {n : Nat} {a : L} {b : Option L} (h : ¬ hd a + 2 ≤ hb b) : go (n + 1) a b = (go n a.tail (nx (hd a) (hb b) b)).map (UInt8.ofNat (hd a) :: ·) := by rw [go, if_neg h]
theorem resAtK_cons (acc : L) (x : UInt8) (r : Option L) : resAtK acc (r.map (x :: ·)) = resAtK (acc ++ [x]) r := by
  unfold resAtK
  cases r with
  | none => rfl
  | some s => simp
abbrev SK : Type := ByteArray × (ByteArray × (List Int × (Int × Bool)))
theorem between_loop {a b : ByteArray} {f : SK → Option (SK ⊕ (ByteArray × Int))}
    (h0 : ∀ (acc : L) (left : Bool), f (a, (b, (ints acc, ((64 : Int), left)))) = some (.inr (⟨#[]⟩, 5)))
    (h1 : ∀ (i : Nat) (acc : L) (left : Bool), i < 64 → acc.length = i → hd (a.data.toList.drop i) + 2 ≤ hb (lft left b i) → f (a, (b, (ints acc, ((i : Int), left)))) = some (.inr (mkB (acc ++ [UInt8.ofNat (hd (a.data.toList.drop i) + (hb (lft left b i) - hd (a.data.toList.drop i)) / 2)]), 0)))
    (h2 : ∀ (i : Nat) (acc : L) (left : Bool), i < 64 → acc.length = i → ¬ hd (a.data.toList.drop i) + 2 ≤ hb (lft left b i) → f (a, (b, (ints acc, ((i : Int), left)))) = some (.inl (a, (b, (ints (acc ++ [UInt8.ofNat (hd (a.data.toList.drop i))]), (((i + 1 : Nat) : Int), (left || hb (lft left b i) == hd (a.data.toList.drop i) + 1))))))) :
    ∀ (d i : Nat) (acc : L) (left : Bool), i + d = 64 → acc.length = i → iter f (a, (b, (ints acc, ((i : Int), left)))) = some (resAtK acc (go d (a.data.toList.drop i) (lft left b i)))
  | 0, i, acc, left, hi, hl => by
    obtain rfl : i = 64 := by omega
    exact iter_inr (h0 acc left)
  | d + 1, i, acc, left, hi, hl => by
    by_cases hc : hd (a.data.toList.drop i) + 2 ≤ hb (lft left b i)
    · rw [iter_inr (h1 i acc left (by omega) hl hc), go_stop hc]; rfl
    · rw [iter_inl (h2 i acc left (by omega) hl hc), go_next hc, resAtK_cons, between_loop h0 h1 h2 d (i + 1) _ _ (by omega) (by simp [hl]), lft_next, ← List.tail_drop]
def boundK (b : L) : Option L := if b = [] then none else some b
theorem lft_bound (b : ByteArray) (left : Bool) (h : left = decide (b.data.toList = [])) : lft left b 0 = boundK b.data.toList := by
  subst h
  unfold boundK lft
  by_cases e : b.data.toList = [] <;> simp [e]
noncomputable def mayK (a b : ByteArray) : Bool := (empB a || keyB a) && (empB b || (keyB b && Go.Op.bytesLess a.data.toList b.data.toList))
theorem emp_eq (a : ByteArray) : ((ByteArray.toList a) == (ByteArray.toList (ByteArray.mk ([]).toArray))) = empB a := toList_eq _ _
theorem emp_data (a : ByteArray) : empB a = decide (a.data.toList = []) := by
  rw [Bool.eq_iff_iff]
  simp only [empB, decide_eq_true_eq]
  constructor
  · rintro rfl; rfl
  · intro h
    have : a.data = #[] := Array.toList_inj.1 (by simpa using h)
    cases a; simp at this; rw [this]
theorem key_Between_eq (a b : ByteArray) : key_Between (a, b) = some (if mayK a b = true then resK (go 64 a.data.toList (boundK b.data.toList)) else (⟨#[]⟩, 1)) := by
  unfold key_Between
  have hguard : ((bif (Bool.not ((ByteArray.toList a) == (ByteArray.toList (ByteArray.mk ([]).toArray)))) then (((key_Is a)).bind fun x1 =>
      bif (Bool.not x1) then some true else
      bif (Bool.not ((ByteArray.toList b) == (ByteArray.toList (ByteArray.mk ([]).toArray)))) then (((key_Is b)).bind fun x2 =>
        bif (Bool.not x2) then some true else
        some (Bool.not (Go.Op.bytesLess (ByteArray.toList a) (ByteArray.toList b)))) else
      some false) else
    bif (Bool.not ((ByteArray.toList b) == (ByteArray.toList (ByteArray.mk ([]).toArray)))) then (((key_Is b)).bind fun x1 =>
      bif (Bool.not x1) then some true else
      some (Bool.not (Go.Op.bytesLess (ByteArray.toList a) (ByteArray.toList b)))) else
    some false)) = some (Bool.not (mayK a b)) := by
    simp only [emp_eq, key_Is_eq, Option.bind_some]
    simp only [toList_data]
    unfold mayK
    cases empB a <;> cases empB b <;> cases keyB a <;> cases keyB b <;> cases Go.Op.bytesLess a.data.toList b.data.toList <;> rfl
  simp only [hguard, Option.bind_some]
  cases hm : mayK a b with
  | false => rfl
  | true =>
    simp only [Bool.not_true, cond_false, if_true, emp_eq]
    rw [show ((a, (b, (([] : List Int), ((0 : Int), empB b)))) : SK) = (a, (b, (ints [], (((0 : Nat) : Int), empB b)))) from rfl, between_loop (a := a) (b := b) ?_ ?_ ?_ 64 0 [] (empB b) rfl rfl]
    · simp only [Option.bind_some]
      rw [lft_bound b _ (emp_data b)]
      simp only [List.drop_zero, resAtK]
      cases go 64 a.data.toList (boundK b.data.toList) <;> rfl
    · intro acc left
      rfl
    · intro i acc left hi hl hc
      have hx := hd_lt (a.data.toList.drop i)
      have hy := hb_le (lft left b i)
      have e1 : ((i : Int) == 64) = false := by rw [beq_eq_false_iff_ne]; omega
      have e2 : IntKind.wrap .i64 (((hd (a.data.toList.drop i) : Nat) : Int) + 2) = ((hd (a.data.toList.drop i) : Nat) : Int) + 2 := Go.Dv.wrap_small (by omega) (by omega)
      have hroom : ∀ n : Int, room (List.length (ints acc ++ [n])) 1 = true := fun n => room_small (by simp only [List.length_append, ints_len, List.length_cons, List.length_nil]; omega) (by decide)
      simp only [e1, cond_false, key_at_hd, Option.bind_some, key_at_hb, e2, hroom, cond_true]
      cases left with
      | true =>
        have e : hb (lft true b i) = 256 := rfl
        rw [e] at hc ⊢
        have e3 : ((hd (a.data.toList.drop i) : Nat) : Int) + 2 ≤ 256 := by omega
        have hm := midK (hd (a.data.toList.drop i)) 256 hx (by omega) hc
        simp only [show (((256 : Nat) : Int)) = 256 from rfl] at hm
        simp only [Bool.not_true, cond_false, Option.bind_some, e2, e3, decide_true, cond_true, hroom]
        rw [hm, ints_snoc _ _ (by omega), str_ints]
        rfl
      | false =>
        have e : lft false b i = some (b.data.toList.drop i) := rfl
        rw [e] at hc hy ⊢
        have e3 : ((hd (a.data.toList.drop i) : Nat) : Int) + 2 ≤ ((hb (some (b.data.toList.drop i)) : Nat) : Int) := by omega
        have hm := midK (hd (a.data.toList.drop i)) (hb (some (b.data.toList.drop i))) hx hy hc
        simp only [Bool.not_false, Option.bind_some, e2, e3, decide_true, cond_true, hroom]
        rw [hm, ints_snoc _ _ (by omega), str_ints]
        rfl
    · intro i acc left hi hl hc
      have hx := hd_lt (a.data.toList.drop i)
      have hy := hb_le (lft left b i)
      have e1 : ((i : Int) == 64) = false := by rw [beq_eq_false_iff_ne]; omega
      have e2 : IntKind.wrap .i64 (((hd (a.data.toList.drop i) : Nat) : Int) + 2) = ((hd (a.data.toList.drop i) : Nat) : Int) + 2 := Go.Dv.wrap_small (by omega) (by omega)
      have e4 : IntKind.wrap .i64 (((hd (a.data.toList.drop i) : Nat) : Int) + 1) = ((hd (a.data.toList.drop i) : Nat) : Int) + 1 := Go.Dv.wrap_small (by omega) (by omega)
      have hroom : ∀ n : Int, room (List.length (ints acc ++ [n])) 1 = true := fun n => room_small (by simp only [List.length_append, ints_len, List.length_cons, List.length_nil]; omega) (by decide)
      simp only [e1, cond_false, key_at_hd, Option.bind_some, key_at_hb, e2, e4, hroom, cond_true]
      have hroom2 : room (List.length (ints (acc ++ [UInt8.ofNat (hd (a.data.toList.drop i))]))) 1 = true := room_small (by rw [ints_len]; simp only [List.length_append, List.length_cons, List.length_nil]; omega) (by decide)
      cases left with
      | true =>
        have e : hb (lft true b i) = 256 := rfl
        rw [e] at hc
        have e3 : ¬ ((hd (a.data.toList.drop i) : Nat) : Int) + 2 ≤ 256 := by omega
        simp only [Bool.not_true, cond_false, Option.bind_some, e2, e4, e3, decide_false, cond_true, Bool.true_or, hroom2, wrap_nat (show i < 9223372036854775807 by omega), wrap_u8 (n := ((hd (a.data.toList.drop i) : Nat) : Int)) (by omega) (by omega), ints_snoc _ _ hx]
      | false =>
        have e : lft false b i = some (b.data.toList.drop i) := rfl
        rw [e] at hc hy ⊢
        have e3 : ¬ ((hd (a.data.toList.drop i) : Nat) : Int) + 2 ≤ ((hb (some (b.data.toList.drop i)) : Nat) : Int) := by omega
        simp only [Bool.not_false, Option.bind_some, e2, e4, e3, decide_false, cond_true, cond_false, Bool.false_or, beq_castK, hroom2, wrap_nat (show i < 9223372036854775807 by omega), wrap_u8 (n := ((hd (a.data.toList.drop i) : Nat) : Int)) (by omega) (by omega), ints_snoc _ _ hx]
end Go.Tr
set_option linter.unusedVariables false
set_option linter.unusedSimpArgs false
namespace Go.Tr
open Go Go.Dv Go.Ky
def lastK (K : List Nd) : ByteArray := match K.getLast? with
  | some n => n.2.2
  | none => ⟨#[]⟩
noncomputable def gapC (l : List Nd) (p : Sp) : ByteArray × Int :=
  if liveC l p = true then (if mayK (lastK (kidsC l p)) ⟨#[]⟩ = true then resK (go 64 (lastK (kidsC l p)).data.toList none) else (⟨#[]⟩, 1)) else (⟨#[]⟩, 3)
theorem Gap_root {s : Tree × List Lk} (p : Sp) (hs : Srt s.1.1) (hl : s.1.1.length < 999000) (ha : Acy s.1.1) : shape_Gap (s, (p, ((0, 0) : Sp))) = some (gapC s.1.1 p) := by
  have hsm : Sm s.1.1 := show s.1.1.length < 1000000 by omega
  have hkl := kids_len s.1.1 p
  unfold shape_Gap gapC
  simp only [Lives_C p hs hsm ha, Option.bind_some]
  cases liveC s.1.1 p with
  | false => rfl
  | true =>
    have hroot : ((((0 : Int), (0 : Int)) : Sp).1 == (stamp_Root ()).1 && (((0 : Int), (0 : Int)) : Sp).2 == (stamp_Root ()).2) = true := rfl
    simp only [Bool.not_true, cond_false, Children_eq s.1 p hsm, Option.bind_some, hroot, kidsC_eq p hs, if_true]
    rw [kidsC_eq p hs] at hkl
    generalize kidsC s.1.1 p = K at hkl ⊢
    have e0 : ¬ ((K.length : Int) < 0) := by omega
    simp only [e0, decide_false, cond_false, Int.lt_irrefl]
    have hB := key_Between_eq (lastK K) ⟨#[]⟩
    have hbd : boundK (ByteArray.mk #[]).data.toList = none := rfl
    rw [hbd] at hB
    cases hK : K.getLast? with
    | none =>
      have : K = [] := by simpa using hK
      subst this
      have hl0 : lastK [] = ⟨#[]⟩ := rfl
      rw [hl0] at hB ⊢
      have e1 : decide ((0 : Int) < ((0 : Nat) : Int)) = false := rfl
      have e2 : decide (((0 : Nat) : Int) < ((0 : Nat) : Int)) = false := rfl
      simp only [List.length_nil, e1, e2, cond_false, Option.bind_some, beq_self_eq_true, Bool.not_true, cond_true, hB]
    | some n =>
      have hne : K ≠ [] := by rintro rfl; simp at hK
      have hpos : 0 < K.length := List.length_pos_iff.2 hne
      have e1 : (0 : Int) < (K.length : Int) := by omega
      have hw : IntKind.wrap .i64 ((K.length : Int) - 1) = ((K.length - 1 : Nat) : Int) := by rw [Go.Dv.wrap_small] <;> omega
      have hg : getI K ((K.length - 1 : Nat) : Int) = some n := by rw [getI_nat, ← List.getLast?_eq_getElem?, hK]
      have hlk : lastK K = n.2.2 := by unfold lastK; rw [hK]
      rw [hlk] at hB ⊢
      simp only [e1, decide_true, cond_true, hw, hg, Option.bind_some, Int.lt_irrefl, decide_false, cond_false]
      rw [show ((ByteArray.mk ([]).toArray : ByteArray)) = ⟨#[]⟩ from rfl]
      cases hq : (ByteArray.toList n.2.2 == ByteArray.toList ⟨#[]⟩) with
      | true => simp only [Bool.not_true, cond_true, cond_false, hB, Option.bind_some]
      | false => simp only [cond_false, hB, Option.bind_some]
theorem Slot_root {s : St} (p : Sp) (h : OkS s) (h1 : s.1.length < 998000) (h2 : s.2.length < 998000) : shape_Slot (shp s, (p, ((0, 0) : Sp))) = some (gapC (made s.1).1 p) := by
  have n0 := nds0 s.1
  unfold shape_Slot
  simp only [IsShape_eq _ (sms_shp h (by omega) (by omega)), shpB_iff.2 ⟨s, h, rfl⟩, Option.bind_some, Bool.not_true, cond_false]
  rw [show shape_Gap (shp s, (p, ((0, 0) : Sp))) = some (gapC (made s.1).1 p) from Gap_root p n0.1 (by show (nds [] s.1).length < _; omega) n0.2.1]
  rfl
theorem keyB_k : keyB (ByteArray.mk #[107]) = true := by
  have := O_ok
  simp only [mvOk, Bool.and_eq_true] at this
  exact this.1.1.2
theorem O_op : opOk (arraslaw10_O ()) = true := by rw [← mv_op rfl]; exact O_ok
theorem made_O : (made [arraslaw10_O ()]).1 = [(((1 : Int), (0 : Int)), ((0 : Int), (0 : Int)), (ByteArray.mk ([107]).toArray))] := by
  simp [made, nds, doL, circ, ov, arraslaw10_O, putN]
theorem wakes17_eq : arraslaw17_wakes () = some true := by
  unfold arraslaw17_wakes
  have h1 := shape_Apply_eq (s := ([], [])) (o := arraslaw10_O ()) oks_nil (by decide) (by decide) (by simp [arraslaw10_O])
  have hc : clash ([], []) (arraslaw10_O ()) = false := rfl
  have hp : putS ([], []) (arraslaw10_O ()) = ([arraslaw10_O ()], []) := rfl
  rw [O_op, hc, hp] at h1
  simp only [if_true, Bool.false_eq_true, if_false] at h1
  rw [show ((([], []), []) : Tree × List Lk) = shp ([], []) from rfl, h1]
  have ho : OkS ([arraslaw10_O ()], []) := by have := putS_ok oks_nil O_op hc; rwa [hp] at this
  have h2 := Slot_root ((0, 0) : Sp) ho (by decide) (by decide)
  simp only [Option.bind_some, h2]
  have hk : kidsC (made [arraslaw10_O ()]).1 ((0, 0) : Sp) = [(((1 : Int), (0 : Int)), ((0 : Int), (0 : Int)), (ByteArray.mk ([107]).toArray))] := by
    rw [made_O]; simp [kidsC, insK, posK]
  have hg : gapC (made [arraslaw10_O ()]).1 ((0, 0) : Sp) = (mkB [181], 0) := by
    unfold gapC
    rw [hk, show liveC (made [arraslaw10_O ()]).1 ((0, 0) : Sp) = true from by simp [liveC, liveB, rootB]]
    have : lastK [((((1 : Int), (0 : Int)), ((0 : Int), (0 : Int)), (ByteArray.mk ([107]).toArray)) : Nd)] = ByteArray.mk #[107] := rfl
    rw [this, show mayK (ByteArray.mk #[107]) ⟨#[]⟩ = true from by simp [mayK, keyB_k, empB], if_pos rfl, if_pos rfl, go_stop (by decide)]
    rfl
  rw [hg]
  simp only [num17_eq, toList_data, mkB_data]
  rfl
theorem ShapeWeight_eq (s : Tree × List Lk) (h1 : s.1.1.length ≤ 140737488355328) (h2 : s.1.2.length ≤ 140737488355328) (hn : ∀ n ∈ s.1.1, BNd n) (he : ∀ e ∈ s.1.2, BEn e) (h3 : s.2.length ≤ 140737488355328) (hr : ∀ q ∈ s.2, q.2.length ≤ 140737488355328) :
    ∃ m : Int, arraslaw0_ShapeWeight s = some m ∧ (s.1.1.length : Int) + (s.1.2.length : Int) + (s.2.length : Int) ≤ m ∧ m ≤ 4000000000000000 ∧ (m < 1048576 → (∀ e ∈ s.1.2, (e.1.2.2.1.length : Int) ≤ m) ∧ ∀ q ∈ s.2, (q.2.length : Int) ≤ m) := by
  obtain ⟨a, a1, a2, a3, a4⟩ := TreeWeight_eq s.1 h1 h2 hn he
  have hb : ∀ i, i < s.2.length → (s.2.getD i default).2.length ≤ 140737488355328 := fun i hi => hr _ (getD_mem hi)
  unfold arraslaw0_ShapeWeight
  have hw : IntKind.wrap .i64 (a + (s.2.length : Int)) = a + (s.2.length : Int) := by rw [Go.Dv.wrap_small] <;> omega
  simp only [a1, Option.bind_some, hw]
  obtain ⟨m, g1, g2, g3, g4⟩ := wloop (f := fun x : (Int × (Int × (Tree × List Lk))) =>
      bif (bif (decide ((x.2.1 < ((List.length x.2.2.2) : Int)))) then (decide ((x.1 < 1048576))) else false) then (((getI x.2.2.2 x.2.1)).bind fun x2 =>
        some (.inl ((IntKind.wrap .i64 (x.1 + ((List.length x2.2) : Int))), ((IntKind.wrap .i64 (x.2.1 + 1)), x.2.2)))) else
      some (.inr (x.1, x.2.2))) (fun n i => (n, ((i : Int), s))) (fun n => (n, s)) s.2.length (fun i => ((s.2.getD i default).2.length : Int)) 300000000000000
    (fun i hi => by have := hb i hi; omega)
    (fun i n hi hn hn2 => by
      have e1 : (i : Int) < (s.2.length : Int) := by omega
      have := hb i hi
      simp only [e1, hn2, decide_true, cond_true, getI_D s.2 i hi, Option.bind_some, wrap_nat (show i < 9223372036854775807 by omega)]
      rw [Go.Dv.wrap_small] <;> omega)
    (fun i n hn hc => by
      by_cases e1 : (i : Int) < (s.2.length : Int)
      · have e2 : ¬ n < 1048576 := by omega
        simp [e1, e2]
      · simp [e1]) s.2.length 0 (a + (s.2.length : Int)) (by omega) (by omega)
  refine ⟨m, ?_, by omega, by omega, fun hm => ⟨fun e hmem => ?_, fun q hmem => ?_⟩⟩
  · rw [show (((a + (s.2.length : Int)), ((0 : Int), s)) : Int × (Int × (Tree × List Lk))) = (a + (s.2.length : Int), (((0 : Nat) : Int), s)) from rfl, g1]
    rfl
  · have := a4 (by omega) e hmem; omega
  · obtain ⟨j, hj, rfl⟩ := List.mem_iff_getElem.1 hmem
    have := g4 hm j (by omega) hj
    have e : s.2.getD j default = s.2[j] := by rw [List.getD_eq_getElem?_getD, List.getElem?_eq_getElem hj]; rfl
    simp only [e] at this
    exact this
structure Light (x : Script_arraslaw17) : Prop where
  s : SmS x.1
  n : x.1.1.1.length ≤ 3000
  m : x.1.1.2.length ≤ 60
  k : x.1.2.length ≤ 3000
  l : x.2.1.length ≤ 3000
  i : x.2.2.length ≤ 200
  d : ∀ o ∈ x.2.1, o.2.2.1.length ≤ 3000
theorem Heavy17_eq (x : Script_arraslaw17) (h : Bnd sScript_arraslaw17 x) : ∃ b, arraslaw17_Heavy x = some b ∧ (b = false → Light x) := by
  obtain ⟨⟨⟨⟨h1, h2⟩, h3, h4⟩, h5, h6⟩, ⟨h7, h8⟩, h9, h10⟩ := h
  obtain ⟨m, m1, m2, m3, m4⟩ := ShapeWeight_eq x.1 h1 h3 (fun n hn => bnd_nd (h2 n hn)) (fun e he => bnd_en (h4 e he)) h5 (fun q hq => (h6 q hq).2.1)
  obtain ⟨k, k1, k2, k3, k4⟩ := OpsWeight_eq x.2.1 h7 (fun o ho => bnd_op (h8 o ho))
  unfold arraslaw17_Heavy
  have hw : IntKind.wrap .i64 (m + k) = m + k := by rw [Go.Dv.wrap_small] <;> omega
  simp only [m1, k1, Option.bind_some, hw]
  by_cases c1 : 3000 < m + k
  · exact ⟨true, by simp [c1], by simp⟩
  · by_cases c2 : (60 : Int) < (x.1.1.2.length : Int)
    · exact ⟨true, by simp [c1, c2], by simp⟩
    · refine ⟨decide ((200 : Int) < (x.2.2.length : Int)), by simp [c1, c2], fun hb => ?_⟩
      have hb : ¬ (200 : Int) < (x.2.2.length : Int) := by simpa using hb
      obtain ⟨p1, p2⟩ := m4 (by omega)
      refine ⟨⟨by omega, by omega, fun e he => ?_, by omega, fun q hq => ?_⟩, by omega, by omega, by omega, by omega, by omega, fun o ho => ?_⟩
      · have := p1 e he; unfold Sm; omega
      · have := p2 q hq; omega
      · have := (k4 (by omega) o ho).1; omega
end Go.Tr
