/- A part of the proof: TrR1, TrR2, TrK, TrR3, TrR4, TrR5. -/
import Derived.Test.YtlfkabehppdohaaGreatTrC
set_option linter.unusedVariables false
set_option linter.unusedSimpArgs false
namespace Go.Tr
open Go Go.Dv
def fnd (l : List Nd) (id : Sp) : Int := if (look l id).isSome = true then ((posN l id : Nat) : Int) else -1
theorem rFind_eq {l : List Nd} (id : Sp) (hs : Srt l) (hl : Sm l) : arrasref16_Find (l, id) = some (fnd l id) := by
  have hl' : l.length < 1000000 := hl
  unfold arrasref16_Find fnd
  have step : ∀ i : Nat, i < l.length → ∀ n, l[i]? = some n → n.1 ≠ id → ((fun s : (List Nd × (Int × Sp)) =>
      bif (decide ((s.2.1 < ((List.length s.1) : Int)))) then (((getI s.1 s.2.1)).bind fun x1 =>
        bif ((x1.1.1 == s.2.2.1) && (x1.1.2 == s.2.2.2)) then some (.inr (.inr s.2.1)) else
        some (.inl (s.1, ((IntKind.wrap .i64 (s.2.1 + 1)), s.2.2)))) else
      some (.inr (.inl s.2.2))) (l, ((i : Int), id)) : Option ((List Nd × (Int × Sp)) ⊕ (Sp ⊕ Int))) = some (.inl (l, (((i + 1 : Nat) : Int), id))) := by
    intro i hi n hn hne
    have e1 : (i : Int) < (l.length : Int) := by omega
    simp only [e1, decide_true, cond_true, getI_nat, hn, Option.bind_some, two_eq, hne, decide_false, cond_false, wrap_nat (show i < 9223372036854775807 by omega)]
  cases h : look l id with
  | some n =>
    have hp := look_some_pos hs h
    have hpl : posN l id < l.length := by
      rcases Nat.lt_or_ge (posN l id) l.length with h1 | h1
      · exact h1
      · rw [List.getElem?_eq_none h1] at hp; cases hp
    rw [iter_run' (fun i => (l, ((i : Int), id))) (posN l id) (r := .inr ((posN l id : Nat) : Int))]
    · simp
    · intro i hi
      have hil : i < l.length := by omega
      refine step i hil _ (List.getElem?_eq_getElem hil) ?_
      exact slt_ne ((posN_below hs (List.getElem?_eq_getElem hil)).1 hi)
    · have e1 : ((posN l id : Nat) : Int) < (l.length : Int) := by omega
      simp only [e1, decide_true, cond_true, getI_nat, hp, Option.bind_some, two_eq, (look_id h).1]
  | none =>
    rw [iter_run' (fun i => (l, ((i : Int), id))) l.length (r := .inl id)]
    · simp
    · intro i hi
      exact step i hi _ (List.getElem?_eq_getElem hi) (look_none h _ (List.getElem_mem hi))
    · simp
theorem rabove_loop {t : Tree} {id : Sp} (hs : Srt t.1) (hl : Sm t.1) {f : (Int × (List Sp × (Tree × Sp))) → Option ((Int × (List Sp × (Tree × Sp))) ⊕ (List Sp × (Tree × Sp)))}
    (hf : ∀ (a : List Sp) (s : Sp) (m : Nd), a.length < 999999 → look t.1 s = some m → f (((posN t.1 s : Nat) : Int), (a, (t, id))) = some (.inl (fnd t.1 m.2.1, (a ++ [m.2.1], (t, id)))))
    (hout : ∀ a, f (-1, (a, (t, id))) = some (.inr (a, (t, id)))) :
    ∀ (n : Nat) (a : List Sp) (s : Sp) (m : Nd), EndsIn t.1 (n + 1) s → look t.1 s = some m → a.length + n < 999999 → iter f (((posN t.1 s : Nat) : Int), (a, (t, id))) = some (a ++ ups t.1 (n + 1) s, (t, id))
  | n, a, s, m, h, hm, hlen => by
    have hpar : par t.1 s = some m.2.1 := by simp [par, hm]
    obtain ⟨p, hp, h2⟩ := h
    obtain rfl : p = m.2.1 := by rw [hpar] at hp; exact (Option.some.inj hp).symm
    rw [iter_inl (hf a s m (by omega) hm)]
    cases n with
    | zero =>
      have h2 : look t.1 m.2.1 = none := by simpa [EndsIn, par] using h2
      rw [show fnd t.1 m.2.1 = -1 by simp [fnd, h2], iter_inr (hout _)]
      simp [ups, hpar]
    | succ n =>
      obtain ⟨q, hq, h3⟩ := h2
      have hq' := hq
      simp only [par, Option.map_eq_some_iff] at hq
      obtain ⟨k, hk, _⟩ := hq
      rw [show fnd t.1 m.2.1 = ((posN t.1 m.2.1 : Nat) : Int) by simp [fnd, hk], rabove_loop hs hl hf hout n _ _ k ⟨q, hq', h3⟩ hk (by simp only [List.length_append, List.length_cons, List.length_nil]; omega)]
      rw [ups.eq_2 t.1 s (n + 1), hpar]
      simp
theorem rAbove_eq {t : Tree} (hs : Srt t.1) (hl : Sm t.1) {n : Nat} {s : Sp} (h : EndsIn t.1 n s) (hn : t.1.length < 999990) : arrasref16_Above (t, s) = some (if (look t.1 s).isSome = true then (ups t.1 n s, true) else ([], false)) := by
  have hle := ends_le h
  unfold arrasref16_Above
  simp only [rFind_eq s hs hl, Option.bind_some]
  cases hk : look t.1 s with
  | none => simp [fnd, hk]
  | some m =>
    have e1 : ¬ (((posN t.1 s : Nat) : Int) < 0) := by omega
    cases n with
    | zero => simp only [EndsIn, par, hk] at h; cases h
    | succ n =>
      simp only [show fnd t.1 s = ((posN t.1 s : Nat) : Int) by simp [fnd, hk], e1, decide_false, cond_false, Option.isSome_some, if_true]
      rw [rabove_loop hs hl ?_ ?_ n [] s m h hk (by simp; omega)]
      · simp
      · intro a q k ha hq
        have e2 : (0 : Int) ≤ ((posN t.1 q : Nat) : Int) := by omega
        have hr : room (List.length (a ++ [k.2.1])) 16 = true := room_small (by simp only [List.length_append, List.length_cons, List.length_nil]; omega) (by decide)
        simp only [e2, decide_true, cond_true, getI_pos hs hq, Option.bind_some, hr, rFind_eq _ hs hl]
      · intro a; rfl
end Go.Tr
set_option linter.unusedVariables false
set_option linter.unusedSimpArgs false
namespace Go.Tr
open Go Go.Dv
def rootB (s : Sp) : Bool := decide (s = (0, 0))
theorem root_eq (s : Sp) : ((s.1 == (stamp_Root ()).1) && (s.2 == (stamp_Root ()).2)) = rootB s := two_eq s (stamp_Root ())
theorem rroot_eq (s : Sp) : ((s.1 == (arrasref6_Root ()).1) && (s.2 == (arrasref6_Root ()).2)) = rootB s := two_eq s (arrasref6_Root ())
def liveB (l : List Nd) (n : Nat) (s : Sp) : Bool := rootB s || match (ups l n s).getLast? with
  | some r => rootB r
  | none => false
theorem getI_last {u : List Sp} (h : 0 < u.length) (hl : u.length < 1000000) : getI u (IntKind.wrap .i64 (((u.length : Nat) : Int) - 1)) = u.getLast? := by
  rw [Go.Dv.wrap_small (by omega) (by omega), show ((u.length : Nat) : Int) - 1 = ((u.length - 1 : Nat) : Int) by omega, getI_nat, List.getLast?_eq_getElem?]
theorem ups_sm {l : List Nd} {n : Nat} {s : Sp} (h : EndsIn l n s) (hl : l.length < 1000000) : (ups l n s).length < 1000000 := by
  have := ends_le h; rw [ups_len h]; omega
theorem last_some {u : List Sp} (h : 0 < u.length) : ∃ r, u.getLast? = some r := by
  cases hu : u.getLast? with
  | none => rw [List.getLast?_eq_none_iff] at hu; subst hu; simp at h
  | some r => exact ⟨r, rfl⟩
theorem Lives_eq {t : Tree} (hs : Srt t.1) (hl : Sm t.1) {n : Nat} {s : Sp} (h : EndsIn t.1 n s) : tree_Lives (t, s) = some (liveB t.1 n s) := by
  have hu := ups_sm h hl
  unfold tree_Lives
  simp only [Up_eq hs hl h, Option.bind_some, root_eq]
  unfold liveB
  cases rootB s with
  | true => rfl
  | false =>
    simp only [cond_false, Bool.false_or]
    by_cases h0 : 0 < (ups t.1 n s).length
    · have e1 : (0 : Int) < (((ups t.1 n s).length : Nat) : Int) := by omega
      obtain ⟨r, hr⟩ := last_some h0
      simp only [e1, decide_true, cond_true, getI_last h0 hu, hr, Option.bind_some, root_eq]
    · have h1 : ups t.1 n s = [] := List.length_eq_zero_iff.1 (by omega)
      simp [h1]
theorem rLive_eq {t : Tree} (hs : Srt t.1) (hl : Sm t.1) (hn : t.1.length < 999990) {n : Nat} {s : Sp} (h : EndsIn t.1 n s) : arrasref16_Live (t, s) = some (liveB t.1 n s) := by
  have hu := ups_sm h hl
  unfold arrasref16_Live
  simp only [rAbove_eq hs hl h hn, Option.bind_some, rroot_eq]
  unfold liveB
  cases rootB s with
  | true => rfl
  | false =>
    simp only [cond_false, Bool.false_or]
    cases hk : look t.1 s with
    | none =>
      have hz : n = 0 := by
        cases n with
        | zero => rfl
        | succ n => obtain ⟨p, hp, _⟩ := h; simp [par, hk] at hp
      subst hz
      simp [ups]
    | some m =>
      have hz : 0 < n := by
        cases n with
        | zero => simp only [EndsIn, par, hk] at h; cases h
        | succ n => omega
      have h0 : 0 < (ups t.1 n s).length := by rw [ups_len h]; exact hz
      obtain ⟨r, hr⟩ := last_some h0
      simp only [Option.isSome_some, if_true, cond_true, getI_last h0 hu, hr, Option.bind_some, rroot_eq]
end Go.Tr
set_option linter.unusedVariables false
set_option linter.unusedSimpArgs false
namespace Go.Tr
open Go Go.Dv Go.Sort Go.Proofs
theorem filter_srt {l : List Nd} (p : Nd → Bool) (h : Srt l) : Srt (l.filter p) := List.Pairwise.filter p h
theorem kids_srt {l : List Nd} (id : Sp) (hs : Srt l) : (kids l id).Pairwise klt := by
  have hp := kids_perm l id
  have h2 := (sortL_perm (l.filter fun n => decide (n.2.1 = id))).2
  have hne : (kids l id).Pairwise fun a b => a.1 ≠ b.1 := by
    refine (hp.pairwise_iff (fun h => Ne.symm h)).2 ?_
    exact List.Pairwise.imp (fun h => slt_ne h) (filter_srt _ hs)
  rw [List.pairwise_iff_getElem] at hne ⊢
  intro i j hi hj hij
  have hlen : (kids l id).length = (l.filter fun n => decide (n.2.1 = id)).length := hp.length_eq
  have h3 := h2 i j (Nat.zero_le _) hij (by omega)
  rw [ltOf_cf, decide_eq_false_iff_not] at h3
  have hk : kids l id = (pdq (ltOf cf_slices_SortFunc_Node) (l.filter fun n => decide (n.2.1 = id)).toArray 0 (l.filter fun n => decide (n.2.1 = id)).length (Lib.bitLen (l.filter fun n => decide (n.2.1 = id)).length) true true).toList := rfl
  generalize pdq (ltOf cf_slices_SortFunc_Node) (l.filter fun n => decide (n.2.1 = id)).toArray 0 (l.filter fun n => decide (n.2.1 = id)).length (Lib.bitLen (l.filter fun n => decide (n.2.1 = id)).length) true true = D at h3 hk
  have e : ∀ (k : Nat) (h : k < (kids l id).length), D[k]! = (kids l id)[k] := by
    intro k h
    have hD : k < D.size := by rw [hk] at h; simpa using h
    simp [hk, hD]
  rw [e i hi, e j hj] at h3
  have := hne i j hi hj hij
  rcases klt_tri (kids l id)[i] (kids l id)[j] with h | h | h
  · exact h
  · exact absurd h h3
  · exact absurd h.1 this
theorem klt_unique {a b : List Nd} (hp : a.Perm b) (ha : a.Pairwise klt) (hb : b.Pairwise klt) : a = b :=
  hp.eq_of_pairwise (fun x y _ _ h k => absurd (klt_trans h k) (klt_irr _)) ha hb
def kle (m n : Nd) : Bool := decide (m.2.2.data.toList ≤ n.2.2.data.toList)
def posK : List Nd → Nd → Nat
  | [], _ => 0
  | m :: l, n => if kle m n = true then posK l n + 1 else 0
def insK (l : List Nd) (n : Nd) : List Nd := l.take (posK l n) ++ n :: l.drop (posK l n)
theorem posK_le : ∀ (l : List Nd) (n : Nd), posK l n ≤ l.length
  | [], _ => Nat.le_refl _
  | m :: l, n => by simp only [posK]; split <;> simp [posK_le l n]
theorem insK_perm (l : List Nd) (n : Nd) : (insK l n).Perm (n :: l) := by
  unfold insK
  have := List.perm_middle (a := n) (l₁ := l.take (posK l n)) (l₂ := l.drop (posK l n))
  rwa [List.take_append_drop] at this
theorem insK_len (l : List Nd) (n : Nd) : (insK l n).length = l.length + 1 := by rw [(insK_perm l n).length_eq]; rfl
theorem insK_cons (m : Nd) (l : List Nd) (n : Nd) : insK (m :: l) n = if kle m n = true then m :: insK l n else n :: m :: l := by
  by_cases h : kle m n = true
  · rw [if_pos h, insK, show posK (m :: l) n = posK l n + 1 by simp [posK, h]]; rfl
  · rw [if_neg h, insK, show posK (m :: l) n = 0 by simp [posK, h]]; rfl
theorem insK_srt : ∀ {l : List Nd} {n : Nd}, l.Pairwise klt → (∀ m ∈ l, slt m.1 n.1) → (insK l n).Pairwise klt
  | [], n, _, _ => by simp [insK, posK]
  | m :: l, n, h, hb => by
    obtain ⟨h1, h2⟩ := List.pairwise_cons.1 h
    rw [insK_cons]
    split
    · rename_i hk
      refine List.pairwise_cons.2 ⟨fun q hq => ?_, insK_srt h2 fun q hq => hb q (List.mem_cons_of_mem _ hq)⟩
      rcases List.mem_cons.1 ((insK_perm l n).mem_iff.1 hq) with rfl | hq
      · have hk : m.2.2.data.toList ≤ q.2.2.data.toList := by simpa [kle] using hk
        rcases List.le_iff_lt_or_eq.1 hk with h | h
        · exact .inl h
        · exact .inr ⟨h, hb m (List.mem_cons_self ..)⟩
      · exact h1 q hq
    · rename_i hk
      have hk : n.2.2.data.toList < m.2.2.data.toList := by simpa [kle] using hk
      have hnm : klt n m := .inl hk
      refine List.pairwise_cons.2 ⟨fun q hq => ?_, h⟩
      rcases List.mem_cons.1 hq with rfl | hq
      · exact hnm
      · exact klt_trans hnm (h1 q hq)
theorem foldK : ∀ {f a : List Nd}, Srt f → a.Pairwise klt → (∀ x ∈ a, ∀ y ∈ f, slt x.1 y.1) → (f.foldl insK a).Pairwise klt ∧ (f.foldl insK a).Perm (f ++ a)
  | [], a, _, ha, _ => ⟨ha, List.Perm.refl _⟩
  | n :: f, a, hs, ha, hx => by
    obtain ⟨h1, h2⟩ := List.pairwise_cons.1 hs
    obtain ⟨k1, k2⟩ := foldK (f := f) (a := insK a n) h2 (insK_srt ha fun m hm => hx m hm n (List.mem_cons_self ..)) (fun x hm y hy => by
      rcases List.mem_cons.1 ((insK_perm a n).mem_iff.1 hm) with rfl | hm
      · exact h1 y hy
      · exact hx x hm y (List.mem_cons_of_mem _ hy))
    refine ⟨k1, k2.trans ?_⟩
    refine ((insK_perm a n).append_left f).trans ?_
    exact List.perm_middle (a := n) (l₁ := f) (l₂ := a)
theorem kids_fold {l : List Nd} (id : Sp) (hs : Srt l) : kids l id = (l.filter fun n => decide (n.2.1 = id)).foldl insK [] := by
  obtain ⟨h1, h2⟩ := foldK (a := []) (filter_srt (fun n => decide (n.2.1 = id)) hs) (by simp) (by simp)
  rw [List.append_nil] at h2
  exact klt_unique ((kids_perm l id).trans h2.symm) (kids_srt id hs) h1
end Go.Tr
set_option linter.unusedVariables false
set_option linter.unusedSimpArgs false
namespace Go.Tr
open Go Go.Dv
theorem copy_loop {α : Type} {l : List α} {f : (List α × (List α × Int)) → Option ((List α × (List α × Int)) ⊕ List α)}
    (hf : ∀ (i : Nat), i < l.length → f (l, (l.take i, (i : Int))) = some (.inl (l, (l.take (i + 1), ((i + 1 : Nat) : Int))))) (he : f (l, (l, (l.length : Int))) = some (.inr l)) : iter f (l, ([], (0 : Int))) = some l := by
  rw [iter_run' (inv := fun i => (l, (l.take i, (i : Int)))) (k := l.length) (r := l) hf (by simpa using he) (by simp)]
theorem take_snoc {α : Type} [Inhabited α] {l : List α} {i : Nat} (h : i < l.length) : l.take (i + 1) = l.take i ++ [l.getD i default] := by
  have e : l.getD i default = l[i] := by rw [List.getD_eq_getElem?_getD, List.getElem?_eq_getElem h]; rfl
  rw [List.take_add_one, List.getElem?_eq_getElem h, e]; rfl
theorem CopyNodes_eq (l : List Nd) (h : Sm l) : arrasref0_CopyNodes l = some l := by
  have h' : l.length < 1000000 := h
  unfold arrasref0_CopyNodes
  rw [copy_loop]
  · rfl
  · intro i hi
    have e1 : (i : Int) < (l.length : Int) := by omega
    have hr : room (List.length (l.take i ++ [l.getD i default])) 48 = true := room_small (by simp only [List.length_append, List.length_take, List.length_cons, List.length_nil]; omega) (by decide)
    simp only [e1, decide_true, cond_true, getI_D l i hi, Option.bind_some, hr, wrap_nat (show i < 9223372036854775807 by omega), take_snoc hi]
  · simp
end Go.Tr
set_option linter.unusedVariables false
set_option linter.unusedSimpArgs false
namespace Go.Tr
open Go Go.Dv
noncomputable def okR (os : List Op') (i : Nat) : Bool := mvOk (os.getD i default) && (decide (i = 0) || decide (slt (os.getD (i - 1) default).1 (os.getD i default).1))
end Go.Tr
set_option linter.unusedVariables false
set_option linter.unusedSimpArgs false
namespace Go.Tr
open Go Go.Dv
theorem bless_eq : ∀ (x y : List UInt8), Go.Op.bytesLess x y = decide (x < y)
  | x, [] => by simp [Go.Op.bytesLess]
  | [], b :: y => by simp [Go.Op.bytesLess]
  | a :: x, b :: y => by
    rw [Go.Op.bytesLess, bless_eq x y]
    simp only [List.cons_lt_cons_iff]
    by_cases h1 : a < b <;> by_cases h2 : a = b <;> by_cases h3 : x < y <;> simp [h1, h2, h3]
theorem kle_eq (m n : Nd) : (Go.Op.bytesLess (ByteArray.toList m.2.2) (ByteArray.toList n.2.2) || (ByteArray.toList m.2.2 == ByteArray.toList n.2.2)) = kle m n := by
  rw [bless_eq, toList_data, toList_data, kle, Bool.eq_iff_iff]
  simp only [Bool.or_eq_true, decide_eq_true_eq, beq_iff_eq, List.le_iff_lt_or_eq]
theorem posK_lt : ∀ {a : List Nd} {n q : Nd} {j : Nat}, j < posK a n → a[j]? = some q → kle q n = true
  | [], n, q, j, h, _ => by simp [posK] at h
  | m :: a, n, q, 0, h, hq => by
    simp at hq; subst hq
    simp only [posK] at h
    split at h
    · assumption
    · omega
  | m :: a, n, q, j + 1, h, hq => by
    simp only [posK] at h
    split at h
    · exact posK_lt (a := a) (j := j) (by omega) (by simpa using hq)
    · omega
theorem posK_at : ∀ {a : List Nd} {n q : Nd}, a[posK a n]? = some q → kle q n = false
  | [], n, q, h => by simp at h
  | m :: a, n, q, h => by
    by_cases hk : kle m n = true
    · rw [show posK (m :: a) n = posK a n + 1 by simp [posK, hk]] at h
      exact posK_at (a := a) (by simpa using h)
    · rw [show posK (m :: a) n = 0 by simp [posK, hk]] at h
      simp at h; subst h; simpa using hk
theorem fold_len : ∀ (f a : List Nd), (f.foldl insK a).length = a.length + f.length
  | [], a => rfl
  | n :: f, a => by simp only [List.foldl_cons, fold_len f, insK_len, List.length_cons]; omega
theorem map_loop {α β σ ρ : Type} [Inhabited α] {l : List α} {g : α → β} {f : σ → Option (σ ⊕ ρ)} (inv : List β → Nat → σ) (out : List β → ρ) (hl : l.length < 999990)
    (hf : ∀ (a : List β) (i : Nat), a.length ≤ i → i < l.length → f (inv a i) = some (.inl (inv (a ++ [g (l.getD i default)]) (i + 1)))) (he : ∀ a, f (inv a l.length) = some (.inr (out a))) {s0 : σ} (h0 : s0 = inv [] 0 := by rfl) : iter f s0 = some (out (l.map g)) := by
  rw [iter_run' (inv := fun i => inv ((l.take i).map g) i) (k := l.length) (r := out (l.map g)) ?_ ?_ (by rw [h0]; simp)]
  · intro i hi
    rw [hf _ i (by simp only [List.length_map, List.length_take]; omega) hi, take_snoc hi]; simp
  · rw [he]; simp
theorem rKids_eq {t : Tree} (id : Sp) (hs : Srt t.1) (hl : Sm t.1) (hn : t.1.length < 999990) : arrasref16_Kids (t, id) = some ((kids t.1 id).map (·.1)) := by
  have hl' : t.1.length < 1000000 := hl
  unfold arrasref16_Kids
  let F : Nat → List Nd := fun i => ((t.1.take i).filter fun n => decide (n.2.1 = id)).foldl insK []
  have hF : ∀ i, (F i).length ≤ i := fun i => by
    simp only [F, fold_len, List.length_nil, Nat.zero_add]
    exact Nat.le_trans (List.length_filter_le _ _) (by rw [List.length_take]; omega)
  rw [iter_run' (inv := fun i : Nat => (F i, ((i : Int), (t, id)))) (k := t.1.length) (r := (F t.1.length, (t, id)))]
  · simp only [Option.bind_some]
    have e : F t.1.length = kids t.1 id := by simp only [F, List.take_length]; exact (kids_fold id hs).symm
    rw [e]
    have hk := kids_len t.1 id
    rw [map_loop (l := kids t.1 id) (g := fun n : Nd => n.1) (inv := fun a i => (kids t.1 id, (a, ((i : Int), (t, id))))) (out := fun a => (a, (t, id))) (by omega)]
    · rfl
    · intro a i ha hi
      have e1 : (i : Int) < ((kids t.1 id).length : Int) := by omega
      have hr : room (List.length (a ++ [((kids t.1 id).getD i default).1])) 16 = true := room_small (by simp only [List.length_append, List.length_cons, List.length_nil]; omega) (by decide)
      simp only [e1, decide_true, cond_true, getI_D _ i hi, Option.bind_some, hr, wrap_nat (show i < 9223372036854775807 by omega)]
    · intro a
      simp
  · intro i hi
    have e1 : (i : Int) < (t.1.length : Int) := by omega
    have hFi := hF i
    have ht : F (i + 1) = if (t.1.getD i default).2.1 = id then insK (F i) (t.1.getD i default) else F i := by
      simp only [F, take_snoc hi, List.filter_append, List.filter_cons, List.filter_nil, decide_eq_true_eq, List.foldl_append]
      split <;> simp
    simp only [e1, decide_true, cond_true, getI_D t.1 i hi, Option.bind_some, two_eq, wrap_nat (show i < 9223372036854775807 by omega), ht]
    generalize F i = a at hFi ⊢
    generalize t.1.getD i default = n
    have hp := posK_le a n
    by_cases hc : n.2.1 = id
    · simp only [hc, decide_true, Bool.not_true, cond_false, if_true]
      rw [iter_run' (inv := fun j : Nat => (a, ((i : Int), ((j : Int), (t, (id, n)))))) (k := posK a n) (r := (a, ((i : Int), (((posK a n : Nat) : Int), (t, (id, n))))))]
      · have e2 : (0 : Int) ≤ ((posK a n : Nat) : Int) := by omega
        have e3 : ((posK a n : Nat) : Int) ≤ ((a.length : Nat) : Int) := by omega
        have hr : room (List.length (a.take (posK a n) ++ [n])) 48 = true := room_small (by simp only [List.length_append, List.length_take, List.length_cons, List.length_nil]; omega) (by decide)
        have hr2 : room (List.length (a.take (posK a n) ++ [n] ++ a.drop (posK a n))) 48 = true := room_small (by simp only [List.length_append, List.length_take, List.length_drop, List.length_cons, List.length_nil]; omega) (by decide)
        have hsm : Sm (a.take (posK a n)) := by unfold Sm; rw [List.length_take]; omega
        simp only [Option.bind_some, e2, e3, decide_true, Bool.and_self, cond_true, Int.toNat_natCast, CopyNodes_eq _ hsm, hr, hr2, wrap_nat (show i < 9223372036854775807 by omega)]
        simp [insK]
      · intro j hj
        have hj2 : j < a.length := by omega
        have e2 : (j : Int) < ((a.length : Nat) : Int) := by omega
        have := posK_lt hj (List.getElem?_eq_getElem hj2)
        simp only [e2, decide_true, cond_true, getI_lt a j hj2, Option.bind_some, kle_eq, this, wrap_nat (show j < 9223372036854775807 by omega)]
      · rcases Nat.lt_or_ge (posK a n) a.length with h | h
        · have e2 : ((posK a n : Nat) : Int) < ((a.length : Nat) : Int) := by omega
          have := posK_at (List.getElem?_eq_getElem h)
          simp only [e2, decide_true, cond_true, getI_lt a _ h, Option.bind_some, kle_eq, this, cond_false]
        · have e2 : ¬ ((posK a n : Nat) : Int) < ((a.length : Nat) : Int) := by omega
          simp only [e2, decide_false, cond_false, Option.bind_some]
    · simp only [hc, decide_false, Bool.not_false, cond_true, if_false]
  · simp
end Go.Tr
