/- A part of the proof: TrR1, TrR2, TrK, TrR3, TrR4, TrR5. -/
import Derived.Test.YtlfkabehppdohaaGreatTrC
set_option linter.unusedVariables false
set_option linter.unusedSimpArgs false
namespace Go.Tr
open Go Go.Dv
def fnd (l : List Nd) (id : Sp) : Int := if (look l id).isSome = true then ((posN l id : Nat) : Int) else -1
theorem rFind_eq {l : List Nd} (id : Sp) (hs : Srt l) (hl : Sm l) : arrasref16_Find (l, id) = some (fnd l id) := by
  have hl' : l.length < 1000000 := hl
  unfold arrasref16_Find fnd
  have step : ∀ i : Nat, i < l.length → ∀ n, l[i]? = some n → n.1 ≠ id → ((fun s : (List Nd × (Int × Sp)) =>
      bif (decide ((s.2.1 < ((List.length s.1) : Int)))) then (((getI s.1 s.2.1)).bind fun x1 =>
        bif ((x1.1.1 == s.2.2.1) && (x1.1.2 == s.2.2.2)) then some (.inr (.inr s.2.1)) else
        some (.inl (s.1, ((IntKind.wrap .i64 (s.2.1 + 1)), s.2.2)))) else
      some (.inr (.inl s.2.2))) (l, ((i : Int), id)) : Option ((List Nd × (Int × Sp)) ⊕ (Sp ⊕ Int))) = some (.inl (l, (((i + 1 : Nat) : Int), id))) := by
    intro i hi n hn hne
    have e1 : (i : Int) < (l.length : Int) := by omega
    simp only [e1, decide_true, cond_true, getI_nat, hn, Option.bind_some, two_eq, hne, decide_false, cond_false, wrap_nat (show i < 9223372036854775807 by omega)]
  cases h : look l id with
  | some n =>
    have hp := look_some_pos hs h
    have hpl : posN l id < l.length := by
      rcases Nat.lt_or_ge (posN l id) l.length with h1 | h1
      · exact h1
      · rw [List.getElem?_eq_none h1] at hp; cases hp
    rw [iter_run' (fun i => (l, ((i : Int), id))) (posN l id) (r := .inr ((posN l id : Nat) : Int))]
    · simp
    · intro i hi
      have hil : i < l.length := by omega
      refine step i hil _ (List.getElem?_eq_getElem hil) ?_
      exact slt_ne ((posN_below hs (List.getElem?_eq_getElem hil)).1 hi)
    · have e1 : ((posN l id : Nat) : Int) < (l.length : Int) := by omega
      simp only [e1, decide_true, cond_true, getI_nat, hp, Option.bind_some, two_eq, (look_id h).1]
  | none =>
    rw [iter_run' (fun i => (l, ((i : Int), id))) l.length (r := .inl id)]
    · simp
    · intro i hi
      exact step i hi _ (List.getElem?_eq_getElem hi) (look_none h _ (List.getElem_mem hi))
    · simp
end Go.Tr
set_option linter.unusedVariables false
set_option linter.unusedSimpArgs false
namespace Go.Tr
open Go Go.Dv
def rootB (s : Sp) : Bool := decide (s = (0, 0))
def liveB (l : List Nd) (n : Nat) (s : Sp) : Bool := rootB s || match (ups l n s).getLast? with
  | some r => rootB r
  | none => false
end Go.Tr
set_option linter.unusedVariables false
set_option linter.unusedSimpArgs false
namespace Go.Tr
open Go Go.Dv Go.Sort Go.Proofs
theorem filter_srt {l : List Nd} (p : Nd → Bool) (h : Srt l) : Srt (l.filter p) := List.Pairwise.filter p h
theorem kids_srt {l : List Nd} (id : Sp) (hs : Srt l) : (kids l id).Pairwise klt := by
  have hp := kids_perm l id
  have h2 := (sortL_perm (l.filter fun n => decide (n.2.1 = id))).2
  have hne : (kids l id).Pairwise fun a b => a.1 ≠ b.1 := by
    refine (hp.pairwise_iff (fun h => Ne.symm h)).2 ?_
    exact List.Pairwise.imp (fun h => slt_ne h) (filter_srt _ hs)
  rw [List.pairwise_iff_getElem] at hne ⊢
  intro i j hi hj hij
  have hlen : (kids l id).length = (l.filter fun n => decide (n.2.1 = id)).length := hp.length_eq
  have h3 := h2 i j (Nat.zero_le _) hij (by omega)
  rw [ltOf_cf, decide_eq_false_iff_not] at h3
  have hk : kids l id = (pdq (ltOf cf_slices_SortFunc_Node) (l.filter fun n => decide (n.2.1 = id)).toArray 0 (l.filter fun n => decide (n.2.1 = id)).length (Lib.bitLen (l.filter fun n => decide (n.2.1 = id)).length) true true).toList := rfl
  generalize pdq (ltOf cf_slices_SortFunc_Node) (l.filter fun n => decide (n.2.1 = id)).toArray 0 (l.filter fun n => decide (n.2.1 = id)).length (Lib.bitLen (l.filter fun n => decide (n.2.1 = id)).length) true true = D at h3 hk
  have e : ∀ (k : Nat) (h : k < (kids l id).length), D[k]! = (kids l id)[k] := by
    intro k h
    have hD : k < D.size := by rw [hk] at h; simpa using h
    simp [hk, hD]
  rw [e i hi, e j hj] at h3
  have := hne i j hi hj hij
  rcases klt_tri (kids l id)[i] (kids l id)[j] with h | h | h
  · exact h
  · exact absurd h h3
  · exact absurd h.1 this
theorem klt_unique {a b : List Nd} (hp : a.Perm b) (ha : a.Pairwise klt) (hb : b.Pairwise klt) : a = b :=
  hp.eq_of_pairwise (fun x y _ _ h k => absurd (klt_trans h k) (klt_irr _)) ha hb
def kle (m n : Nd) : Bool := decide (m.2.2.data.toList ≤ n.2.2.data.toList)
def posK : List Nd → Nd → Nat
  | [], _ => 0
  | m :: l, n => if kle m n = true then posK l n + 1 else 0
def insK (l : List Nd) (n : Nd) : List Nd := l.take (posK l n) ++ n :: l.drop (posK l n)
theorem insK_perm (l : List Nd) (n : Nd) : (insK l n).Perm (n :: l) := by
  unfold insK
  have := List.perm_middle (a := n) (l₁ := l.take (posK l n)) (l₂ := l.drop (posK l n))
  rwa [List.take_append_drop] at this
theorem insK_cons (m : Nd) (l : List Nd) (n : Nd) : insK (m :: l) n = if kle m n = true then m :: insK l n else n :: m :: l := by
  by_cases h : kle m n = true
  · rw [if_pos h, insK, show posK (m :: l) n = posK l n + 1 by simp [posK, h]]; rfl
  · rw [if_neg h, insK, show posK (m :: l) n = 0 by simp [posK, h]]; rfl
theorem insK_srt : ∀ {l : List Nd} {n : Nd}, l.Pairwise klt → (∀ m ∈ l, slt m.1 n.1) → (insK l n).Pairwise klt
  | [], n, _, _ => by simp [insK, posK]
  | m :: l, n, h, hb => by
    obtain ⟨h1, h2⟩ := List.pairwise_cons.1 h
    rw [insK_cons]
    split
    · rename_i hk
      refine List.pairwise_cons.2 ⟨fun q hq => ?_, insK_srt h2 fun q hq => hb q (List.mem_cons_of_mem _ hq)⟩
      rcases List.mem_cons.1 ((insK_perm l n).mem_iff.1 hq) with rfl | hq
      · have hk : m.2.2.data.toList ≤ q.2.2.data.toList := by simpa [kle] using hk
        rcases List.le_iff_lt_or_eq.1 hk with h | h
        · exact .inl h
        · exact .inr ⟨h, hb m (List.mem_cons_self ..)⟩
      · exact h1 q hq
    · rename_i hk
      have hk : n.2.2.data.toList < m.2.2.data.toList := by simpa [kle] using hk
      have hnm : klt n m := .inl hk
      refine List.pairwise_cons.2 ⟨fun q hq => ?_, h⟩
      rcases List.mem_cons.1 hq with rfl | hq
      · exact hnm
      · exact klt_trans hnm (h1 q hq)
theorem foldK : ∀ {f a : List Nd}, Srt f → a.Pairwise klt → (∀ x ∈ a, ∀ y ∈ f, slt x.1 y.1) → (f.foldl insK a).Pairwise klt ∧ (f.foldl insK a).Perm (f ++ a)
  | [], a, _, ha, _ => ⟨ha, List.Perm.refl _⟩
  | n :: f, a, hs, ha, hx => by
    obtain ⟨h1, h2⟩ := List.pairwise_cons.1 hs
    obtain ⟨k1, k2⟩ := foldK (f := f) (a := insK a n) h2 (insK_srt ha fun m hm => hx m hm n (List.mem_cons_self ..)) (fun x hm y hy => by
      rcases List.mem_cons.1 ((insK_perm a n).mem_iff.1 hm) with rfl | hm
      · exact h1 y hy
      · exact hx x hm y (List.mem_cons_of_mem _ hy))
    refine ⟨k1, k2.trans ?_⟩
    refine ((insK_perm a n).append_left f).trans ?_
    exact List.perm_middle (a := n) (l₁ := f) (l₂ := a)
theorem kids_fold {l : List Nd} (id : Sp) (hs : Srt l) : kids l id = (l.filter fun n => decide (n.2.1 = id)).foldl insK [] := by
  obtain ⟨h1, h2⟩ := foldK (a := []) (filter_srt (fun n => decide (n.2.1 = id)) hs) (by simp) (by simp)
  rw [List.append_nil] at h2
  exact klt_unique ((kids_perm l id).trans h2.symm) (kids_srt id hs) h1
end Go.Tr
set_option linter.unusedVariables false
set_option linter.unusedSimpArgs false
namespace Go.Tr
open Go Go.Dv
theorem rover_loop {l : List Nd} {id : Sp} (hs : Srt l) (hl : Sm l) {f : (List Nd × (Int × (Sp × Sp))) → Option ((List Nd × (Int × (Sp × Sp))) ⊕ ((Sp × Sp) ⊕ Bool))}
    (hf : ∀ (k : Nat) (s : Sp), k ≤ l.length → f (l, ((k : Int), (id, s))) = if s = id then some (.inr (.inr true)) else match look l s with | some m => some (.inl (l, (((k + 1 : Nat) : Int), (id, m.2.1)))) | none => some (.inr (.inr false))) :
    ∀ (n k : Nat) (s : Sp), EndsIn l n s → k + n ≤ l.length → iter f (l, ((k : Int), (id, s))) = some (.inr (ov l id n s))
  | 0, k, s, h, hk => by
    have h : look l s = none := by simpa [EndsIn, par] using h
    have := hf k s (by omega)
    by_cases e : s = id
    · rw [if_pos e] at this; rw [iter_inr this]; simp [ov, e]
    · rw [if_neg e, h] at this; rw [iter_inr this]; simp [ov, e]
  | n + 1, k, s, ⟨p, hp, h⟩, hk => by
    have := hf k s (by omega)
    have hp' := hp
    simp only [par, Option.map_eq_some_iff] at hp
    obtain ⟨m, hm, rfl⟩ := hp
    by_cases e : s = id
    · rw [if_pos e] at this; rw [iter_inr this]; simp [ov, e]
    · rw [if_neg e, hm] at this
      rw [iter_inl this, rover_loop hs hl hf n (k + 1) _ h (by omega)]
      simp [ov, e, hp']
theorem rover_eq {l : List Nd} (id s : Sp) (hs : Srt l) (hl : Sm l) (ha : Acy l) : arrasref16_over (l, id, s) = some (circ l id s) := by
  have hl' : l.length < 1000000 := hl
  obtain ⟨n, hn⟩ := ha s
  unfold arrasref16_over
  rw [show ((l, id, s).1, ((0 : Int), (l, id, s).2)) = (l, (((0 : Nat) : Int), (id, s))) from rfl, rover_loop hs hl ?_ n 0 s hn (by have := ends_le hn; omega)]
  · simp [circ_ends hn]
  · intro k q hk
    have e1 : (k : Int) ≤ (l.length : Int) := by omega
    simp only [e1, decide_true, cond_true, two_eq, rFind_eq q hs hl, Option.bind_some]
    by_cases e : q = id
    · simp [e]
    · simp only [e, decide_false, cond_false, if_false]
      cases hq : look l q with
      | none => simp [fnd, hq]
      | some m =>
        have e2 : ¬ (((posN l q : Nat) : Int) < 0) := by omega
        simp only [fnd, hq, Option.isSome_some, if_true, e2, decide_false, cond_false, getI_pos hs hq, Option.bind_some, wrap_nat (show k < 9223372036854775807 by omega)]
theorem copy_loop {α : Type} {l : List α} {f : (List α × (List α × Int)) → Option ((List α × (List α × Int)) ⊕ List α)}
    (hf : ∀ (i : Nat), i < l.length → f (l, (l.take i, (i : Int))) = some (.inl (l, (l.take (i + 1), ((i + 1 : Nat) : Int))))) (he : f (l, (l, (l.length : Int))) = some (.inr l)) : iter f (l, ([], (0 : Int))) = some l := by
  rw [iter_run' (inv := fun i => (l, (l.take i, (i : Int)))) (k := l.length) (r := l) hf (by simpa using he) (by simp)]
theorem take_snoc {α : Type} [Inhabited α] {l : List α} {i : Nat} (h : i < l.length) : l.take (i + 1) = l.take i ++ [l.getD i default] := by
  have e : l.getD i default = l[i] := by rw [List.getD_eq_getElem?_getD, List.getElem?_eq_getElem h]; rfl
  rw [List.take_add_one, List.getElem?_eq_getElem h, e]; rfl
theorem CopyNumbers_eq (l : List Int) (h : Sm l) : arrasref0_CopyNumbers l = some l := by
  have h' : l.length < 1000000 := h
  unfold arrasref0_CopyNumbers
  rw [copy_loop]
  · rfl
  · intro i hi
    have e1 : (i : Int) < (l.length : Int) := by omega
    have hr : room (List.length (l.take i ++ [l.getD i default])) 8 = true := room_small (by simp only [List.length_append, List.length_take, List.length_cons, List.length_nil]; omega) (by decide)
    simp only [e1, decide_true, cond_true, getI_D l i hi, Option.bind_some, hr, wrap_nat (show i < 9223372036854775807 by omega), take_snoc hi]
  · simp
theorem CopyOp_eq (o : Op') (h : Sm o.2.2.1) : arrasref0_CopyOp o = some o := by
  unfold arrasref0_CopyOp
  rw [CopyNumbers_eq _ h]; rfl
theorem CopyNodes_eq (l : List Nd) (h : Sm l) : arrasref0_CopyNodes l = some l := by
  have h' : l.length < 1000000 := h
  unfold arrasref0_CopyNodes
  rw [copy_loop]
  · rfl
  · intro i hi
    have e1 : (i : Int) < (l.length : Int) := by omega
    have hr : room (List.length (l.take i ++ [l.getD i default])) 48 = true := room_small (by simp only [List.length_append, List.length_take, List.length_cons, List.length_nil]; omega) (by decide)
    simp only [e1, decide_true, cond_true, getI_D l i hi, Option.bind_some, hr, wrap_nat (show i < 9223372036854775807 by omega), take_snoc hi]
  · simp
theorem rins_loop {σ ρ : Type} {l : List Nd} {n : Nd} (hs : Srt l) (hn : look l n.1 = none) {f : σ → Option (σ ⊕ ρ)} (inv : List Nd → Bool → Nat → σ) (out : List Nd → Bool → ρ)
    (h1 : ∀ (m : List Nd) (k : Nat) (q : Nd), l[k]? = some q → m.length ≤ k → slt q.1 n.1 → f (inv m false k) = some (.inl (inv (m ++ [q]) false (k + 1))))
    (h2 : ∀ (m : List Nd) (k : Nat) (q : Nd), l[k]? = some q → m.length ≤ k → slt n.1 q.1 → f (inv m false k) = some (.inl (inv (m ++ [n] ++ [q]) true (k + 1))))
    (h3 : ∀ (m : List Nd) (k : Nat) (q : Nd), l[k]? = some q → m.length ≤ k + 1 → f (inv m true k) = some (.inl (inv (m ++ [q]) true (k + 1))))
    (h4 : ∀ m b, f (inv m b l.length) = some (.inr (out m b))) {s0 : σ} (h0 : s0 = inv [] false 0 := by rfl) :
    iter f s0 = some (if posN l n.1 = l.length then out l false else out (putN l n) true) := by
  have hp := posN_le l n.1
  let I : Nat → σ := fun k => if k ≤ posN l n.1 then inv (l.take k) false k else inv (l.take (posN l n.1) ++ n :: (l.drop (posN l n.1)).take (k - posN l n.1)) true k
  rw [iter_run' (inv := I) (k := l.length) (r := if posN l n.1 = l.length then out l false else out (putN l n) true) ?_ ?_ (by rw [h0]; simp [I])]
  · intro k hk
    have hg := List.getElem?_eq_getElem hk
    have hb := posN_below (id := n.1) hs hg
    have et : l.take (k + 1) = l.take k ++ [l[k]] := by rw [List.take_add_one, hg]; rfl
    rcases Nat.lt_trichotomy k (posN l n.1) with h | h | h
    · simp only [I, if_pos (show k ≤ posN l n.1 by omega), if_pos (show k + 1 ≤ posN l n.1 by omega)]
      rw [h1 _ k _ hg (by rw [List.length_take]; omega) (hb.1 h), et]
    · have hlt : slt n.1 (l[k]).1 := by
        have a := mt hb.2 (by omega)
        have b := look_none hn _ (List.getElem_mem hk)
        exact ((slt_tri (l[k]).1 n.1).resolve_left a).resolve_left b
      simp only [I, if_pos (show k ≤ posN l n.1 by omega), if_neg (show ¬ k + 1 ≤ posN l n.1 by omega)]
      have e1 : (l.drop k).take 1 = [l[k]] := by rw [List.drop_eq_getElem_cons hk]; rfl
      rw [h2 _ k _ hg (by rw [List.length_take]; omega) hlt, ← h, show k + 1 - k = 1 by omega, e1]
      simp
    · simp only [I, if_neg (show ¬ k ≤ posN l n.1 by omega), if_neg (show ¬ k + 1 ≤ posN l n.1 by omega)]
      rw [h3 _ k _ hg (by simp only [List.length_append, List.length_take, List.length_cons, List.length_drop]; omega)]
      have : (l.drop (posN l n.1)).take (k + 1 - posN l n.1) = (l.drop (posN l n.1)).take (k - posN l n.1) ++ [l[k]] := by
        rw [show k + 1 - posN l n.1 = (k - posN l n.1) + 1 by omega, List.take_add_one, List.getElem?_drop, show posN l n.1 + (k - posN l n.1) = k by omega, hg]; rfl
      rw [this]
      simp
  · by_cases e : posN l n.1 = l.length
    · simp only [I, if_pos (show l.length ≤ posN l n.1 by omega), List.take_length, h4, if_pos e]
    · simp only [I, if_neg (show ¬ l.length ≤ posN l n.1 by omega), h4, if_neg e, put_ins hs hn]
      rw [show (l.drop (posN l n.1)).take (l.length - posN l n.1) = l.drop (posN l n.1) from List.take_of_length_le (by rw [List.length_drop]; omega)]
theorem put_end {l : List Nd} {n : Nd} (hs : Srt l) (hn : look l n.1 = none) (h : posN l n.1 = l.length) : putN l n = l ++ [n] := by
  rw [put_ins hs hn, h]; simp
end Go.Tr
set_option linter.unusedVariables false
set_option linter.unusedSimpArgs false
namespace Go.Tr
open Go Go.Dv
theorem ref_Cmp_eq (a b : Sp) : arrasref6_Cmp (a, b) = scmp a b := by
  unfold arrasref6_Cmp scmp slt
  obtain ⟨a1, a2⟩ := a
  obtain ⟨b1, b2⟩ := b
  simp only [Prod.mk.injEq]
  by_cases h1 : a1 < b1
  · simp [h1]
  · by_cases h2 : a1 = b1
    · subst h2
      by_cases h3 : a2 < b2
      · simp [h3]
      · by_cases h4 : a2 = b2
        · simp [h4]
        · have : (a2 == b2) = false := by simpa using h4
          simp [h3, h4, this]
    · have : (a1 == b1) = false := by simpa using h2
      simp [h1, h2, this]
theorem scmp_pos (a b : Sp) : 0 < scmp a b ↔ slt b a := by
  unfold scmp
  split
  · rename_i h; simp [slt_not h]
  · split
    · rename_i h e; subst e; simp [slt_irr]
    · rename_i h e; simp [((slt_tri a b).resolve_left h).resolve_left e]
theorem done_eq {l : List Nd} (o : Op') (hs : Srt l) (hl : Sm l) (ha : Acy l) (ho : Sm o.2.2.1) : arrasref16_done (l, o) = some (doL l o, doE l o) := by
  have hl' : l.length < 1000000 := hl
  have ho' : o.2.2.1.length < 1000000 := ho
  have hp := posN_le l o.2.2.2.2.1
  unfold arrasref16_done
  simp only [CopyOp_eq o ho, Option.bind_some, rFind_eq _ hs hl]
  cases h : look l o.2.2.2.2.1 with
  | some m =>
    have e0 : (0 : Int) ≤ ((posN l o.2.2.2.2.1 : Nat) : Int) := by omega
    simp only [fnd, h, Option.isSome_some, if_true, e0, decide_true, cond_true, getI_pos hs h, Option.bind_some, rover_eq _ _ hs hl ha, doE, doL, Option.map_some, Option.getD_some]
    cases hc : circ l o.2.2.2.2.1 o.2.2.2.2.2.1 with
    | true => simp
    | false =>
      have := put_set (n := (o.2.2.2.2.1, o.2.2.2.2.2.1, o.2.2.2.2.2.2.1)) hs h
      simp only [cond_false, CopyNodes_eq l hl, Option.bind_some, getI_pos hs h, Int.toNat_natCast, Bool.false_eq_true, if_false, this]
  | none =>
    have e0 : ¬ (0 : Int) ≤ -1 := by omega
    simp only [fnd, h, Option.isSome_none, Bool.false_eq_true, if_false, e0, decide_false, cond_false, Option.bind_some, rover_eq _ _ hs hl ha, doE, doL, Option.map_none, Option.getD_none]
    cases hc : circ l o.2.2.2.2.1 o.2.2.2.2.2.1 with
    | true => simp
    | false =>
      simp only [cond_false, Bool.false_eq_true, if_false]
      rw [rins_loop (n := (o.2.2.2.2.1, o.2.2.2.2.2.1, o.2.2.2.2.2.2.1)) hs h (inv := fun m b k => (l, (m, (b, ((k : Int), (o, ((((0, 0), 0, [], 0, (0, 0), (0, 0), (ByteArray.mk ([]).toArray), 0, 0), false, (0, 0), (ByteArray.mk ([]).toArray), false), ((o, false, (0, 0), (ByteArray.mk ([]).toArray), false), (o.2.2.2.2.1, o.2.2.2.2.2.1, o.2.2.2.2.2.2.1)))))))))
        (out := fun m b => (m, (b, (o, ((((0, 0), 0, [], 0, (0, 0), (0, 0), (ByteArray.mk ([]).toArray), 0, 0), false, (0, 0), (ByteArray.mk ([]).toArray), false), ((o, false, (0, 0), (ByteArray.mk ([]).toArray), false), (o.2.2.2.2.1, o.2.2.2.2.2.1, o.2.2.2.2.2.2.1)))))))]
      · by_cases e : posN l o.2.2.2.2.1 = l.length
        · have hr : room (List.length (l ++ [(o.2.2.2.2.1, o.2.2.2.2.2.1, o.2.2.2.2.2.2.1)])) 48 = true := room_small (by simp only [List.length_append, List.length_cons, List.length_nil]; omega) (by decide)
          have := put_end (n := (o.2.2.2.2.1, o.2.2.2.2.2.1, o.2.2.2.2.2.2.1)) hs h e
          simp only [if_pos e, Option.bind_some, Bool.not_false, cond_true, hr, this]
        · simp only [if_neg e, Option.bind_some, Bool.not_true, cond_false]
      · intro m k q hq hm hlt
        have hk : k < l.length := by
          rcases Nat.lt_or_ge k l.length with h1 | h1
          · exact h1
          · rw [List.getElem?_eq_none h1] at hq; cases hq
        have e1 : (k : Int) < (l.length : Int) := by omega
        have e2 : ¬ (0 < scmp q.1 o.2.2.2.2.1) := fun h => slt_not hlt ((scmp_pos _ _).1 h)
        have hr : room (List.length (m ++ [q])) 48 = true := room_small (by simp only [List.length_append, List.length_cons, List.length_nil]; omega) (by decide)
        simp only [e1, decide_true, cond_true, Bool.not_false, getI_nat, hq, Option.bind_some, ref_Cmp_eq, e2, decide_false, cond_false, hr, wrap_nat (show k < 9223372036854775807 by omega)]
      · intro m k q hq hm hlt
        have hk : k < l.length := by
          rcases Nat.lt_or_ge k l.length with h1 | h1
          · exact h1
          · rw [List.getElem?_eq_none h1] at hq; cases hq
        have e1 : (k : Int) < (l.length : Int) := by omega
        have e2 : 0 < scmp q.1 o.2.2.2.2.1 := (scmp_pos _ _).2 hlt
        have hr : ∀ n : Nd, room (List.length (m ++ [n])) 48 = true := fun n => room_small (by simp only [List.length_append, List.length_cons, List.length_nil]; omega) (by decide)
        have hr2 : ∀ n : Nd, room (List.length (m ++ [n] ++ [q])) 48 = true := fun n => room_small (by simp only [List.length_append, List.length_cons, List.length_nil]; omega) (by decide)
        simp only [e1, decide_true, cond_true, Bool.not_false, getI_nat, hq, Option.bind_some, ref_Cmp_eq, e2, hr, hr2, wrap_nat (show k < 9223372036854775807 by omega)]
      · intro m k q hq hm
        have hk : k < l.length := by
          rcases Nat.lt_or_ge k l.length with h1 | h1
          · exact h1
          · rw [List.getElem?_eq_none h1] at hq; cases hq
        have e1 : (k : Int) < (l.length : Int) := by omega
        have hr : room (List.length (m ++ [q])) 48 = true := room_small (by simp only [List.length_append, List.length_cons, List.length_nil]; omega) (by decide)
        simp only [e1, decide_true, cond_true, Bool.not_true, cond_false, getI_nat, hq, Option.bind_some, hr, wrap_nat (show k < 9223372036854775807 by omega)]
      · intro m b
        simp
theorem Made_eq (os : List Op') (hl : os.length < 999980) (hd : ∀ o ∈ os, Sm o.2.2.1) : arrasref16_Made os = some (made os) := by
  unfold arrasref16_Made
  rw [iter_run' (inv := fun i : Nat => (os, ((i : Int), (nds [] (os.take i), ens [] (os.take i))))) (k := os.length) (r := made os)]
  · rfl
  · intro i hi
    have h1 : (i : Int) < (os.length : Int) := by omega
    have hn := nds0 (os.take i)
    have hnl : Sm (nds [] (os.take i)) := by
      have := hn.2.2; simp only [List.length_take] at this; unfold Sm; omega
    have el : (ens [] (os.take i)).length ≤ i := by rw [ens_len, List.length_take]; omega
    have hr : ∀ e : Entry, room (List.length (ens [] (os.take i) ++ [e])) 168 = true := fun e => room_small (by simp only [List.length_append, List.length_cons, List.length_nil]; omega) (by decide)
    simp only [h1, decide_true, cond_true, getI_D os i hi, Option.bind_some, done_eq _ hn.1 hnl hn.2.1 (hd _ (getD_mem hi)), hr, wrap_nat (show i < 9223372036854775807 by omega), take_snoc hi, nds_app, ens_app]
    rfl
  · simp [made]
theorem Moves_eq (t : Tree) (hl : t.2.length < 999980) : arrasref16_Moves t = some (t.2.map (·.1)) := by
  unfold arrasref16_Moves
  rw [iter_run' (inv := fun i : Nat => ((t.2.take i).map (·.1), ((i : Int), t))) (k := t.2.length) (r := (t.2.map (·.1), t))]
  · rfl
  · intro i hi
    have h1 : (i : Int) < (t.2.length : Int) := by omega
    have hr : room (List.length ((t.2.take i).map (·.1) ++ [(t.2.getD i default).1])) 120 = true := room_small (by simp only [List.length_append, List.length_map, List.length_take, List.length_cons, List.length_nil]; omega) (by decide)
    simp only [h1, decide_true, cond_true, getI_D t.2 i hi, Option.bind_some, hr, wrap_nat (show i < 9223372036854775807 by omega), take_snoc hi, List.map_append, List.map_cons, List.map_nil]
  · simp
noncomputable def okR (os : List Op') (i : Nat) : Bool := mvOk (os.getD i default) && (decide (i = 0) || decide (slt (os.getD (i - 1) default).1 (os.getD i default).1))
end Go.Tr
set_option linter.unusedVariables false
set_option linter.unusedSimpArgs false
namespace Go.Tr
open Go Go.Dv
end Go.Tr
