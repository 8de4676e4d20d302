/- A part of the proof: TrR1, TrR2, TrK, TrR3, TrR4, TrApp. -/
import Derived.Test.YtjjhppjdnbahjaaGreatTrC
set_option linter.unusedVariables false
set_option linter.unusedSimpArgs false
namespace Go.Tr
open Go Go.Dv
def fnd (l : List Nd) (id : Sp) : Int := if (look l id).isSome = true then ((posN l id : Nat) : Int) else -1
theorem rFind_eq {l : List Nd} (id : Sp) (hs : Srt l) (hl : Sm l) : u1s (l, id) = some (fnd l id) := by
  have hl' : l.length < 1000000 := hl
  unfold u1s fnd
  have step : ∀ i : Nat, i < l.length → ∀ n, l[i]? = some n → n.1 ≠ id → ((fun s : (List Nd × (Int × Sp)) =>
      bif (decide ((s.2.1 < ((List.length s.1) : Int)))) then (((getI s.1 s.2.1)).bind fun x1 =>
        bif ((x1.1.1 == s.2.2.1) && (x1.1.2 == s.2.2.2)) then some (.inr (.inr s.2.1)) else
        some (.inl (s.1, ((IntKind.wrap .i64 (s.2.1 + 1)), s.2.2)))) else
      some (.inr (.inl s.2.2))) (l, ((i : Int), id)) : Option ((List Nd × (Int × Sp)) ⊕ (Sp ⊕ Int))) = some (.inl (l, (((i + 1 : Nat) : Int), id))) := by
    intro i hi n hn hne
    have e1 : (i : Int) < (l.length : Int) := by omega
    simp only [e1, decide_true, cond_true, u0p, hn, Option.bind_some, u2P, hne, decide_false, cond_false, u04 (show i < 9223372036854775807 by omega)]
  cases h : look l id with
  | some n =>
    have hp := u3D hs h
    have hpl : posN l id < l.length := by
      rcases Nat.lt_or_ge (posN l id) l.length with h1 | h1
      · exact h1
      · rw [List.getElem?_eq_none h1] at hp; cases hp
    rw [u0W (fun i => (l, ((i : Int), id))) (posN l id) (r := .inr ((posN l id : Nat) : Int))]
    · simp
    · intro i hi
      have hil : i < l.length := by omega
      refine step i hil _ (List.getElem?_eq_getElem hil) ?_
      exact slt_ne ((u4e hs (List.getElem?_eq_getElem hil)).1 hi)
    · have e1 : ((posN l id : Nat) : Int) < (l.length : Int) := by omega
      simp only [e1, decide_true, cond_true, u0p, hp, Option.bind_some, u2P, (u5E h).1]
  | none =>
    rw [u0W (fun i => (l, ((i : Int), id))) l.length (r := .inl id)]
    · simp
    · intro i hi
      exact step i hi _ (List.getElem?_eq_getElem hi) (look_none h _ (List.getElem_mem hi))
    · simp
end Go.Tr
set_option linter.unusedVariables false
set_option linter.unusedSimpArgs false
namespace Go.Tr
open Go Go.Dv
def rootB (s : Sp) : Bool := decide (s = (0, 0))
theorem root_eq (s : Sp) : ((s.1 == (u0i ()).1) && (s.2 == (u0i ()).2)) = rootB s := u2P s (u0i ())
def liveB (l : List Nd) (n : Nat) (s : Sp) : Bool := rootB s || match (ups l n s).getLast? with
  | some r => rootB r
  | none => false
theorem getI_last {u : List Sp} (h : 0 < u.length) (hl : u.length < 1000000) : getI u (IntKind.wrap .i64 (((u.length : Nat) : Int) - 1)) = u.getLast? := by
  rw [Go.Dv.wrap_small (by omega) (by omega), show ((u.length : Nat) : Int) - 1 = ((u.length - 1 : Nat) : Int) by omega, u0p, List.getLast?_eq_getElem?]
theorem ups_sm {l : List Nd} {n : Nat} {s : Sp} (h : u0S l n s) (hl : l.length < 1000000) : (ups l n s).length < 1000000 := by
  have := ends_le h; rw [ups_len h]; omega
theorem last_some {u : List Sp} (h : 0 < u.length) : ∃ r, u.getLast? = some r := by
  cases hu : u.getLast? with
  | none => rw [List.getLast?_eq_none_iff] at hu; subst hu; simp at h
  | some r => exact ⟨r, rfl⟩
theorem Lives_eq {t : Tree} (hs : Srt t.1) (hl : Sm t.1) {n : Nat} {s : Sp} (h : u0S t.1 n s) : u31 (t, s) = some (liveB t.1 n s) := by
  have hu := ups_sm h hl
  unfold u31
  simp only [Up_eq hs hl h, Option.bind_some, root_eq]
  unfold liveB
  cases rootB s with
  | true => rfl
  | false =>
    simp only [cond_false, Bool.false_or]
    by_cases h0 : 0 < (ups t.1 n s).length
    · have e1 : (0 : Int) < (((ups t.1 n s).length : Nat) : Int) := by omega
      obtain ⟨r, hr⟩ := last_some h0
      simp only [e1, decide_true, cond_true, getI_last h0 hu, hr, Option.bind_some, root_eq]
    · have h1 : ups t.1 n s = [] := List.length_eq_zero_iff.1 (by omega)
      simp [h1]
end Go.Tr
set_option linter.unusedVariables false
set_option linter.unusedSimpArgs false
namespace Go.Tr
open Go Go.Dv Go.Sort Go.Proofs
def kle (m n : Nd) : Bool := decide (m.2.2.data.toList ≤ n.2.2.data.toList)
def posK : List Nd → Nd → Nat
  | [], _ => 0
  | m :: l, n => if kle m n = true then posK l n + 1 else 0
def insK (l : List Nd) (n : Nd) : List Nd := l.take (posK l n) ++ n :: l.drop (posK l n)
end Go.Tr
set_option linter.unusedVariables false
set_option linter.unusedSimpArgs false
namespace Go.Tr
open Go Go.Dv
theorem rover_loop {l : List Nd} {id : Sp} (hs : Srt l) (hl : Sm l) {f : (List Nd × (Int × (Sp × Sp))) → Option ((List Nd × (Int × (Sp × Sp))) ⊕ ((Sp × Sp) ⊕ Bool))}
    (hf : ∀ (k : Nat) (s : Sp), k ≤ l.length → f (l, ((k : Int), (id, s))) = if s = id then some (.inr (.inr true)) else match look l s with | some m => some (.inl (l, (((k + 1 : Nat) : Int), (id, m.2.1)))) | none => some (.inr (.inr false))) :
    ∀ (n k : Nat) (s : Sp), u0S l n s → k + n ≤ l.length → iter f (l, ((k : Int), (id, s))) = some (.inr (ov l id n s))
  | 0, k, s, h, hk => by
    have h : look l s = none := by simpa [u0S, par] using h
    have := hf k s (by omega)
    by_cases e : s = id
    · rw [if_pos e] at this; rw [u0H this]; simp [ov, e]
    · rw [if_neg e, h] at this; rw [u0H this]; simp [ov, e]
  | n + 1, k, s, ⟨p, hp, h⟩, hk => by
    have := hf k s (by omega)
    have hp' := hp
    simp only [par, Option.map_eq_some_iff] at hp
    obtain ⟨m, hm, rfl⟩ := hp
    by_cases e : s = id
    · rw [if_pos e] at this; rw [u0H this]; simp [ov, e]
    · rw [if_neg e, hm] at this
      rw [u1A this, rover_loop hs hl hf n (k + 1) _ h (by omega)]
      simp [ov, e, hp']
theorem rover_eq {l : List Nd} (id s : Sp) (hs : Srt l) (hl : Sm l) (ha : Acy l) : u1W (l, id, s) = some (circ l id s) := by
  have hl' : l.length < 1000000 := hl
  obtain ⟨n, hn⟩ := ha s
  unfold u1W
  rw [show ((l, id, s).1, ((0 : Int), (l, id, s).2)) = (l, (((0 : Nat) : Int), (id, s))) from rfl, rover_loop hs hl ?_ n 0 s hn (by have := ends_le hn; omega)]
  · simp [circ_ends hn]
  · intro k q hk
    have e1 : (k : Int) ≤ (l.length : Int) := by omega
    simp only [e1, decide_true, cond_true, u2P, rFind_eq q hs hl, Option.bind_some]
    by_cases e : q = id
    · simp [e]
    · simp only [e, decide_false, cond_false, if_false]
      cases hq : look l q with
      | none => simp [fnd, hq]
      | some m =>
        have e2 : ¬ (((posN l q : Nat) : Int) < 0) := by omega
        simp only [fnd, hq, Option.isSome_some, if_true, e2, decide_false, cond_false, u4j hs hq, Option.bind_some, u04 (show k < 9223372036854775807 by omega)]
theorem u47 {α : Type} {l : List α} {f : (List α × (List α × Int)) → Option ((List α × (List α × Int)) ⊕ List α)}
    (hf : ∀ (i : Nat), i < l.length → f (l, (l.take i, (i : Int))) = some (.inl (l, (l.take (i + 1), ((i + 1 : Nat) : Int))))) (he : f (l, (l, (l.length : Int))) = some (.inr l)) : iter f (l, ([], (0 : Int))) = some l := by
  rw [u0W (inv := fun i => (l, (l.take i, (i : Int)))) (k := l.length) (r := l) hf (by simpa using he) (by simp)]
theorem u2r {α : Type} [Inhabited α] {l : List α} {i : Nat} (h : i < l.length) : l.take (i + 1) = l.take i ++ [l.getD i default] := by
  have e : l.getD i default = l[i] := by rw [List.getD_eq_getElem?_getD, List.getElem?_eq_getElem h]; rfl
  rw [List.take_add_one, List.getElem?_eq_getElem h, e]; rfl
theorem CopyNumbers_eq (l : List Int) (h : Sm l) : u0K l = some l := by
  have h' : l.length < 1000000 := h
  unfold u0K
  rw [u47]
  · rfl
  · intro i hi
    have e1 : (i : Int) < (l.length : Int) := by omega
    have hr : room (List.length (l.take i ++ [l.getD i default])) 8 = true := u03 (by simp only [List.length_append, List.length_take, List.length_cons, List.length_nil]; omega) (by decide)
    simp only [e1, decide_true, cond_true, u09 l i hi, Option.bind_some, hr, u04 (show i < 9223372036854775807 by omega), u2r hi]
  · simp
theorem CopyOp_eq (o : Op') (h : Sm o.2.2.1) : u0Q o = some o := by
  unfold u0Q
  rw [CopyNumbers_eq _ h]; rfl
theorem u61 (l : List Nd) (h : Sm l) : u0E l = some l := by
  have h' : l.length < 1000000 := h
  unfold u0E
  rw [u47]
  · rfl
  · intro i hi
    have e1 : (i : Int) < (l.length : Int) := by omega
    have hr : room (List.length (l.take i ++ [l.getD i default])) 48 = true := u03 (by simp only [List.length_append, List.length_take, List.length_cons, List.length_nil]; omega) (by decide)
    simp only [e1, decide_true, cond_true, u09 l i hi, Option.bind_some, hr, u04 (show i < 9223372036854775807 by omega), u2r hi]
  · simp
theorem rins_loop {σ ρ : Type} {l : List Nd} {n : Nd} (hs : Srt l) (hn : look l n.1 = none) {f : σ → Option (σ ⊕ ρ)} (inv : List Nd → Bool → Nat → σ) (out : List Nd → Bool → ρ)
    (h1 : ∀ (m : List Nd) (k : Nat) (q : Nd), l[k]? = some q → m.length ≤ k → slt q.1 n.1 → f (inv m false k) = some (.inl (inv (m ++ [q]) false (k + 1))))
    (h2 : ∀ (m : List Nd) (k : Nat) (q : Nd), l[k]? = some q → m.length ≤ k → slt n.1 q.1 → f (inv m false k) = some (.inl (inv (m ++ [n] ++ [q]) true (k + 1))))
    (h3 : ∀ (m : List Nd) (k : Nat) (q : Nd), l[k]? = some q → m.length ≤ k + 1 → f (inv m true k) = some (.inl (inv (m ++ [q]) true (k + 1))))
    (h4 : ∀ m b, f (inv m b l.length) = some (.inr (out m b))) {s0 : σ} (h0 : s0 = inv [] false 0 := by rfl) :
    iter f s0 = some (if posN l n.1 = l.length then out l false else out (putN l n) true) := by
  have hp := u5x l n.1
  let I : Nat → σ := fun k => if k ≤ posN l n.1 then inv (l.take k) false k else inv (l.take (posN l n.1) ++ n :: (l.drop (posN l n.1)).take (k - posN l n.1)) true k
  rw [u0W (inv := I) (k := l.length) (r := if posN l n.1 = l.length then out l false else out (putN l n) true) ?_ ?_ (by rw [h0]; simp [I])]
  · intro k hk
    have hg := List.getElem?_eq_getElem hk
    have hb := u4e (id := n.1) hs hg
    have et : l.take (k + 1) = l.take k ++ [l[k]] := by rw [List.take_add_one, hg]; rfl
    rcases Nat.lt_trichotomy k (posN l n.1) with h | h | h
    · simp only [I, if_pos (show k ≤ posN l n.1 by omega), if_pos (show k + 1 ≤ posN l n.1 by omega)]
      rw [h1 _ k _ hg (by rw [List.length_take]; omega) (hb.1 h), et]
    · have hlt : slt n.1 (l[k]).1 := by
        have a := mt hb.2 (by omega)
        have b := look_none hn _ (List.getElem_mem hk)
        exact ((u3X (l[k]).1 n.1).resolve_left a).resolve_left b
      simp only [I, if_pos (show k ≤ posN l n.1 by omega), if_neg (show ¬ k + 1 ≤ posN l n.1 by omega)]
      have e1 : (l.drop k).take 1 = [l[k]] := by rw [List.drop_eq_getElem_cons hk]; rfl
      rw [h2 _ k _ hg (by rw [List.length_take]; omega) hlt, ← h, show k + 1 - k = 1 by omega, e1]
      simp
    · simp only [I, if_neg (show ¬ k ≤ posN l n.1 by omega), if_neg (show ¬ k + 1 ≤ posN l n.1 by omega)]
      rw [h3 _ k _ hg (by simp only [List.length_append, List.length_take, List.length_cons, List.length_drop]; omega)]
      have : (l.drop (posN l n.1)).take (k + 1 - posN l n.1) = (l.drop (posN l n.1)).take (k - posN l n.1) ++ [l[k]] := by
        rw [show k + 1 - posN l n.1 = (k - posN l n.1) + 1 by omega, List.take_add_one, List.getElem?_drop, show posN l n.1 + (k - posN l n.1) = k by omega, hg]; rfl
      rw [this]
      simp
  · by_cases e : posN l n.1 = l.length
    · simp only [I, if_pos (show l.length ≤ posN l n.1 by omega), List.take_length, h4, if_pos e]
    · simp only [I, if_neg (show ¬ l.length ≤ posN l n.1 by omega), h4, if_neg e, put_ins hs hn]
      rw [show (l.drop (posN l n.1)).take (l.length - posN l n.1) = l.drop (posN l n.1) from List.take_of_length_le (by rw [List.length_drop]; omega)]
theorem put_end {l : List Nd} {n : Nd} (hs : Srt l) (hn : look l n.1 = none) (h : posN l n.1 = l.length) : putN l n = l ++ [n] := by
  rw [put_ins hs hn, h]; simp
end Go.Tr
set_option linter.unusedVariables false
set_option linter.unusedSimpArgs false
namespace Go.Tr
open Go Go.Dv
theorem u0y (a b : Sp) : u0k (a, b) = scmp a b := by
  unfold u0k scmp slt
  obtain ⟨a1, a2⟩ := a
  obtain ⟨b1, b2⟩ := b
  simp only [Prod.mk.injEq]
  by_cases h1 : a1 < b1
  · simp [h1]
  · by_cases h2 : a1 = b1
    · subst h2
      by_cases h3 : a2 < b2
      · simp [h3]
      · by_cases h4 : a2 = b2
        · simp [h4]
        · have : (a2 == b2) = false := by simpa using h4
          simp [h3, h4, this]
    · have : (a1 == b1) = false := by simpa using h2
      simp [h1, h2, this]
theorem u3C (a b : Sp) : 0 < scmp a b ↔ slt b a := by
  unfold scmp
  split
  · rename_i h; simp [u6s h]
  · split
    · rename_i h e; subst e; simp [u2e]
    · rename_i h e; simp [((u3X a b).resolve_left h).resolve_left e]
theorem done_eq {l : List Nd} (o : Op') (hs : Srt l) (hl : Sm l) (ha : Acy l) (ho : Sm o.2.2.1) : u1X (l, o) = some (doL l o, doE l o) := by
  have hl' : l.length < 1000000 := hl
  have ho' : o.2.2.1.length < 1000000 := ho
  have hp := u5x l o.2.2.2.2.1
  unfold u1X
  simp only [CopyOp_eq o ho, Option.bind_some, rFind_eq _ hs hl]
  cases h : look l o.2.2.2.2.1 with
  | some m =>
    have e0 : (0 : Int) ≤ ((posN l o.2.2.2.2.1 : Nat) : Int) := by omega
    simp only [fnd, h, Option.isSome_some, if_true, e0, decide_true, cond_true, u4j hs h, Option.bind_some, rover_eq _ _ hs hl ha, doE, doL, Option.map_some, Option.getD_some]
    cases hc : circ l o.2.2.2.2.1 o.2.2.2.2.2.1 with
    | true => simp
    | false =>
      have := put_set (n := (o.2.2.2.2.1, o.2.2.2.2.2.1, o.2.2.2.2.2.2.1)) hs h
      simp only [cond_false, u61 l hl, Option.bind_some, u4j hs h, Int.toNat_natCast, Bool.false_eq_true, if_false, this]
  | none =>
    have e0 : ¬ (0 : Int) ≤ -1 := by omega
    simp only [fnd, h, Option.isSome_none, Bool.false_eq_true, if_false, e0, decide_false, cond_false, Option.bind_some, rover_eq _ _ hs hl ha, doE, doL, Option.map_none, Option.getD_none]
    cases hc : circ l o.2.2.2.2.1 o.2.2.2.2.2.1 with
    | true => simp
    | false =>
      simp only [cond_false, Bool.false_eq_true, if_false]
      rw [rins_loop (n := (o.2.2.2.2.1, o.2.2.2.2.2.1, o.2.2.2.2.2.2.1)) hs h (inv := fun m b k => (l, (m, (b, ((k : Int), (o, ((((0, 0), 0, [], 0, (0, 0), (0, 0), (ByteArray.mk ([]).toArray), 0, 0), false, (0, 0), (ByteArray.mk ([]).toArray), false), ((o, false, (0, 0), (ByteArray.mk ([]).toArray), false), (o.2.2.2.2.1, o.2.2.2.2.2.1, o.2.2.2.2.2.2.1)))))))))
        (out := fun m b => (m, (b, (o, ((((0, 0), 0, [], 0, (0, 0), (0, 0), (ByteArray.mk ([]).toArray), 0, 0), false, (0, 0), (ByteArray.mk ([]).toArray), false), ((o, false, (0, 0), (ByteArray.mk ([]).toArray), false), (o.2.2.2.2.1, o.2.2.2.2.2.1, o.2.2.2.2.2.2.1)))))))]
      · by_cases e : posN l o.2.2.2.2.1 = l.length
        · have hr : room (List.length (l ++ [(o.2.2.2.2.1, o.2.2.2.2.2.1, o.2.2.2.2.2.2.1)])) 48 = true := u03 (by simp only [List.length_append, List.length_cons, List.length_nil]; omega) (by decide)
          have := put_end (n := (o.2.2.2.2.1, o.2.2.2.2.2.1, o.2.2.2.2.2.2.1)) hs h e
          simp only [if_pos e, Option.bind_some, Bool.not_false, cond_true, hr, this]
        · simp only [if_neg e, Option.bind_some, Bool.not_true, cond_false]
      · intro m k q hq hm hlt
        have hk : k < l.length := by
          rcases Nat.lt_or_ge k l.length with h1 | h1
          · exact h1
          · rw [List.getElem?_eq_none h1] at hq; cases hq
        have e1 : (k : Int) < (l.length : Int) := by omega
        have e2 : ¬ (0 < scmp q.1 o.2.2.2.2.1) := fun h => u6s hlt ((u3C _ _).1 h)
        have hr : room (List.length (m ++ [q])) 48 = true := u03 (by simp only [List.length_append, List.length_cons, List.length_nil]; omega) (by decide)
        simp only [e1, decide_true, cond_true, Bool.not_false, u0p, hq, Option.bind_some, u0y, e2, decide_false, cond_false, hr, u04 (show k < 9223372036854775807 by omega)]
      · intro m k q hq hm hlt
        have hk : k < l.length := by
          rcases Nat.lt_or_ge k l.length with h1 | h1
          · exact h1
          · rw [List.getElem?_eq_none h1] at hq; cases hq
        have e1 : (k : Int) < (l.length : Int) := by omega
        have e2 : 0 < scmp q.1 o.2.2.2.2.1 := (u3C _ _).2 hlt
        have hr : ∀ n : Nd, room (List.length (m ++ [n])) 48 = true := fun n => u03 (by simp only [List.length_append, List.length_cons, List.length_nil]; omega) (by decide)
        have hr2 : ∀ n : Nd, room (List.length (m ++ [n] ++ [q])) 48 = true := fun n => u03 (by simp only [List.length_append, List.length_cons, List.length_nil]; omega) (by decide)
        simp only [e1, decide_true, cond_true, Bool.not_false, u0p, hq, Option.bind_some, u0y, e2, hr, hr2, u04 (show k < 9223372036854775807 by omega)]
      · intro m k q hq hm
        have hk : k < l.length := by
          rcases Nat.lt_or_ge k l.length with h1 | h1
          · exact h1
          · rw [List.getElem?_eq_none h1] at hq; cases hq
        have e1 : (k : Int) < (l.length : Int) := by omega
        have hr : room (List.length (m ++ [q])) 48 = true := u03 (by simp only [List.length_append, List.length_cons, List.length_nil]; omega) (by decide)
        simp only [e1, decide_true, cond_true, Bool.not_true, cond_false, u0p, hq, Option.bind_some, hr, u04 (show k < 9223372036854775807 by omega)]
      · intro m b
        simp
theorem Made_eq (os : List Op') (hl : os.length < 999980) (hd : ∀ o ∈ os, Sm o.2.2.1) : u0Y os = some (made os) := by
  unfold u0Y
  rw [u0W (inv := fun i : Nat => (os, ((i : Int), (nds [] (os.take i), ens [] (os.take i))))) (k := os.length) (r := made os)]
  · rfl
  · intro i hi
    have h1 : (i : Int) < (os.length : Int) := by omega
    have hn := nds0 (os.take i)
    have hnl : Sm (nds [] (os.take i)) := by
      have := hn.2.2; simp only [List.length_take] at this; unfold Sm; omega
    have el : (ens [] (os.take i)).length ≤ i := by rw [u2i, List.length_take]; omega
    have hr : ∀ e : Entry, room (List.length (ens [] (os.take i) ++ [e])) 168 = true := fun e => u03 (by simp only [List.length_append, List.length_cons, List.length_nil]; omega) (by decide)
    simp only [h1, decide_true, cond_true, u09 os i hi, Option.bind_some, done_eq _ hn.1 hnl hn.2.1 (hd _ (u0j hi)), hr, u04 (show i < 9223372036854775807 by omega), u2r hi, nds_app, u5O]
    rfl
  · simp [made]
theorem Moves_eq (t : Tree) (hl : t.2.length < 999980) : u0P t = some (t.2.map (·.1)) := by
  unfold u0P
  rw [u0W (inv := fun i : Nat => ((t.2.take i).map (·.1), ((i : Int), t))) (k := t.2.length) (r := (t.2.map (·.1), t))]
  · rfl
  · intro i hi
    have h1 : (i : Int) < (t.2.length : Int) := by omega
    have hr : room (List.length ((t.2.take i).map (·.1) ++ [(t.2.getD i default).1])) 120 = true := u03 (by simp only [List.length_append, List.length_map, List.length_take, List.length_cons, List.length_nil]; omega) (by decide)
    simp only [h1, decide_true, cond_true, u09 t.2 i hi, Option.bind_some, hr, u04 (show i < 9223372036854775807 by omega), u2r hi, List.map_append, List.map_cons, List.map_nil]
  · simp
noncomputable def okR (os : List Op') (i : Nat) : Bool := mvOk (os.getD i default) && (decide (i = 0) || decide (slt (os.getD (i - 1) default).1 (os.getD i default).1))
theorem okR_iff (os : List Op') : (List.range os.length).all (okR os) = true ↔ OkT os := by
  rw [List.all_eq_true]
  constructor
  · intro h
    have at_ : ∀ i, i < os.length → mvOk (os.getD i default) = true ∧ (i = 0 ∨ slt (os.getD (i - 1) default).1 (os.getD i default).1) := by
      intro i hi
      simpa only [okR, Bool.and_eq_true, Bool.or_eq_true, decide_eq_true_eq] using h i (List.mem_range.2 hi)
    refine ⟨fun o ho => ?_, srtO_of fun i hi => ?_⟩
    · obtain ⟨i, hi, rfl⟩ := List.mem_iff_getElem.1 ho
      simpa [List.getD_eq_getElem?_getD, hi] using (at_ i hi).1
    · simpa using (at_ (i + 1) hi).2.resolve_left (by omega)
  · intro h i hi
    have hi := List.mem_range.1 hi
    simp only [okR, Bool.and_eq_true, Bool.or_eq_true, decide_eq_true_eq]
    refine ⟨h.mv _ (u0j hi), ?_⟩
    by_cases h0 : i = 0
    · exact .inl h0
    · right
      have := h.srt
      unfold SrtO at this
      rw [List.pairwise_iff_getElem] at this
      have := this (i - 1) i (by omega) hi (by omega)
      simpa [List.getD_eq_getElem?_getD, hi, show i - 1 < os.length by omega] using this
theorem mayB_ref (t : Tree) : mayB t = ((List.range (t.2.map (·.1)).length).all (okR (t.2.map (·.1))) && decide (t = made (t.2.map (·.1)))) := by
  rw [Bool.eq_iff_iff, Bool.and_eq_true, okR_iff, decide_eq_true_iff]
  constructor
  · exact mayB_ok
  · rintro ⟨h1, h2⟩
    rw [h2]; exact mayB_made h1
theorem rTree_eq (t : Tree) (h1 : t.1.length < 9223372036854775807) (h2 : t.2.length < 999980) (hd : ∀ e ∈ t.2, Sm e.1.2.2.1) : u1Y t = some (mayB t) := by
  have hcnt : Cnt t.2 := ⟨by omega, fun e he => by have : e.1.2.2.1.length < 1000000 := hd e he; omega⟩
  have hdo : ∀ o ∈ t.2.map (·.1), Sm o.2.2.1 := fun o ho => by obtain ⟨e, he, rfl⟩ := List.mem_map.1 ho; exact hd e he
  unfold u1Y
  rw [Moves_eq t h2, mayB_ref]
  have hol : (t.2.map (·.1)).length < 999980 := by rw [List.length_map]; exact h2
  generalize t.2.map (·.1) = os at hdo hol ⊢
  simp only [Option.bind_some]
  rw [u16 (inv := fun i : Nat => (os, ((i : Int), t))) (n := os.length) (ok := okR os) (good := .inl (os, t)) (bad := .inr false)]
  · cases (List.range os.length).all (okR os) with
    | false => simp
    | true =>
      simp only [if_true, Option.bind_some, Made_eq os hol hdo, EqTree_eq t (made os) h1 hcnt, Bool.true_and]
  · intro i hi hok
    simp only [okR, Bool.and_eq_true, Bool.or_eq_true, decide_eq_true_eq] at hok
    have e1 : (i : Int) < (os.length : Int) := by omega
    have hdep : (os.getD i default).2.2.1.length < 1000000 := hdo _ (u0j hi)
    simp only [e1, decide_true, cond_true, u09 os i hi, Option.bind_some, u4B _ (show (os.getD i default).2.2.1.length < 9223372036854775807 by omega), hok.1, Bool.not_true, cond_false]
    by_cases h0 : i = 0
    · subst h0
      have := u04 (n := 0) (by omega)
      simp only [Int.lt_irrefl, decide_false, cond_false, Option.bind_some, this, show ¬ ((0 : Int) < ((0 : Nat) : Int)) from by omega]
    · have h00 : (0 : Int) < (i : Int) := by omega
      have hw : IntKind.wrap .i64 ((i : Int) - 1) = ((i - 1 : Nat) : Int) := by rw [Go.Dv.wrap_small] <;> omega
      have hlt : slt (os.getD (i - 1) default).1 (os.getD i default).1 := hok.2.resolve_left h0
      have hc : ¬ (0 ≤ scmp (os.getD (i - 1) default).1 (os.getD i default).1) := by have := (u21 _ _).2 hlt; omega
      simp only [h00, decide_true, cond_true, hw, u09 os (i - 1) (by omega), Option.bind_some, u0y, hc, decide_false, cond_false, u04 (show i < 9223372036854775807 by omega)]
  · intro i hi hok
    have e1 : (i : Int) < (os.length : Int) := by omega
    have hdep : (os.getD i default).2.2.1.length < 1000000 := hdo _ (u0j hi)
    simp only [e1, decide_true, cond_true, u09 os i hi, Option.bind_some, u4B _ (show (os.getD i default).2.2.1.length < 9223372036854775807 by omega)]
    cases hm : mvOk (os.getD i default) with
    | false => simp
    | true =>
      simp only [okR, hm, Bool.true_and, Bool.or_eq_false_iff, decide_eq_false_iff_not] at hok
      have h00 : (0 : Int) < (i : Int) := by omega
      have hw : IntKind.wrap .i64 ((i : Int) - 1) = ((i - 1 : Nat) : Int) := by rw [Go.Dv.wrap_small] <;> omega
      have hc : 0 ≤ scmp (os.getD (i - 1) default).1 (os.getD i default).1 := by have := mt (u21 _ _).1 hok.2; omega
      simp only [Bool.not_true, cond_false, h00, decide_true, cond_true, hw, u09 os (i - 1) (by omega), Option.bind_some, u0y, hc]
  · simp
end Go.Tr
set_option linter.unusedVariables false
set_option linter.unusedSimpArgs false
namespace Go.Tr
open Go Go.Dv
theorem u4z (a b : Sp) : (scmp a b == 0) = decide (a = b) := by
  unfold scmp
  by_cases h : slt a b
  · have : a ≠ b := fun e => by subst e; exact u2e _ h
    simp [h, this]
  · by_cases e : a = b
    · subst e; simp [h]
    · simp [h, e]
theorem ins_deps {os : List Op'} {o : Op'} (h : OkT os) (hd : Sm o.2.2.1) : ∀ q ∈ insO os o, Sm q.2.2.1 := by
  intro q hq
  rcases insO_mem hq with rfl | hq
  · exact hd
  · have := (u6L (h.mv _ hq)).1; unfold Sm; omega
theorem Mv_made {os : List Op'} (hl : os.length < 999980) : u0P (made os) = some os := by
  rw [Moves_eq _ (by show (ens [] os).length < _; rw [u2i]; exact hl)]; show some ((ens [] os).map (·.1)) = _; rw [ens_op]
theorem rApply_eq {os : List Op'} {o : Op'} (h : OkT os) (hl : os.length < 999900) (hd : Sm o.2.2.1) :
    u1K (made os, o) = some (if hasO os o.1 = true then (made os, false) else (made (insO os o), true)) := by
  have hp := posO_le os o.1
  have hsrt := h.srt
  unfold u1K
  rw [Mv_made (by omega)]
  simp only [Option.bind_some]
  cases hh : hasO os o.1 with
  | true =>
    simp only [hasO, List.any_eq_true, decide_eq_true_eq] at hh
    obtain ⟨q, hq, hqs⟩ := hh
    obtain ⟨j, hj, rfl⟩ := List.mem_iff_getElem.1 hq
    rw [u0W (inv := fun i : Nat => (os.take i, (false, (os, ((i : Int), (made os, (o, ([], []))))))))  (k := j) (r := .inr (false, made os))]
    · rfl
    · intro i hi
      have hi' : i < os.length := by omega
      have e1 : (i : Int) < (os.length : Int) := by omega
      have hlt : slt (os.getD i default).1 o.1 := by
        have := List.pairwise_iff_getElem.1 hsrt i j hi' hj hi
        rw [hqs] at this
        simpa [List.getD_eq_getElem?_getD, hi'] using this
      have e2 : ¬ (0 < scmp (os.getD i default).1 o.1) := fun h => u6s hlt ((u3C _ _).1 h)
      have e3 : (scmp (os.getD i default).1 o.1 == 0) = false := by
        rw [u4z, decide_eq_false_iff_not]; intro e; rw [e] at hlt; exact u2e _ hlt
      have hr : room (List.length (os.take i ++ [os.getD i default])) 120 = true := u03 (by simp only [List.length_append, List.length_take, List.length_cons, List.length_nil]; omega) (by decide)
      simp only [e1, decide_true, cond_true, u09 os i hi', Option.bind_some, u0y, e2, e3, Bool.not_false, decide_false, cond_false, hr, u04 (show i < 9223372036854775807 by omega), u2r hi']
    · have e1 : (j : Int) < (os.length : Int) := by omega
      have e4 : (os.getD j default).1 = o.1 := by simpa [List.getD_eq_getElem?_getD, hj] using hqs
      simp only [e1, decide_true, cond_true, u09 os j hj, Option.bind_some, u0y, u4z, e4]
  | false =>
    have hne : ∀ q ∈ os, q.1 ≠ o.1 := by
      intro q hq e
      have : hasO os o.1 = true := by simp only [hasO, List.any_eq_true, decide_eq_true_eq]; exact ⟨q, hq, e⟩
      rw [hh] at this; cases this
    have hbelow : ∀ i (hi : i < os.length), (i < posO os o.1 → slt (os.getD i default).1 o.1) ∧ (posO os o.1 ≤ i → slt o.1 (os.getD i default).1) := by
      intro i hi
      have hat := u6E (s := o.1) hsrt (List.getElem?_eq_getElem hi)
      have e : os.getD i default = os[i] := by simp [List.getD_eq_getElem?_getD, hi]
      rw [e]
      refine ⟨fun hlt => ?_, fun hle => hat.1 hle⟩
      have a : ¬ slt o.1 os[i].1 := fun hs => by have := hat.2 hs; omega
      have b := hne _ (List.getElem_mem hi)
      rcases u3X os[i].1 o.1 with c | c | c
      · exact c
      · exact absurd c b
      · exact absurd c a
    let I : Nat → List Op' × (Bool × (List Op' × (Int × (Tree × (Op' × Tree))))) := fun i => if i ≤ posO os o.1 then (os.take i, (false, (os, ((i : Int), (made os, (o, ([], []))))))) else (os.take (posO os o.1) ++ o :: (os.drop (posO os o.1)).take (i - posO os o.1), (true, (os, ((i : Int), (made os, (o, ([], [])))))))
    have hlI : ∀ i, i ≤ os.length → (I i).1.length ≤ i + 1 := by
      intro i hi
      by_cases c : i ≤ posO os o.1
      · simp only [I, if_pos c, List.length_take]; omega
      · simp only [I, if_neg c, List.length_append, List.length_cons, List.length_take, List.length_drop]; omega
    rw [u0W (inv := I) (k := os.length) (r := .inl ((I os.length).1, ((I os.length).2.1, (made os, (o, ([], [])))))) ?_ ?_ (by simp [I])]
    · simp only [Option.bind_some]
      have hdi := ins_deps h hd
      have hli := insO_len os o
      by_cases e : posO os o.1 = os.length
      · have ei : insO os o = os ++ [o] := by rw [u5K, e]; simp
        have hr : room (List.length (os ++ [o])) 120 = true := u03 (by simp only [List.length_append, List.length_cons, List.length_nil]; omega) (by decide)
        rw [← ei] at hr
        simp only [I, e, Nat.le_refl, if_true, List.take_length, Bool.not_false, cond_true, ← ei, hr, Made_eq (insO os o) (by omega) hdi, Option.bind_some, Bool.false_eq_true, if_false]
      · have c : ¬ os.length ≤ posO os o.1 := by omega
        have ei : os.take (posO os o.1) ++ o :: (os.drop (posO os o.1)).take (os.length - posO os o.1) = insO os o := by
          rw [u5K, show (os.drop (posO os o.1)).take (os.length - posO os o.1) = os.drop (posO os o.1) from List.take_of_length_le (by rw [List.length_drop]; omega)]
        simp only [I, if_neg c, ei, Bool.not_true, cond_false, Made_eq (insO os o) (by omega) hdi, Option.bind_some, Bool.false_eq_true, if_false]
    · intro i hi
      have e1 : (i : Int) < (os.length : Int) := by omega
      obtain ⟨b1, b2⟩ := hbelow i hi
      have b3 := hlI i (by omega)
      have e3 : (scmp (os.getD i default).1 o.1 == 0) = false := by
        rw [u4z, decide_eq_false_iff_not]; exact hne _ (u0j hi)
      rcases Nat.lt_trichotomy i (posO os o.1) with c | c | c
      · have e2 : ¬ (0 < scmp (os.getD i default).1 o.1) := fun h => u6s (b1 c) ((u3C _ _).1 h)
        have hr : room (List.length (os.take i ++ [os.getD i default])) 120 = true := u03 (by simp only [List.length_append, List.length_take, List.length_cons, List.length_nil]; omega) (by decide)
        simp only [I, if_pos (show i ≤ posO os o.1 by omega), if_pos (show i + 1 ≤ posO os o.1 by omega), e1, decide_true, cond_true, u09 os i hi, Option.bind_some, u0y, e2, e3, Bool.not_false, decide_false, cond_false, hr, u04 (show i < 9223372036854775807 by omega), u2r hi]
      · have e2 : 0 < scmp (os.getD i default).1 o.1 := (u3C _ _).2 (b2 (by omega))
        have hr : room (List.length (os.take i ++ [o])) 120 = true := u03 (by simp only [List.length_append, List.length_take, List.length_cons, List.length_nil]; omega) (by decide)
        have hr2 : room (List.length ((os.take i ++ [o]) ++ [os.getD i default])) 120 = true := u03 (by simp only [List.length_append, List.length_take, List.length_cons, List.length_nil]; omega) (by decide)
        have e5 : (os.drop i).take 1 = [os.getD i default] := by rw [List.drop_eq_getElem_cons hi, show os.getD i default = os[i] by simp [List.getD_eq_getElem?_getD, hi]]; rfl
        simp only [I, if_pos (show i ≤ posO os o.1 by omega), if_neg (show ¬ i + 1 ≤ posO os o.1 by omega)]
        simp only [List.append_assoc, List.cons_append, List.nil_append] at hr2
        simp only [e1, decide_true, cond_true, u09 os i hi, Option.bind_some, u0y, e2, e3, Bool.not_false, cond_false, hr, hr2, u04 (show i < 9223372036854775807 by omega), ← c, show i + 1 - i = 1 by omega, e5, List.append_assoc, List.cons_append, List.nil_append]
      · have hr : room (List.length ((os.take (posO os o.1) ++ o :: (os.drop (posO os o.1)).take (i - posO os o.1)) ++ [os.getD i default])) 120 = true := u03 (by simp only [List.length_append, List.length_take, List.length_cons, List.length_nil, List.length_drop]; omega) (by decide)
        have e5 : (os.drop (posO os o.1)).take (i + 1 - posO os o.1) = (os.drop (posO os o.1)).take (i - posO os o.1) ++ [os.getD i default] := by
          rw [show i + 1 - posO os o.1 = (i - posO os o.1) + 1 by omega, List.take_add_one, List.getElem?_drop, show posO os o.1 + (i - posO os o.1) = i by omega, List.getElem?_eq_getElem hi]; simp [List.getD_eq_getElem?_getD, hi]
        simp only [List.append_assoc, List.cons_append, List.nil_append] at hr
        simp only [I, if_neg (show ¬ i ≤ posO os o.1 by omega), if_neg (show ¬ i + 1 ≤ posO os o.1 by omega), e1, decide_true, cond_true, u09 os i hi, Option.bind_some, u0y, e3, Bool.not_true, cond_false, hr, u04 (show i < 9223372036854775807 by omega), e5, List.append_assoc, List.cons_append, List.nil_append]
    · by_cases c : os.length ≤ posO os o.1
      · simp only [I, if_pos c, Int.lt_irrefl, decide_false, cond_false]
      · simp only [I, if_neg c, Int.lt_irrefl, decide_false, cond_false]
theorem app_loop {X T B : Type} {f : (Int × (X × T)) → Option ((Int × (X × T)) ⊕ ((X × T) ⊕ Bool))} {g : ((X × T) ⊕ Bool) → Option B} {b : B} {x : X} (k : Nat) (P : Nat → T → Prop)
    (hs : ∀ (i : Nat) t, i < k → P i t → ∃ t', f ((i : Int), (x, t)) = some (.inl (((i + 1 : Nat) : Int), (x, t'))) ∧ P (i + 1) t')
    (he : ∀ t, P k t → f ((k : Int), (x, t)) = some (.inr (.inl (x, t)))) (hg : ∀ t', g (.inl (x, t')) = some b) {t : T} (h0 : P 0 t) : (iter f ((0 : Int), (x, t))).bind g = some b := by
  have key : ∀ n i t, i + n = k → P i t → (iter f ((i : Int), (x, t))).bind g = some b := by
    intro n
    induction n with
    | zero =>
      intro i t hi hP
      obtain rfl : i = k := by omega
      rw [u0H (he t hP)]; exact hg t
    | succ n ih =>
      intro i t hi hP
      obtain ⟨t', h1, h2⟩ := hs i t (by omega) hP
      rw [u1A h1]; exact ih (i + 1) t' (by omega) h2
  exact key k 0 t (by omega) h0
theorem small_tree (t : Tree) (h1 : Sm t.1) (h2 : Sm t.2) (hd : ∀ e ∈ t.2, Sm e.1.2.2.1) : small (.pair (.list (.pair (.pair (.int .i64) (.int .i64)) (.pair (.pair (.int .i64) (.int .i64)) .str))) (.list (.pair (.pair (.pair (.int .i64) (.int .i64)) (.pair (.int .i64) (.pair (.list (.int .i64)) (.pair (.int .i64) (.pair (.pair (.int .i64) (.int .i64)) (.pair (.pair (.int .i64) (.int .i64)) (.pair .str (.pair (.int .i64) (.int .i64))))))))) (.pair .bool (.pair (.pair (.int .i64) (.int .i64)) (.pair .str .bool)))))) t = true := by
  have h1' : t.1.length < 1000000 := h1
  have h2' : t.2.length < 1000000 := h2
  have a : decide (t.1.length ≤ 1000000) = true := decide_eq_true (by omega)
  have b : decide (t.2.length ≤ 1000000) = true := decide_eq_true (by omega)
  unfold small
  rw [Bool.and_eq_true]
  unfold small
  refine ⟨Bool.and_eq_true _ _ ▸ ⟨a, List.all_eq_true.2 fun n _ => rfl⟩, Bool.and_eq_true _ _ ▸ ⟨b, List.all_eq_true.2 fun e he => ?_⟩⟩
  have c : e.1.2.2.1.length < 1000000 := hd e he
  have hz : ∀ l : List Int, l.all (small (.int .i64)) = true := fun l => List.all_eq_true.2 fun _ _ => rfl
  have := hz e.1.2.2.1
  simp only [small, Bool.and_true, Bool.true_and, hz]
  simp
  omega
end Go.Tr
