/- A part of the proof: LkA, LkB, LkO, LkW, LkStyles. -/
import Derived.Test.YtlfkabehppdohaaGreatLsC
set_option linter.unusedVariables false
set_option linter.unusedSimpArgs false
namespace Go.Tr
open Go Go.Dv Go.Ky
def tab : List Int := (List.range 19).map fun p : Nat => prDef (p : Int)
def belF (x : List Int) : List Int := (List.range 19).map fun p : Nat => if prGo (p : Int) = true then x.getD p 0 else prDef (p : Int)
def stepF (l : List Rg) (x : List Int) : List Int := (List.range 19).map fun p : Nat => match glook rk l (p : Int) with
  | some r => r.2.1
  | none => if prGo (p : Int) = true then x.getD p 0 else prDef (p : Int)
theorem tab_len : tab.length = 19 := rfl
theorem belF_len (x : List Int) : (belF x).length = 19 := by simp [belF]
theorem stepF_len (l : List Rg) (x : List Int) : (stepF l x).length = 19 := by simp [stepF]
def setsF (l : List Rg) (x : List Int) : List Int := l.foldl (fun x r => x.set r.1.toNat r.2.1) x
theorem setsF_len : ∀ (l : List Rg) (x : List Int), (setsF l x).length = x.length
  | [], _ => rfl
  | r :: l, x => by rw [setsF, List.foldl_cons]; exact (setsF_len l _).trans (List.length_set ..)
theorem setsF_get : ∀ (l : List Rg) (x : List Int) (p : Nat), GS rk ilt l → (∀ r ∈ l, 0 ≤ r.1) → p < x.length → (setsF l x)[p]? = some (match glook rk l (p : Int) with
  | some r => r.2.1
  | none => x.getD p 0)
  | [], x, p, _, _, hp => by
    show x[p]? = some (x.getD p 0)
    rw [List.getElem?_eq_getElem hp, List.getD_eq_getElem?_getD, List.getElem?_eq_getElem hp]; rfl
  | r :: l, x, p, hs, h0, hp => by
    have hs' := List.pairwise_cons.1 hs
    rw [setsF, List.foldl_cons]
    have := setsF_get l (x.set r.1.toNat r.2.1) p hs'.2 (fun q hq => h0 q (by simp [hq])) (by simpa using hp)
    rw [setsF] at this
    rw [this, glook]
    have hr0 := h0 r (by simp)
    by_cases e : rk r = (p : Int)
    · have e' : r.1 = (p : Int) := e
      rw [if_pos e]
      have hn : glook rk l (p : Int) = none := by
        cases h : glook rk l (p : Int) with
        | none => rfl
        | some q =>
          have := glook_id h
          have hlt : ilt (rk r) (rk q) := hs'.1 q this.2
          rw [e, this.1] at hlt
          exact absurd hlt (by unfold ilt; omega)
      rw [hn]
      simp [e', List.getD_eq_getElem?_getD, hp]
    · rw [if_neg e]
      have e' : r.1.toNat ≠ p := by
        intro h
        have : r.1 = (p : Int) := by omega
        exact e this
      cases glook rk l (p : Int) with
      | some q => rfl
      | none => simp only [List.getD_eq_getElem?_getD, List.getElem?_set_ne e']
theorem setsF_bel {l : List Rg} (x : List Int) (hs : GS rk ilt l) (h0 : ∀ r ∈ l, 0 ≤ r.1) : setsF l (belF x) = stepF l x := by
  apply List.ext_getElem?
  intro p
  by_cases hp : p < 19
  · rw [setsF_get l _ p hs h0 (by rw [belF_len]; exact hp)]
    have e1 : (belF x).getD p 0 = if prGo (p : Int) = true then x.getD p 0 else prDef (p : Int) := by
      rw [List.getD_eq_getElem?_getD]
      simp only [belF, List.getElem?_map, List.getElem?_range hp, Option.map_some, Option.getD_some]
    rw [e1]
    simp only [stepF, List.getElem?_map, List.getElem?_range hp, Option.map_some]
  · rw [List.getElem?_eq_none (by rw [setsF_len, belF_len]; omega), List.getElem?_eq_none (by rw [stepF_len]; omega)]
theorem prIs_nat {i : Nat} (h : i < 19) : prIs (i : Int) = true := by simp [prIs]; omega
theorem snoc_range {α : Type} (f : Nat → α) (i : Nat) : (List.range i).map f ++ [f i] = (List.range (i + 1)).map f := by rw [List.range_succ, List.map_append]; rfl
theorem room19 {α : Type} {l : List α} {i : Nat} (h : l.length = i) (hi : i ≤ 1000) : room l.length 8 = true := room_small (by omega) (by decide)
theorem Plain_eq : prop_Plain () = some tab := by
  unfold prop_Plain
  rw [iter_run' (inv := fun i : Nat => ((i : Int), (List.range i).map fun p : Nat => prDef (p : Int))) (k := 19) (r := tab)]
  · rfl
  · intro i hi
    have e1 : (i : Int) < 19 := by omega
    simp only [e1, decide_true, cond_true, prop_ruleOf_eq (prIs_nat hi), Option.bind_some, snoc_range (fun p : Nat => prDef (p : Int)), wrap_nat (show i < 9223372036854775807 by omega)]
    rw [room19 (i := i + 1) (by simp) (by omega)]; rfl
  · rfl
theorem rDefault_eq {p : Int} (h : prIs p = true) : arrasref8_Default p = some (prDef p) := by
  unfold arrasref8_Default
  rw [ref_value_eq h]; rfl
theorem rPlain_eq : arrasref8_Plain () = some tab := by
  unfold arrasref8_Plain
  rw [iter_run' (inv := fun i : Nat => ((i : Int), (List.range i).map fun p : Nat => prDef (p : Int))) (k := 19) (r := tab)]
  · rfl
  · intro i hi
    have e1 : (i : Int) < 19 := by omega
    simp only [e1, decide_true, cond_true, rDefault_eq (prIs_nat hi), Option.bind_some, snoc_range (fun p : Nat => prDef (p : Int)), wrap_nat (show i < 9223372036854775807 by omega)]
    rw [room19 (i := i + 1) (by simp) (by omega)]; rfl
  · rfl
theorem rGoes_eq (p : Int) : arrasref8_Goes p = prGo p := by
  unfold arrasref8_Goes prGo
  by_cases h : p = 17 <;> by_cases k : p = 18 <;> simp [h, k]
def belI (x : List Int) (i : Nat) : List Int := (List.range 19).map fun p : Nat => if p < i ∧ prGo (p : Int) = true then x.getD p 0 else prDef (p : Int)
theorem belI_len (x : List Int) (i : Nat) : (belI x i).length = 19 := by simp [belI]
theorem belI_get (x : List Int) (i p : Nat) (h : p < 19) : (belI x i)[p]? = some (if p < i ∧ prGo (p : Int) = true then x.getD p 0 else prDef (p : Int)) := by
  simp only [belI, List.getElem?_map, List.getElem?_range h, Option.map_some]
theorem belI_succ (x : List Int) (i : Nat) (h : i < 19) : belI x (i + 1) = if prGo (i : Int) = true then (belI x i).set i (x.getD i 0) else belI x i := by
  apply List.ext_getElem?
  intro p
  by_cases hp : p < 19
  · rw [belI_get x _ p hp]
    by_cases hg : prGo (i : Int) = true
    · rw [if_pos hg]
      by_cases e : p = i
      · subst e
        rw [List.getElem?_set_self (by rw [belI_len]; exact hp), if_pos ⟨by omega, hg⟩]
      · rw [List.getElem?_set_ne (Ne.symm e), belI_get x _ p hp]
        have : (p < i + 1 ∧ prGo (p : Int) = true) ↔ (p < i ∧ prGo (p : Int) = true) := by constructor <;> rintro ⟨a, b⟩ <;> exact ⟨by omega, b⟩
        simp only [this]
    · rw [if_neg hg, belI_get x _ p hp]
      have : (p < i + 1 ∧ prGo (p : Int) = true) ↔ (p < i ∧ prGo (p : Int) = true) := by
        constructor
        · rintro ⟨a, b⟩
          refine ⟨?_, b⟩
          have : p ≠ i := by rintro rfl; exact hg b
          omega
        · rintro ⟨a, b⟩; exact ⟨by omega, b⟩
      simp only [this]
  · have h1 : ∀ l : List Int, l.length = 19 → l[p]? = none := fun l hl => List.getElem?_eq_none (by omega)
    rw [h1 _ (belI_len _ _)]
    by_cases hg : prGo (i : Int) = true
    · rw [if_pos hg, h1 _ (by rw [List.length_set, belI_len])]
    · rw [if_neg hg, h1 _ (belI_len _ _)]
theorem belI_end (x : List Int) : belI x 19 = belF x := by
  unfold belI belF
  apply List.map_congr_left
  intro p hp
  have hp := List.mem_range.1 hp
  by_cases h : prGo (p : Int) = true <;> simp [h, hp]
theorem belI_nil (x : List Int) : belI x 0 = tab := by
  unfold belI tab
  apply List.map_congr_left
  intro p hp
  simp
theorem Below_eq (x : List Int) (hx : x.length = 19) : prop_Below x = some (belF x) := by
  unfold prop_Below
  simp only [Plain_eq, Option.bind_some, tab_len]
  rw [iter_run' (inv := fun i : Nat => (((19 : Nat) : Int), ((i : Int), (x, belI x i)))) (k := 19) (r := (x, belF x)) ?_ ?_ (by simp only [belI_nil]; rfl)]
  · rfl
  · intro i hi
    have e1 : (i : Int) < ((19 : Nat) : Int) := by omega
    simp only [e1, decide_true, cond_true, prop_ruleOf_eq (prIs_nat hi), Option.bind_some]
    rw [belI_succ x i hi]
    cases hg : prGo (i : Int) with
    | true =>
      have hxi : getI x (i : Int) = some (x.getD i 0) := by rw [getI_lt x i (by omega), List.getD_eq_getElem?_getD, List.getElem?_eq_getElem (by omega)]; rfl
      simp only [cond_true, hxi, getI_lt (belI x i) i (by rw [belI_len]; exact hi), Option.bind_some, Int.toNat_natCast, if_true, wrap_nat (show i < 9223372036854775807 by omega)]
    | false =>
      simp only [cond_false, Bool.false_eq_true, if_false, wrap_nat (show i < 9223372036854775807 by omega)]
  · rw [belI_end]
    simp only [Int.lt_irrefl, decide_false, cond_false]
structure Gd (s : Tree × List Lk) : Prop where
  srt : Srt s.1.1
  acy : Acy s.1.1
  len : s.1.1.length < 999000
  root : look s.1.1 (0, 0) = none
  ok : OkL s.2
  l : s.2.length < 999000
  r : ∀ id, (regsAt s.2 id).length < 999000
theorem gd_of {st : St} (h : OkS st) (hS : SmS (shp st)) : Gd (shp st) := by
  have n0 := nds0 st.1
  refine ⟨n0.1, n0.2.1, hS.n, root_none h.t, h.l, hS.l, fun id => ?_⟩
  unfold regsAt
  split
  · decide
  · rename_i q hq; exact hS.r q (glook_id hq).2
theorem prOk_is {p v : Int} (h : prOk p v = true) : ∃ i : Nat, p = (i : Int) ∧ i < 19 := by
  simp only [prOk, prIs, Bool.and_eq_true, decide_eq_true_eq] at h
  exact ⟨p.toNat, by omega, by omega⟩
theorem style_eq {s : Tree × List Lk} (g : Gd s) (id : Sp) (x : List Int) (hx : x.length = 19) : look_style (s, (id, x)) = some (stepF (regsAt s.2 id) x) := by
  obtain ⟨h1, h2⟩ := regsAt_ok g.ok id
  have hr := g.r id
  unfold look_style
  simp only [Below_eq x hx, Option.bind_some, Regs_eq id g.ok.srt (show s.2.length < 1000000 by have := g.l; omega)]
  generalize regsAt s.2 id = R at *
  rw [iter_run' (inv := fun i : Nat => (R, (((R.length : Nat) : Int), ((i : Int), (s, (id, (x, setsF (R.take i) (belF x)))))))) (k := R.length) (r := (s, (id, (x, setsF R (belF x)))))]
  · simp only [Option.bind_some]
    rw [setsF_bel x h1 fun r hr => ?_]
    obtain ⟨i, e, _⟩ := prOk_is (h2 r hr).1
    omega
  · intro i hi
    have e1 : (i : Int) < ((R.length : Nat) : Int) := by omega
    obtain ⟨k, e2, e3⟩ := prOk_is (h2 _ (getD_mem hi)).1
    have e4 : getI (setsF (R.take i) (belF x)) ((k : Nat) : Int) = some ((setsF (R.take i) (belF x))[k]'(by rw [setsF_len, belF_len]; exact e3)) := getI_lt _ _ _
    simp only [e1, decide_true, cond_true, getI_D R i hi, Option.bind_some, e2, e4, Int.toNat_natCast, wrap_nat (show i < 9223372036854775807 by omega), take_snoc hi]
    unfold setsF
    rw [List.foldl_append]
    simp only [List.foldl_cons, List.foldl_nil, e2, Int.toNat_natCast]
  · simp only [Int.lt_irrefl, decide_false, cond_false, List.take_length]
theorem glook_idx (R : List Rg) (p : Int) : glook rk R p = if R.findIdx (fun r => r.1 == p) < R.length then some (R.getD (R.findIdx fun r => r.1 == p) default) else none := by
  induction R with
  | nil => rfl
  | cons r R ih =>
    rw [glook, List.findIdx_cons]
    by_cases e : r.1 = p
    · have e' : rk r = p := e
      rw [if_pos e']
      simp [e]
    · have e' : ¬ rk r = p := e
      rw [if_neg e', ih]
      have : (r.1 == p) = false := beq_eq_false_iff_ne.2 e
      simp only [this, cond_false, List.length_cons, Nat.add_lt_add_iff_right, List.getD_cons_succ]
theorem find_loop0 {α σ ρ : Type} [Inhabited α] {K : List α} {p : α → Bool} {f : σ → Option (σ ⊕ ρ)} (inv : Nat → σ) (out : Nat → ρ) (no : ρ)
    (h1 : ∀ i, i < K.length → p (K.getD i default) = false → f (inv i) = some (.inl (inv (i + 1)))) (h2 : ∀ i, i < K.length → p (K.getD i default) = true → f (inv i) = some (.inr (out i))) (h3 : f (inv K.length) = some (.inr no)) {s0 : σ} (h0 : s0 = inv 0 := by rfl) :
    iter f s0 = some (if K.findIdx p < K.length then out (K.findIdx p) else no) := by
  have hle : K.findIdx p ≤ K.length := List.findIdx_le_length
  rw [iter_run' (inv := inv) (k := K.findIdx p) (r := if K.findIdx p < K.length then out (K.findIdx p) else no) ?_ ?_ h0]
  · intro i hi
    have hi' : i < K.length := by omega
    refine h1 i hi' ?_
    have := List.not_of_lt_findIdx hi
    rw [List.getD_eq_getElem?_getD, List.getElem?_eq_getElem hi']
    simpa using this
  · by_cases h : K.findIdx p < K.length
    · rw [if_pos h]
      refine h2 _ h ?_
      rw [List.getD_eq_getElem?_getD, List.getElem?_eq_getElem h]
      exact List.findIdx_getElem
    · rw [if_neg h, show K.findIdx p = K.length by omega]; exact h3
theorem rGet_eq (R : List Rg) (p : Int) (hR : R.length < 1000000) : arrasref14_Get (R, p) = some (match glook rk R p with
  | some r => (r.2.1, true)
  | none => (0, false)) := by
  unfold arrasref14_Get
  rw [find_loop0 (K := R) (p := fun r => r.1 == p) (inv := fun i : Nat => (R, (p, (i : Int)))) (out := fun i => .inr ((R.getD i default).2.1, true)) (no := .inl ()), glook_idx]
  · by_cases hc : R.findIdx (fun r => r.1 == p) < R.length
    · simp only [if_pos hc, Option.bind_some]
    · simp only [if_neg hc, Option.bind_some]
  · intro i hi hp
    have e1 : (i : Int) < (R.length : Int) := by omega
    have hp : ((R.getD i default).1 == p) = false := hp
    simp only [e1, decide_true, cond_true, getI_D R i hi, Option.bind_some, hp, cond_false, wrap_nat (show i < 9223372036854775807 by omega)]
  · intro i hi hp
    have e1 : (i : Int) < (R.length : Int) := by omega
    have hp : ((R.getD i default).1 == p) = true := hp
    simp only [e1, decide_true, cond_true, getI_D R i hi, Option.bind_some, hp]
  · simp only [Int.lt_irrefl, decide_false, cond_false]
theorem beneath_eq {s : Tree × List Lk} (g : Gd s) (id : Sp) (x : List Int) (hx : x.length = 19) : arrasref18_beneath (s, (id, x)) = some (stepF (regsAt s.2 id) x) := by
  have hr := g.r id
  unfold arrasref18_beneath
  simp only [refLook_eq s id g.l, Option.bind_some]
  generalize regsAt s.2 id = R at *
  let F : Nat → Int := fun p : Nat => match glook rk R (p : Int) with
    | some r => r.2.1
    | none => if prGo (p : Int) = true then x.getD p 0 else prDef (p : Int)
  rw [iter_run' (inv := fun i : Nat => (R, ((i : Int), (s, (id, (x, (List.range i).map F)))))) (k := 19) (r := (s, (id, (x, stepF R x))))]
  · rfl
  · intro i hi
    have e1 : (i : Int) < 19 := by omega
    have hroom : ∀ n : Int, room (List.length ((List.range i).map F ++ [n])) 8 = true := fun n => room19 (i := i + 1) (by simp) (by omega)
    simp only [e1, decide_true, cond_true, rGet_eq R (i : Int) (by omega), Option.bind_some]
    rw [← snoc_range F i]
    cases hg : glook rk R (i : Int) with
    | some r =>
      have : F i = r.2.1 := by simp only [F, hg]
      rw [this]
      simp only [Bool.not_true, cond_false, hroom, cond_true, wrap_nat (show i < 9223372036854775807 by omega)]
    | none =>
      simp only [Bool.not_false, cond_true, rDefault_eq (prIs_nat hi), Option.bind_some, rGoes_eq]
      cases hgo : prGo (i : Int) with
      | true =>
        have hxi : getI x (i : Int) = some (x.getD i 0) := by rw [getI_lt x i (by omega), List.getD_eq_getElem?_getD, List.getElem?_eq_getElem (by omega)]; rfl
        have : F i = x.getD i 0 := by simp only [F, hg, hgo, if_true]
        rw [this]
        simp only [cond_true, hxi, Option.bind_some, hroom, wrap_nat (show i < 9223372036854775807 by omega)]
      | false =>
        have : F i = prDef (i : Int) := by simp only [F, hg, hgo, Bool.false_eq_true, if_false]
        rw [this]
        simp only [cond_false, hroom, cond_true, wrap_nat (show i < 9223372036854775807 by omega)]
  · rfl
end Go.Tr
set_option linter.unusedVariables false
set_option linter.unusedSimpArgs false
namespace Go.Tr
open Go Go.Dv Go.Ky
def styL (lk : List Lk) : List Sp → List Int
  | [] => tab
  | w :: r => stepF (regsAt lk w) (styL lk r)
def wayC (l : List Nd) (id : Sp) : List Sp := (id :: upC l id).dropLast
theorem styL_len (lk : List Lk) : ∀ w : List Sp, (styL lk w).length = 19
  | [] => rfl
  | _ :: _ => stepF_len _ _
def valF (lk : List Lk) (p : Nat) : List Sp → Int
  | [] => prDef (p : Int)
  | w :: r => match glook rk (regsAt lk w) (p : Int) with
    | some x => x.2.1
    | none => if prGo (p : Int) = true then valF lk p r else prDef (p : Int)
theorem of_eq {s : Tree × List Lk} (g : Gd s) (id : Sp) : look_of (s, id) = some (styL s.2 (wayC s.1.1 id)) := by
  have hsm : Sm s.1.1 := show s.1.1.length < 1000000 by have := g.len; omega
  have hul := upC_len id g.acy
  have hl := g.len
  unfold look_of wayC
  simp only [Plain_eq, Option.bind_some, Up_C id g.srt hsm g.acy, List.singleton_append]
  generalize hW : id :: upC s.1.1 id = W at *
  have hlen : W.length = (upC s.1.1 id).length + 1 := by rw [← hW]; rfl
  have hroom : room W.length 16 = true := room_small (by omega) (by decide)
  have hc : W.dropLast.length = W.length - 1 := List.length_dropLast
  have hw : IntKind.wrap .i64 (((W.length : Nat) : Int) - 1) = (((W.length - 1 - 0 : Nat)) : Int) := by rw [Go.Dv.wrap_small] <;> omega
  have hget : ∀ k, k < W.length - 1 → W.getD k default = W.dropLast.getD k default := fun k hk => by
    rw [List.getD_eq_getElem?_getD, List.getD_eq_getElem?_getD, List.getElem?_dropLast, if_pos hk]
  simp only [hroom, cond_true, hw]
  rw [iter_run' (inv := fun k : Nat => (W, (((W.length - 1 - k : Nat) : Int), (s, (id, styL s.2 (W.dropLast.drop (W.length - 1 - k))))))) (k := W.length - 1) (r := styL s.2 W.dropLast) ?_ ?_ (by rw [List.drop_eq_nil_of_le (by omega)]; rfl)]
  · rfl
  · intro k hk
    have e1 : (0 : Int) < ((W.length - 1 - k : Nat) : Int) := by omega
    have e2 : IntKind.wrap .i64 (((W.length - 1 - k : Nat) : Int) - 1) = ((W.length - 1 - (k + 1) : Nat) : Int) := by rw [Go.Dv.wrap_small] <;> omega
    have e3 : W.dropLast.drop (W.length - 1 - (k + 1)) = W.getD (W.length - 1 - (k + 1)) default :: W.dropLast.drop (W.length - 1 - k) := by
      rw [List.drop_eq_getElem_cons (by omega), hget _ (by omega), List.getD_eq_getElem?_getD, List.getElem?_eq_getElem (by omega), show W.length - 1 - (k + 1) + 1 = W.length - 1 - k by omega]; rfl
    simp only [e1, decide_true, cond_true, e2, getI_D W (W.length - 1 - (k + 1)) (by omega), Option.bind_some, style_eq g _ _ (styL_len s.2 _), e3, styL]
  · rw [Nat.sub_self]
    simp only [List.drop_zero]
    rfl
theorem Style_eq {s : Tree × List Lk} (g : Gd s) (hS : SmS s) (hB : shpB s = true) (id : Sp) : look_Style (s, id) = some (if liveC s.1.1 id = true then (styL s.2 (wayC s.1.1 id), 0) else ([], 3)) := by
  have hsm : Sm s.1.1 := show s.1.1.length < 1000000 by have := g.len; omega
  unfold look_Style
  simp only [IsShape_eq s hS, hB, Option.bind_some, Bool.not_true, cond_false, Lives_C id g.srt hsm g.acy, of_eq g id]
  cases liveC s.1.1 id <;> rfl
theorem rStyle_eq {s : Tree × List Lk} (g : Gd s) (id : Sp) : arrasref18_Style (s, id) = some (if liveC s.1.1 id = true then (styL s.2 (wayC s.1.1 id), true) else ([], false)) := by
  have hl := g.len
  have hul := upC_len id g.acy
  unfold arrasref18_Style
  simp only [rLive_C id g.srt hl g.acy, Option.bind_some]
  cases hlv : liveC s.1.1 id with
  | false => rfl
  | true =>
    have hup : (if (look s.1.1 id).isSome = true then (upC s.1.1 id, true) else ([], false)).1 = upC s.1.1 id := by
      cases hk : look s.1.1 id with
      | some n => rfl
      | none => rw [upC_none g.acy hk]; rfl
    simp only [Bool.not_true, cond_false, rPlain_eq, Option.bind_some, rAbove_C id g.srt hl g.acy, hup, if_true]
    have hlive := (live_iff g.root).1 hlv
    unfold wayC
    generalize hU : upC s.1.1 id = U at *
    cases U with
    | nil =>
      have hid : id = (0, 0) := by
        rcases hlive with h | h
        · exact h
        · cases h
      subst hid
      rw [iter_inr (r := (s, ((0, 0), tab))) (by rfl)]
      rfl
    | cons q U =>
      have hid : id ≠ (0, 0) := by
        rintro rfl
        rw [upC_none g.acy g.root] at hU
        cases hU
      have hlen : (q :: U).length = U.length + 1 := rfl
      have hc : (q :: U).dropLast.length = U.length := by simp
      have hw : IntKind.wrap .i64 (((q :: U).length : Nat) - 2 : Int) = ((U.length : Nat) : Int) - 1 - ((0 : Nat) : Int) := by rw [Go.Dv.wrap_small] <;> omega
      have hget : ∀ k, k < U.length → (q :: U).getD k default = (q :: U).dropLast.getD k default := fun k hk => by
        rw [List.getD_eq_getElem?_getD, List.getD_eq_getElem?_getD, List.getElem?_dropLast, if_pos (by omega)]
      rw [hw]
      rw [iter_run' (inv := fun k : Nat => (q :: U, (((U.length : Nat) : Int) - 1 - ((k : Nat) : Int), (s, (id, styL s.2 ((q :: U).dropLast.drop (U.length - k))))))) (k := U.length) (r := (s, (id, styL s.2 (q :: U).dropLast))) ?_ ?_ (by rw [List.drop_eq_nil_of_le (by omega)]; rfl)]
      · have e0 : ((id.1 == (arrasref6_Root ()).1) && (id.2 == (arrasref6_Root ()).2)) = false := by rw [rroot_eq]; simp [rootB, hid]
        simp only [Option.bind_some, e0, Bool.not_false, cond_true, beneath_eq g id _ (styL_len s.2 _), List.dropLast_cons_of_ne_nil (show q :: U ≠ [] by simp), styL]
      · intro k hk
        have e0 : ((U.length : Nat) : Int) - 1 - ((k : Nat) : Int) = ((U.length - 1 - k : Nat) : Int) := by omega
        have e1 : (0 : Int) ≤ ((U.length - 1 - k : Nat) : Int) := by omega
        have e2 : IntKind.wrap .i64 (((U.length - 1 - k : Nat) : Int) - 1) = ((U.length : Nat) : Int) - 1 - ((k + 1 : Nat) : Int) := by rw [Go.Dv.wrap_small] <;> omega
        have e3 : (q :: U).dropLast.drop (U.length - (k + 1)) = (q :: U).getD (U.length - 1 - k) default :: (q :: U).dropLast.drop (U.length - k) := by
          rw [show U.length - (k + 1) = U.length - 1 - k by omega, List.drop_eq_getElem_cons (by omega), hget _ (by omega), List.getD_eq_getElem?_getD, List.getElem?_eq_getElem (by omega), show U.length - 1 - k + 1 = U.length - k by omega]; rfl
        simp only [e0, e1, decide_true, cond_true, e2, getI_D (q :: U) (U.length - 1 - k) (by omega), Option.bind_some, beneath_eq g _ _ (styL_len s.2 _), e3, styL]
      · rw [Nat.sub_self]
        have : ¬ (0 : Int) ≤ ((U.length : Nat) : Int) - 1 - ((U.length : Nat) : Int) := by omega
        simp only [this, decide_false, cond_false, List.drop_zero]
theorem Numbers_eq (l : List Int) (h : l.length < 999000) : arraslaw0_Numbers l = some () := by
  unfold arraslaw0_Numbers
  have step : ∀ (d i : Nat) (m : List Int), m.length = l.length → l.length - i = d → i ≤ l.length → ∃ m', m'.length = l.length ∧ iter (σ := (List Int × Int)) (ρ := List Int) (fun s =>
      bif (decide ((s.2 < ((List.length s.1) : Int)))) then (((getI s.1 s.2)).bind fun x1 =>
        ((getI s.1 s.2)).bind fun x2 =>
        some (.inl ((List.set s.1 (Int.toNat s.2) (-99)), (IntKind.wrap .i64 (s.2 + 1))))) else
      some (.inr s.1)) (m, (i : Int)) = some m' := by
    intro d
    induction d with
    | zero =>
      intro i m hm hd hi
      refine ⟨m, hm, iter_inr ?_⟩
      have : ¬ ((i : Int) < ((m.length : Nat) : Int)) := by omega
      simp only [this, decide_false, cond_false]
    | succ d ih =>
      intro i m hm hd hi
      have e1 : (i : Int) < ((m.length : Nat) : Int) := by omega
      obtain ⟨m', h1, h2⟩ := ih (i + 1) (m.set i (-99)) (by simpa using hm) (by omega) (by omega)
      refine ⟨m', h1, ?_⟩
      rw [← h2]
      refine iter_inl ?_
      simp only [e1, decide_true, cond_true, getI_D m i (by omega), Option.bind_some, Int.toNat_natCast, wrap_nat (show i < 9223372036854775807 by omega)]
  obtain ⟨m', h1, h2⟩ := step l.length 0 l rfl (by omega) (by omega)
  rw [show ((l, (0 : Int)) : List Int × Int) = (l, ((0 : Nat) : Int)) from rfl, h2]
  simp only [Option.bind_some]
  have : room (List.length (m' ++ [(5 : Int)])) 8 = true := room_small (by simp only [List.length_append, List.length_cons, List.length_nil]; omega) (by decide)
  rw [this]; rfl
end Go.Tr
set_option linter.unusedVariables false
set_option linter.unusedSimpArgs false
namespace Go.Tr
open Go Go.Dv Go.Ky
def shownK (lk : List Lk) (x : List Int) (k : Nd) : Bool := (stepF (regsAt lk k.1) x).getD 0 0 != 2
def vis (l : List Nd) (lk : List Lk) (id : Sp) (x : List Int) : List Nd := (kidsC l id).filter (shownK lk x)
def boxN (l : List Nd) (lk : List Lk) : Nat → Sp → List Int → Rose (Sp × List Int)
  | 0, id, x => .mk (id, x) []
  | n + 1, id, x => .mk (id, x) ((vis l lk id x).map fun k => boxN l lk n k.1 (stepF (regsAt lk k.1) x))
def preN (l : List Nd) (lk : List Lk) : Nat → Sp → List Int → List Sp
  | 0, id, x => [id]
  | n + 1, id, x => id :: (vis l lk id x).flatMap fun k => preN l lk n k.1 (stepF (regsAt lk k.1) x)
def Chn (l : List Nd) : Sp → List Sp → Sp → Prop
  | m, [], id => m = id
  | m, a :: c, id => a = m ∧ ∃ p, par l m = some p ∧ Chn l p c id
def Sh (lk : List Lk) (w : List Sp) : List Sp → Prop
  | [] => True
  | a :: c => (styL lk (a :: c ++ w)).getD 0 0 ≠ 2 ∧ Sh lk w c
end Go.Tr
set_option linter.unusedVariables false
set_option linter.unusedSimpArgs false
namespace Go.Tr
open Go Go.Dv Go.Ky
theorem style_v : look_style_v = look_style := rfl
theorem plain_v : prop_Plain_v = prop_Plain := rfl
theorem rose_eta {α : Type} (r : Rose α) : Rose.mk (Rose.val r) (Rose.kids r) = r := by cases r; rfl
theorem mono_box : Mono look_box_b := by
  intro F F' hF x
  unfold look_box_b
  exact up_cond (up_refl _) (up_bind (up_refl _) fun _ => up_bind (up_iter (fun s => up_cond (up_bind (up_refl _) fun _ => up_bind (up_refl _) fun _ => up_bind (up_refl _) fun _ => up_cond (up_bind (hF _) fun _ => up_refl _) (up_refl _)) (up_refl _)) _) fun _ => up_refl _)
theorem box_fix {s : Tree × List Lk} (g : Gd s) : ∀ (n : Nat) (id : Sp) (x : List Int), n < 1000 → x.length = 19 → fixN look_box_b (n + 1) (s, (id, (x, ((n + 1 : Nat) : Int)))) = some (boxN s.1.1 s.2 n id x)
  | 0, id, x, _, hx => by
    rw [fixN, look_box_b]
    simp only [show ((((0 + 1 : Nat) : Int)) == 1) = true from rfl, cond_true, boxN]
  | n + 1, id, x, hn, hx => by
    have hsm : Sm s.1.1 := show s.1.1.length < 1000000 by have := g.len; omega
    have hkl := kids_len s.1.1 id
    have hl := g.len
    have ih := fun k y hy => box_fix g n k y (by omega) hy
    have e0 : ((((n + 1 + 1 : Nat) : Int)) == 1) = false := by rw [beq_eq_false_iff_ne]; omega
    rw [fixN, look_box_b]
    simp only [e0, cond_false, Children_eq s.1 id hsm, Option.bind_some, kidsC_eq id g.srt, style_v]
    rw [kidsC_eq id g.srt] at hkl
    simp only [boxN, vis]
    generalize kidsC s.1.1 id = K at *
    let A : Nat → List (Rose (Sp × List Int)) := fun i => ((K.take i).filter (shownK s.2 x)).map fun k => boxN s.1.1 s.2 n k.1 (stepF (regsAt s.2 k.1) x)
    rw [iter_run' (inv := fun i : Nat => (((n + 1 + 1 : Nat) : Int), (K, (((K.length : Nat) : Int), ((i : Int), (s, (id, (x, ((0 : Int), ((0 : Int), (id.1, (id.2, (x, A i))))))))))))) (k := K.length) (r := (s, (id, (x, ((0 : Int), ((0 : Int), (id.1, (id.2, (x, A K.length))))))))) ?_ ?_ (by simp [A])]
    · simp only [Option.bind_some, A, List.take_length]
    · intro i hi
      have e1 : (i : Int) < ((K.length : Nat) : Int) := by omega
      have e2 : IntKind.wrap .i64 (((n + 1 + 1 : Nat) : Int) - 1) = ((n + 1 : Nat) : Int) := by rw [Go.Dv.wrap_small] <;> omega
      have hy := stepF_len (regsAt s.2 (K.getD i default).1) x
      have e3 : getI (stepF (regsAt s.2 (K.getD i default).1) x) 0 = some ((stepF (regsAt s.2 (K.getD i default).1) x).getD 0 0) := by
        rw [show (0 : Int) = ((0 : Nat) : Int) from rfl, getI_lt _ 0 (by omega), List.getD_eq_getElem?_getD, List.getElem?_eq_getElem (by omega)]; rfl
      have hA : A (i + 1) = if shownK s.2 x (K.getD i default) = true then A i ++ [boxN s.1.1 s.2 n (K.getD i default).1 (stepF (regsAt s.2 (K.getD i default).1) x)] else A i := by
        simp only [A, take_snoc hi, List.filter_append, List.map_append]
        generalize K.getD i default = q
        by_cases h : shownK s.2 x q = true
        · rw [if_pos h, List.filter_cons_of_pos h]; rfl
        · rw [if_neg h, List.filter_cons_of_neg h]; simp
      have hAl : (A i).length ≤ i := by
        simp only [A, List.length_map]
        exact Nat.le_trans (List.length_filter_le _ _) (by simp; omega)
      simp only [e1, decide_true, cond_true, getI_D K i hi, Option.bind_some, style_eq g _ x hx, e3, e2, hA, wrap_nat (show i < 9223372036854775807 by omega), rose_eta]
      have hsh : ((stepF (regsAt s.2 (K.getD i default).1) x).getD 0 0 != 2) = shownK s.2 x (K.getD i default) := rfl
      rw [hsh]
      cases shownK s.2 x (K.getD i default) with
      | false => rfl
      | true =>
        simp only [cond_true, ih _ _ hy, Option.bind_some, if_true, rose_eta]
        rw [show room (List.length (A i ++ [boxN s.1.1 s.2 n (K.getD i default).1 (stepF (regsAt s.2 (K.getD i default).1) x)])) 64 = true from room_small (by simp only [List.length_append, List.length_cons, List.length_nil]; omega) (by decide)]
        rfl
    · simp only [Int.lt_irrefl, decide_false, cond_false]
theorem All_eq {s : Tree × List Lk} (g : Gd s) : look_All s = some (boxN s.1.1 s.2 12 (0, 0) tab) := by
  unfold look_All
  have h := fixO_is mono_box (box_fix g 12 (0, 0) tab (by decide) tab_len)
  have e : look_box (s, ((stamp_Root ()), (tab, (13 : Int)))) = some (boxN s.1.1 s.2 12 (0, 0) tab) := h
  rw [plain_v, Plain_eq]
  simp only [Option.bind_some, e, rose_eta]
theorem Boxes_eq {s : Tree × List Lk} (g : Gd s) (hS : SmS s) (hB : shpB s = true) : look_Boxes s = some (boxN s.1.1 s.2 12 (0, 0) tab, 0) := by
  unfold look_Boxes
  simp only [IsShape_eq s hS, hB, Option.bind_some, Bool.not_true, cond_false, All_eq g, rose_eta]
theorem rApply0 : arrasref16_Apply ((([], []) : Tree), arraslaw10_O ()) = some (made [arraslaw10_O ()], true) := by
  unfold arrasref16_Apply
  rw [Moves_eq _ (by decide)]
  simp only [Option.bind_some, List.map_nil]
  rw [iter_inr (r := .inl ([], (false, (([], []), (arraslaw10_O (), ([], [])))))) (by rfl)]
  simp only [Option.bind_some, Bool.not_false, cond_true, List.nil_append]
  rw [Made_eq _ (by decide) (by intro o ho; rw [List.mem_singleton.1 ho]; show List.length _ < _; simp [arraslaw10_O])]
  rfl
theorem wakes18_eq : arraslaw18_wakes () = some true := by
  have ho : OkS ([arraslaw10_O ()], []) := by
    have := putS_ok oks_nil O_op (show clash ([], []) (arraslaw10_O ()) = false from rfl)
    exact this
  have hS := sms_shp ho (by decide) (by decide)
  have g := gd_of ho hS
  have hs0 : SmS ((([], []), []) : Tree × List Lk) := ⟨by decide, by decide, by simp, by decide, by simp⟩
  have hD : arrasref16_Does ((([], []), []) , arraslaw10_O ()) = some (shp ([arraslaw10_O ()], []), true) := by
    unfold arrasref16_Does
    have hk : ((arraslaw10_O ()).2.2.2.1 == 1) = true := rfl
    have hct : arrasref0_CopyTree (made [arraslaw10_O ()]) = some (made [arraslaw10_O ()]) := CopyTree_eq _ (show List.length _ < _ by rw [made_O]; decide) (show List.length _ < _ by show (ens [] [arraslaw10_O ()]).length < _; rw [ens_len]; decide) (ok_deps (l := []) ho.t)
    simp only [CopyShape_eq _ hs0, Option.bind_some, hk, cond_true, rApply0, hct]
    rfl
  unfold arraslaw18_wakes
  rw [show ((([], []), []) : Shape) = ((([], []), []) : Tree × List Lk) from rfl, hD]
  simp only [Option.bind_some, Boxes_eq g hS (shpB_iff.2 ⟨_, ho, rfl⟩)]
  have hk : kidsC (shp ([arraslaw10_O ()], [])).1.1 ((0, 0) : Sp) = [(((1 : Int), (0 : Int)), ((0 : Int), (0 : Int)), (ByteArray.mk ([107]).toArray))] := by
    show kidsC (made [arraslaw10_O ()]).1 ((0, 0) : Sp) = _
    rw [made_O]; simp [kidsC, insK, posK]
  have hb : boxN (shp ([arraslaw10_O ()], [])).1.1 (shp ([arraslaw10_O ()], [])).2 12 (0, 0) tab = .mk ((0, 0), tab) [boxN (shp ([arraslaw10_O ()], [])).1.1 (shp ([arraslaw10_O ()], [])).2 11 (1, 0) (stepF [] tab)] := by
    rw [boxN]
    simp only [vis, hk]
    rfl
  rw [hb]
  rfl
end Go.Tr
set_option linter.unusedVariables false
set_option linter.unusedSimpArgs false
namespace Go.Tr
open Go Go.Dv Go.Ky
theorem num18_eq (e : Int) : arraslaw18_num e = e := rfl
theorem EqStyle_eq (a b : List Int) (ha : a.length < 9223372036854775807) : arrasref0_EqStyle (a, b) = some (decide (a = b)) := by
  unfold arrasref0_EqStyle
  rw [EqNumbers_eq a b ha]; rfl
theorem pure_LookStyles (y : El sScript_arraslaw17) (h : Bnd sScript_arraslaw17 y) : arraslaw18_LookStyles y = some true := by
  obtain ⟨b, hb, hb2⟩ := Heavy17_eq y h
  unfold arraslaw18_LookStyles
  rw [hb]
  simp only [Option.bind_some]
  cases b with
  | true => rfl
  | false =>
    have L := hb2 rfl
    obtain ⟨s, l, ids⟩ := y
    have hS : SmS s := L.s
    have hn : s.1.1.length ≤ 3000 := L.n
    have hi : ids.length ≤ 200 := L.i
    simp only [cond_false]
    rw [show room (List.length ([((0 : Int), (0 : Int)), ((0 : Int), (1 : Int))] ++ ids)) 16 = true from room_small (by simp only [List.length_append, List.length_cons, List.length_nil]; omega) (by decide)]
    simp only [cond_true]
    rw [iter_run' (inv := fun i : Nat => (([((0 : Int), (0 : Int)), ((0 : Int), (1 : Int))] ++ ids) ++ (s.1.1.take i).map (fun n => n.1), ((i : Int), ((s, (l, ids)) : Script_arraslaw17)))) (k := s.1.1.length) (r := (([((0 : Int), (0 : Int)), ((0 : Int), (1 : Int))] ++ ids) ++ s.1.1.map (fun n => n.1), ((s, (l, ids)) : Script_arraslaw17))) ?_ ?_ (by simp)]
    · simp only [Option.bind_some]
      have hpl : (([((0 : Int), (0 : Int)), ((0 : Int), (1 : Int))] ++ ids) ++ s.1.1.map (fun n => n.1)).length ≤ 10000 := by
        simp only [List.length_append, List.length_map, List.length_cons, List.length_nil]; omega
      generalize ([((0 : Int), (0 : Int)), ((0 : Int), (1 : Int))] ++ ids) ++ s.1.1.map (fun n => n.1) = pl at *
      rw [iter_run' (inv := fun i : Nat => (pl, ((i : Int), ((s, (l, ids)) : Script_arraslaw17)))) (k := min pl.length 30) (r := .inl (s, (l, ids)))]
      · simp only [Option.bind_some, wakes18_eq]
      · intro i hi
        have e0 : i < pl.length := by omega
        have e1 : (i : Int) < (pl.length : Int) := by omega
        have e2 : (i : Int) < 30 := by omega
        simp only [e1, e2, decide_true, cond_true, getI_D pl i e0, Option.bind_some, ref_Shape_eq s hS]
        generalize pl.getD i default = id
        cases hB : shpB s with
        | false =>
          have hst : look_Style (s, id) = some ([], 1) := by
            unfold look_Style
            simp only [IsShape_eq s hS, hB, Option.bind_some, Bool.not_false, cond_true]
          simp only [hst, Option.bind_some, cond_false, num18_eq, bne_self_eq_false, EqStyle_eq [] [] (by decide), decide_true, Bool.not_true, Numbers_eq [] (by decide), wrap_nat (show i < 9223372036854775807 by omega)]
        | true =>
          obtain ⟨st, hst, rfl⟩ := shpB_iff.1 hB
          have g := gd_of hst hS
          rw [Style_eq g hS hB id, rStyle_eq g id]
          cases hl : liveC (shp st).1.1 id with
          | false =>
            simp only [Bool.false_eq_true, if_false, Option.bind_some, cond_true, cond_false, num18_eq, bne_self_eq_false, EqStyle_eq [] [] (by decide), decide_true, Bool.not_true, Numbers_eq [] (by decide), wrap_nat (show i < 9223372036854775807 by omega)]
          | true =>
            have hlen := styL_len (shp st).2 (wayC (shp st).1.1 id)
            simp only [if_true, Option.bind_some, cond_true, num18_eq, bne_self_eq_false, cond_false, EqStyle_eq _ _ (show (styL (shp st).2 (wayC (shp st).1.1 id)).length < 9223372036854775807 by omega), decide_true, Bool.not_true, Numbers_eq _ (show (styL (shp st).2 (wayC (shp st).1.1 id)).length < 999000 by omega), wrap_nat (show i < 9223372036854775807 by omega)]
      · by_cases hc : pl.length ≤ 30
        · have e : ¬ ((min pl.length 30 : Nat) : Int) < (pl.length : Int) := by omega
          simp only [e, decide_false, cond_false]
        · have e : ((min pl.length 30 : Nat) : Int) < (pl.length : Int) := by omega
          have e2 : ¬ ((min pl.length 30 : Nat) : Int) < 30 := by omega
          simp only [e, e2, decide_true, decide_false, cond_true, cond_false]
    · intro i hi
      have e1 : (i : Int) < (s.1.1.length : Int) := by omega
      have hr : room (List.length ((([((0 : Int), (0 : Int)), ((0 : Int), (1 : Int))] ++ ids) ++ (s.1.1.take i).map (fun n => n.1)) ++ [(s.1.1.getD i default).1])) 16 = true := room_small (by simp only [List.length_append, List.length_map, List.length_take, List.length_cons, List.length_nil]; omega) (by decide)
      simp only [e1, decide_true, cond_true, getI_D s.1.1 i hi, Option.bind_some, hr, wrap_nat (show i < 9223372036854775807 by omega)]
      rw [take_snoc hi, List.map_append, ← List.append_assoc]
      rfl
    · simp only [Int.lt_irrefl, decide_false, cond_false, List.take_length]
end Go.Tr
