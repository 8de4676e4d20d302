/- A part of the proof: LkA, LkB, LkO, LkW, LkStyles, LkGoes, LkOrders. -/
import Derived.Test.YtlfkabehppdohaaGreatLsC
import Derived.Test.YtlfkabehppdohaaGreatLsSlots
set_option linter.unusedVariables false
set_option linter.unusedSimpArgs false
namespace Go.Tr
open Go Go.Dv Go.Ky
def tab : List Int := (List.range 19).map fun p : Nat => prDef (p : Int)
def belF (x : List Int) : List Int := (List.range 19).map fun p : Nat => if prGo (p : Int) = true then x.getD p 0 else prDef (p : Int)
def stepF (l : List Rg) (x : List Int) : List Int := (List.range 19).map fun p : Nat => match glook rk l (p : Int) with
  | some r => r.2.1
  | none => if prGo (p : Int) = true then x.getD p 0 else prDef (p : Int)
theorem tab_len : tab.length = 19 := rfl
theorem belF_len (x : List Int) : (belF x).length = 19 := by simp [belF]
theorem stepF_len (l : List Rg) (x : List Int) : (stepF l x).length = 19 := by simp [stepF]
def setsF (l : List Rg) (x : List Int) : List Int := l.foldl (fun x r => x.set r.1.toNat r.2.1) x
theorem setsF_len : ∀ (l : List Rg) (x : List Int), (setsF l x).length = x.length
  | [], _ => rfl
  | r :: l, x => by rw [setsF, List.foldl_cons]; exact (setsF_len l _).trans (List.length_set ..)
theorem setsF_get : ∀ (l : List Rg) (x : List Int) (p : Nat), GS rk ilt l → (∀ r ∈ l, 0 ≤ r.1) → p < x.length → (setsF l x)[p]? = some (match glook rk l (p : Int) with
  | some r => r.2.1
  | none => x.getD p 0)
  | [], x, p, _, _, hp => by
    show x[p]? = some (x.getD p 0)
    rw [List.getElem?_eq_getElem hp, List.getD_eq_getElem?_getD, List.getElem?_eq_getElem hp]; rfl
  | r :: l, x, p, hs, h0, hp => by
    have hs' := List.pairwise_cons.1 hs
    rw [setsF, List.foldl_cons]
    have := setsF_get l (x.set r.1.toNat r.2.1) p hs'.2 (fun q hq => h0 q (by simp [hq])) (by simpa using hp)
    rw [setsF] at this
    rw [this, glook]
    have hr0 := h0 r (by simp)
    by_cases e : rk r = (p : Int)
    · have e' : r.1 = (p : Int) := e
      rw [if_pos e]
      have hn : glook rk l (p : Int) = none := by
        cases h : glook rk l (p : Int) with
        | none => rfl
        | some q =>
          have := glook_id h
          have hlt : ilt (rk r) (rk q) := hs'.1 q this.2
          rw [e, this.1] at hlt
          exact absurd hlt (by unfold ilt; omega)
      rw [hn]
      simp [e', List.getD_eq_getElem?_getD, hp]
    · rw [if_neg e]
      have e' : r.1.toNat ≠ p := by
        intro h
        have : r.1 = (p : Int) := by omega
        exact e this
      cases glook rk l (p : Int) with
      | some q => rfl
      | none => simp only [List.getD_eq_getElem?_getD, List.getElem?_set_ne e']
theorem setsF_bel {l : List Rg} (x : List Int) (hs : GS rk ilt l) (h0 : ∀ r ∈ l, 0 ≤ r.1) : setsF l (belF x) = stepF l x := by
  apply List.ext_getElem?
  intro p
  by_cases hp : p < 19
  · rw [setsF_get l _ p hs h0 (by rw [belF_len]; exact hp)]
    have e1 : (belF x).getD p 0 = if prGo (p : Int) = true then x.getD p 0 else prDef (p : Int) := by
      rw [List.getD_eq_getElem?_getD]
      simp only [belF, List.getElem?_map, List.getElem?_range hp, Option.map_some, Option.getD_some]
    rw [e1]
    simp only [stepF, List.getElem?_map, List.getElem?_range hp, Option.map_some]
  · rw [List.getElem?_eq_none (by rw [setsF_len, belF_len]; omega), List.getElem?_eq_none (by rw [stepF_len]; omega)]
theorem prIs_nat {i : Nat} (h : i < 19) : prIs (i : Int) = true := by simp [prIs]; omega
theorem snoc_range {α : Type} (f : Nat → α) (i : Nat) : (List.range i).map f ++ [f i] = (List.range (i + 1)).map f := by rw [List.range_succ, List.map_append]; rfl
theorem room19 {α : Type} {l : List α} {i : Nat} (h : l.length = i) (hi : i ≤ 1000) : room l.length 8 = true := room_small (by omega) (by decide)
theorem Plain_eq : prop_Plain () = some tab := by
  unfold prop_Plain
  rw [iter_run' (inv := fun i : Nat => ((i : Int), (List.range i).map fun p : Nat => prDef (p : Int))) (k := 19) (r := tab)]
  · rfl
  · intro i hi
    have e1 : (i : Int) < 19 := by omega
    simp only [e1, decide_true, cond_true, prop_ruleOf_eq (prIs_nat hi), Option.bind_some, snoc_range (fun p : Nat => prDef (p : Int)), wrap_nat (show i < 9223372036854775807 by omega)]
    rw [room19 (i := i + 1) (by simp) (by omega)]; rfl
  · rfl
theorem rDefault_eq {p : Int} (h : prIs p = true) : arrasref8_Default p = some (prDef p) := by
  unfold arrasref8_Default
  rw [ref_value_eq h]; rfl
theorem rPlain_eq : arrasref8_Plain () = some tab := by
  unfold arrasref8_Plain
  rw [iter_run' (inv := fun i : Nat => ((i : Int), (List.range i).map fun p : Nat => prDef (p : Int))) (k := 19) (r := tab)]
  · rfl
  · intro i hi
    have e1 : (i : Int) < 19 := by omega
    simp only [e1, decide_true, cond_true, rDefault_eq (prIs_nat hi), Option.bind_some, snoc_range (fun p : Nat => prDef (p : Int)), wrap_nat (show i < 9223372036854775807 by omega)]
    rw [room19 (i := i + 1) (by simp) (by omega)]; rfl
  · rfl
theorem rGoes_eq (p : Int) : arrasref8_Goes p = prGo p := by
  unfold arrasref8_Goes prGo
  by_cases h : p = 17 <;> by_cases k : p = 18 <;> simp [h, k]
def belI (x : List Int) (i : Nat) : List Int := (List.range 19).map fun p : Nat => if p < i ∧ prGo (p : Int) = true then x.getD p 0 else prDef (p : Int)
theorem belI_len (x : List Int) (i : Nat) : (belI x i).length = 19 := by simp [belI]
theorem belI_get (x : List Int) (i p : Nat) (h : p < 19) : (belI x i)[p]? = some (if p < i ∧ prGo (p : Int) = true then x.getD p 0 else prDef (p : Int)) := by
  simp only [belI, List.getElem?_map, List.getElem?_range h, Option.map_some]
theorem belI_succ (x : List Int) (i : Nat) (h : i < 19) : belI x (i + 1) = if prGo (i : Int) = true then (belI x i).set i (x.getD i 0) else belI x i := by
  apply List.ext_getElem?
  intro p
  by_cases hp : p < 19
  · rw [belI_get x _ p hp]
    by_cases hg : prGo (i : Int) = true
    · rw [if_pos hg]
      by_cases e : p = i
      · subst e
        rw [List.getElem?_set_self (by rw [belI_len]; exact hp), if_pos ⟨by omega, hg⟩]
      · rw [List.getElem?_set_ne (Ne.symm e), belI_get x _ p hp]
        have : (p < i + 1 ∧ prGo (p : Int) = true) ↔ (p < i ∧ prGo (p : Int) = true) := by constructor <;> rintro ⟨a, b⟩ <;> exact ⟨by omega, b⟩
        simp only [this]
    · rw [if_neg hg, belI_get x _ p hp]
      have : (p < i + 1 ∧ prGo (p : Int) = true) ↔ (p < i ∧ prGo (p : Int) = true) := by
        constructor
        · rintro ⟨a, b⟩
          refine ⟨?_, b⟩
          have : p ≠ i := by rintro rfl; exact hg b
          omega
        · rintro ⟨a, b⟩; exact ⟨by omega, b⟩
      simp only [this]
  · have h1 : ∀ l : List Int, l.length = 19 → l[p]? = none := fun l hl => List.getElem?_eq_none (by omega)
    rw [h1 _ (belI_len _ _)]
    by_cases hg : prGo (i : Int) = true
    · rw [if_pos hg, h1 _ (by rw [List.length_set, belI_len])]
    · rw [if_neg hg, h1 _ (belI_len _ _)]
theorem belI_end (x : List Int) : belI x 19 = belF x := by
  unfold belI belF
  apply List.map_congr_left
  intro p hp
  have hp := List.mem_range.1 hp
  by_cases h : prGo (p : Int) = true <;> simp [h, hp]
theorem belI_nil (x : List Int) : belI x 0 = tab := by
  unfold belI tab
  apply List.map_congr_left
  intro p hp
  simp
theorem Below_eq (x : List Int) (hx : x.length = 19) : prop_Below x = some (belF x) := by
  unfold prop_Below
  simp only [Plain_eq, Option.bind_some, tab_len]
  rw [iter_run' (inv := fun i : Nat => (((19 : Nat) : Int), ((i : Int), (x, belI x i)))) (k := 19) (r := (x, belF x)) ?_ ?_ (by simp only [belI_nil]; rfl)]
  · rfl
  · intro i hi
    have e1 : (i : Int) < ((19 : Nat) : Int) := by omega
    simp only [e1, decide_true, cond_true, prop_ruleOf_eq (prIs_nat hi), Option.bind_some]
    rw [belI_succ x i hi]
    cases hg : prGo (i : Int) with
    | true =>
      have hxi : getI x (i : Int) = some (x.getD i 0) := by rw [getI_lt x i (by omega), List.getD_eq_getElem?_getD, List.getElem?_eq_getElem (by omega)]; rfl
      simp only [cond_true, hxi, getI_lt (belI x i) i (by rw [belI_len]; exact hi), Option.bind_some, Int.toNat_natCast, if_true, wrap_nat (show i < 9223372036854775807 by omega)]
    | false =>
      simp only [cond_false, Bool.false_eq_true, if_false, wrap_nat (show i < 9223372036854775807 by omega)]
  · rw [belI_end]
    simp only [Int.lt_irrefl, decide_false, cond_false]
structure Gd (s : Tree × List Lk) : Prop where
  srt : Srt s.1.1
  acy : Acy s.1.1
  len : s.1.1.length < 999000
  root : look s.1.1 (0, 0) = none
  ok : OkL s.2
  l : s.2.length < 999000
  r : ∀ id, (regsAt s.2 id).length < 999000
theorem gd_of {st : St} (h : OkS st) (hS : SmS (shp st)) : Gd (shp st) := by
  have n0 := nds0 st.1
  refine ⟨n0.1, n0.2.1, hS.n, root_none h.t, h.l, hS.l, fun id => ?_⟩
  unfold regsAt
  split
  · decide
  · rename_i q hq; exact hS.r q (glook_id hq).2
theorem prOk_is {p v : Int} (h : prOk p v = true) : ∃ i : Nat, p = (i : Int) ∧ i < 19 := by
  simp only [prOk, prIs, Bool.and_eq_true, decide_eq_true_eq] at h
  exact ⟨p.toNat, by omega, by omega⟩
theorem style_eq {s : Tree × List Lk} (g : Gd s) (id : Sp) (x : List Int) (hx : x.length = 19) : look_style (s, (id, x)) = some (stepF (regsAt s.2 id) x) := by
  obtain ⟨h1, h2⟩ := regsAt_ok g.ok id
  have hr := g.r id
  unfold look_style
  simp only [Below_eq x hx, Option.bind_some, Regs_eq id g.ok.srt (show s.2.length < 1000000 by have := g.l; omega)]
  generalize regsAt s.2 id = R at *
  rw [iter_run' (inv := fun i : Nat => (R, (((R.length : Nat) : Int), ((i : Int), (s, (id, (x, setsF (R.take i) (belF x)))))))) (k := R.length) (r := (s, (id, (x, setsF R (belF x)))))]
  · simp only [Option.bind_some]
    rw [setsF_bel x h1 fun r hr => ?_]
    obtain ⟨i, e, _⟩ := prOk_is (h2 r hr).1
    omega
  · intro i hi
    have e1 : (i : Int) < ((R.length : Nat) : Int) := by omega
    obtain ⟨k, e2, e3⟩ := prOk_is (h2 _ (getD_mem hi)).1
    have e4 : getI (setsF (R.take i) (belF x)) ((k : Nat) : Int) = some ((setsF (R.take i) (belF x))[k]'(by rw [setsF_len, belF_len]; exact e3)) := getI_lt _ _ _
    simp only [e1, decide_true, cond_true, getI_D R i hi, Option.bind_some, e2, e4, Int.toNat_natCast, wrap_nat (show i < 9223372036854775807 by omega), take_snoc hi]
    unfold setsF
    rw [List.foldl_append]
    simp only [List.foldl_cons, List.foldl_nil, e2, Int.toNat_natCast]
  · simp only [Int.lt_irrefl, decide_false, cond_false, List.take_length]
theorem glook_idx (R : List Rg) (p : Int) : glook rk R p = if R.findIdx (fun r => r.1 == p) < R.length then some (R.getD (R.findIdx fun r => r.1 == p) default) else none := by
  induction R with
  | nil => rfl
  | cons r R ih =>
    rw [glook, List.findIdx_cons]
    by_cases e : r.1 = p
    · have e' : rk r = p := e
      rw [if_pos e']
      simp [e]
    · have e' : ¬ rk r = p := e
      rw [if_neg e', ih]
      have : (r.1 == p) = false := beq_eq_false_iff_ne.2 e
      simp only [this, cond_false, List.length_cons, Nat.add_lt_add_iff_right, List.getD_cons_succ]
theorem find_loop0 {α σ ρ : Type} [Inhabited α] {K : List α} {p : α → Bool} {f : σ → Option (σ ⊕ ρ)} (inv : Nat → σ) (out : Nat → ρ) (no : ρ)
    (h1 : ∀ i, i < K.length → p (K.getD i default) = false → f (inv i) = some (.inl (inv (i + 1)))) (h2 : ∀ i, i < K.length → p (K.getD i default) = true → f (inv i) = some (.inr (out i))) (h3 : f (inv K.length) = some (.inr no)) {s0 : σ} (h0 : s0 = inv 0 := by rfl) :
    iter f s0 = some (if K.findIdx p < K.length then out (K.findIdx p) else no) := by
  have hle : K.findIdx p ≤ K.length := List.findIdx_le_length
  rw [iter_run' (inv := inv) (k := K.findIdx p) (r := if K.findIdx p < K.length then out (K.findIdx p) else no) ?_ ?_ h0]
  · intro i hi
    have hi' : i < K.length := by omega
    refine h1 i hi' ?_
    have := List.not_of_lt_findIdx hi
    rw [List.getD_eq_getElem?_getD, List.getElem?_eq_getElem hi']
    simpa using this
  · by_cases h : K.findIdx p < K.length
    · rw [if_pos h]
      refine h2 _ h ?_
      rw [List.getD_eq_getElem?_getD, List.getElem?_eq_getElem h]
      exact List.findIdx_getElem
    · rw [if_neg h, show K.findIdx p = K.length by omega]; exact h3
theorem rGet_eq (R : List Rg) (p : Int) (hR : R.length < 1000000) : arrasref14_Get (R, p) = some (match glook rk R p with
  | some r => (r.2.1, true)
  | none => (0, false)) := by
  unfold arrasref14_Get
  rw [find_loop0 (K := R) (p := fun r => r.1 == p) (inv := fun i : Nat => (R, (p, (i : Int)))) (out := fun i => .inr ((R.getD i default).2.1, true)) (no := .inl ()), glook_idx]
  · by_cases hc : R.findIdx (fun r => r.1 == p) < R.length
    · simp only [if_pos hc, Option.bind_some]
    · simp only [if_neg hc, Option.bind_some]
  · intro i hi hp
    have e1 : (i : Int) < (R.length : Int) := by omega
    have hp : ((R.getD i default).1 == p) = false := hp
    simp only [e1, decide_true, cond_true, getI_D R i hi, Option.bind_some, hp, cond_false, wrap_nat (show i < 9223372036854775807 by omega)]
  · intro i hi hp
    have e1 : (i : Int) < (R.length : Int) := by omega
    have hp : ((R.getD i default).1 == p) = true := hp
    simp only [e1, decide_true, cond_true, getI_D R i hi, Option.bind_some, hp]
  · simp only [Int.lt_irrefl, decide_false, cond_false]
theorem beneath_eq {s : Tree × List Lk} (g : Gd s) (id : Sp) (x : List Int) (hx : x.length = 19) : arrasref18_beneath (s, (id, x)) = some (stepF (regsAt s.2 id) x) := by
  have hr := g.r id
  unfold arrasref18_beneath
  simp only [refLook_eq s id g.l, Option.bind_some]
  generalize regsAt s.2 id = R at *
  let F : Nat → Int := fun p : Nat => match glook rk R (p : Int) with
    | some r => r.2.1
    | none => if prGo (p : Int) = true then x.getD p 0 else prDef (p : Int)
  rw [iter_run' (inv := fun i : Nat => (R, ((i : Int), (s, (id, (x, (List.range i).map F)))))) (k := 19) (r := (s, (id, (x, stepF R x))))]
  · rfl
  · intro i hi
    have e1 : (i : Int) < 19 := by omega
    have hroom : ∀ n : Int, room (List.length ((List.range i).map F ++ [n])) 8 = true := fun n => room19 (i := i + 1) (by simp) (by omega)
    simp only [e1, decide_true, cond_true, rGet_eq R (i : Int) (by omega), Option.bind_some]
    rw [← snoc_range F i]
    cases hg : glook rk R (i : Int) with
    | some r =>
      have : F i = r.2.1 := by simp only [F, hg]
      rw [this]
      simp only [Bool.not_true, cond_false, hroom, cond_true, wrap_nat (show i < 9223372036854775807 by omega)]
    | none =>
      simp only [Bool.not_false, cond_true, rDefault_eq (prIs_nat hi), Option.bind_some, rGoes_eq]
      cases hgo : prGo (i : Int) with
      | true =>
        have hxi : getI x (i : Int) = some (x.getD i 0) := by rw [getI_lt x i (by omega), List.getD_eq_getElem?_getD, List.getElem?_eq_getElem (by omega)]; rfl
        have : F i = x.getD i 0 := by simp only [F, hg, hgo, if_true]
        rw [this]
        simp only [cond_true, hxi, Option.bind_some, hroom, wrap_nat (show i < 9223372036854775807 by omega)]
      | false =>
        have : F i = prDef (i : Int) := by simp only [F, hg, hgo, Bool.false_eq_true, if_false]
        rw [this]
        simp only [cond_false, hroom, cond_true, wrap_nat (show i < 9223372036854775807 by omega)]
  · rfl
end Go.Tr
set_option linter.unusedVariables false
set_option linter.unusedSimpArgs false
namespace Go.Tr
open Go Go.Dv Go.Ky
def styL (lk : List Lk) : List Sp → List Int
  | [] => tab
  | w :: r => stepF (regsAt lk w) (styL lk r)
def wayC (l : List Nd) (id : Sp) : List Sp := (id :: upC l id).dropLast
theorem styL_len (lk : List Lk) : ∀ w : List Sp, (styL lk w).length = 19
  | [] => rfl
  | _ :: _ => stepF_len _ _
def valF (lk : List Lk) (p : Nat) : List Sp → Int
  | [] => prDef (p : Int)
  | w :: r => match glook rk (regsAt lk w) (p : Int) with
    | some x => x.2.1
    | none => if prGo (p : Int) = true then valF lk p r else prDef (p : Int)
theorem rStyle_eq {s : Tree × List Lk} (g : Gd s) (id : Sp) : arrasref18_Style (s, id) = some (if liveC s.1.1 id = true then (styL s.2 (wayC s.1.1 id), true) else ([], false)) := by
  have hl := g.len
  have hul := upC_len id g.acy
  unfold arrasref18_Style
  simp only [rLive_C id g.srt hl g.acy, Option.bind_some]
  cases hlv : liveC s.1.1 id with
  | false => rfl
  | true =>
    have hup : (if (look s.1.1 id).isSome = true then (upC s.1.1 id, true) else ([], false)).1 = upC s.1.1 id := by
      cases hk : look s.1.1 id with
      | some n => rfl
      | none => rw [upC_none g.acy hk]; rfl
    simp only [Bool.not_true, cond_false, rPlain_eq, Option.bind_some, rAbove_C id g.srt hl g.acy, hup, if_true]
    have hlive := (live_iff g.root).1 hlv
    unfold wayC
    generalize hU : upC s.1.1 id = U at *
    cases U with
    | nil =>
      have hid : id = (0, 0) := by
        rcases hlive with h | h
        · exact h
        · cases h
      subst hid
      rw [iter_inr (r := (s, ((0, 0), tab))) (by rfl)]
      rfl
    | cons q U =>
      have hid : id ≠ (0, 0) := by
        rintro rfl
        rw [upC_none g.acy g.root] at hU
        cases hU
      have hlen : (q :: U).length = U.length + 1 := rfl
      have hc : (q :: U).dropLast.length = U.length := by simp
      have hw : IntKind.wrap .i64 (((q :: U).length : Nat) - 2 : Int) = ((U.length : Nat) : Int) - 1 - ((0 : Nat) : Int) := by rw [Go.Dv.wrap_small] <;> omega
      have hget : ∀ k, k < U.length → (q :: U).getD k default = (q :: U).dropLast.getD k default := fun k hk => by
        rw [List.getD_eq_getElem?_getD, List.getD_eq_getElem?_getD, List.getElem?_dropLast, if_pos (by omega)]
      rw [hw]
      rw [iter_run' (inv := fun k : Nat => (q :: U, (((U.length : Nat) : Int) - 1 - ((k : Nat) : Int), (s, (id, styL s.2 ((q :: U).dropLast.drop (U.length - k))))))) (k := U.length) (r := (s, (id, styL s.2 (q :: U).dropLast))) ?_ ?_ (by rw [List.drop_eq_nil_of_le (by omega)]; rfl)]
      · have e0 : ((id.1 == (arrasref6_Root ()).1) && (id.2 == (arrasref6_Root ()).2)) = false := by rw [rroot_eq]; simp [rootB, hid]
        simp only [Option.bind_some, e0, Bool.not_false, cond_true, beneath_eq g id _ (styL_len s.2 _), List.dropLast_cons_of_ne_nil (show q :: U ≠ [] by simp), styL]
      · intro k hk
        have e0 : ((U.length : Nat) : Int) - 1 - ((k : Nat) : Int) = ((U.length - 1 - k : Nat) : Int) := by omega
        have e1 : (0 : Int) ≤ ((U.length - 1 - k : Nat) : Int) := by omega
        have e2 : IntKind.wrap .i64 (((U.length - 1 - k : Nat) : Int) - 1) = ((U.length : Nat) : Int) - 1 - ((k + 1 : Nat) : Int) := by rw [Go.Dv.wrap_small] <;> omega
        have e3 : (q :: U).dropLast.drop (U.length - (k + 1)) = (q :: U).getD (U.length - 1 - k) default :: (q :: U).dropLast.drop (U.length - k) := by
          rw [show U.length - (k + 1) = U.length - 1 - k by omega, List.drop_eq_getElem_cons (by omega), hget _ (by omega), List.getD_eq_getElem?_getD, List.getElem?_eq_getElem (by omega), show U.length - 1 - k + 1 = U.length - k by omega]; rfl
        simp only [e0, e1, decide_true, cond_true, e2, getI_D (q :: U) (U.length - 1 - k) (by omega), Option.bind_some, beneath_eq g _ _ (styL_len s.2 _), e3, styL]
      · rw [Nat.sub_self]
        have : ¬ (0 : Int) ≤ ((U.length : Nat) : Int) - 1 - ((U.length : Nat) : Int) := by omega
        simp only [this, decide_false, cond_false, List.drop_zero]
end Go.Tr
set_option linter.unusedVariables false
set_option linter.unusedSimpArgs false
namespace Go.Tr
open Go Go.Dv Go.Ky
def shownK (lk : List Lk) (x : List Int) (k : Nd) : Bool := (stepF (regsAt lk k.1) x).getD 0 0 != 2
def vis (l : List Nd) (lk : List Lk) (id : Sp) (x : List Int) : List Nd := (kidsC l id).filter (shownK lk x)
def boxN (l : List Nd) (lk : List Lk) : Nat → Sp → List Int → Rose (Sp × List Int)
  | 0, id, x => .mk (id, x) []
  | n + 1, id, x => .mk (id, x) ((vis l lk id x).map fun k => boxN l lk n k.1 (stepF (regsAt lk k.1) x))
def preN (l : List Nd) (lk : List Lk) : Nat → Sp → List Int → List Sp
  | 0, id, x => [id]
  | n + 1, id, x => id :: (vis l lk id x).flatMap fun k => preN l lk n k.1 (stepF (regsAt lk k.1) x)
def Chn (l : List Nd) : Sp → List Sp → Sp → Prop
  | m, [], id => m = id
  | m, a :: c, id => a = m ∧ ∃ p, par l m = some p ∧ Chn l p c id
theorem chn_snoc {l : List Nd} {k id : Sp} (hk : par l k = some id) : ∀ {c : List Sp} {m : Sp}, Chn l m c k → Chn l m (c ++ [k]) id
  | [], m, h => by
    have h : m = k := h
    subst h
    exact ⟨rfl, id, hk, rfl⟩
  | a :: c, m, ⟨e, p, hp, h⟩ => ⟨e, p, hp, chn_snoc hk h⟩
theorem chn_unsnoc {l : List Nd} {k id : Sp} : ∀ {c : List Sp} {m : Sp}, Chn l m (c ++ [k]) id → Chn l m c k ∧ par l k = some id
  | [], m, ⟨e, p, hp, h⟩ => by
    have h : p = id := h
    subst h; subst e
    exact ⟨rfl, hp⟩
  | a :: c, m, ⟨e, p, hp, h⟩ => by
    obtain ⟨h1, h2⟩ := chn_unsnoc h
    exact ⟨⟨e, p, hp, h1⟩, h2⟩
theorem chn_ends {l : List Nd} {id : Sp} {j : Nat} (he : EndsIn l j id) : ∀ {c : List Sp} {m : Sp}, Chn l m c id → EndsIn l (j + c.length) m
  | [], m, h => by
    have h : m = id := h
    subst h; exact he
  | a :: c, m, ⟨e, p, hp, h⟩ => ⟨p, hp, chn_ends he h⟩
theorem chn_det {l : List Nd} {id id' : Sp} : ∀ {c c' : List Sp} {m : Sp}, Chn l m c id → Chn l m c' id' → c.length = c'.length → id = id'
  | [], [], m, h, h', _ => by
    have h : m = id := h
    have h' : m = id' := h'
    rw [← h, ← h']
  | a :: c, b :: c', m, ⟨_, p, hp, h⟩, ⟨_, q, hq, h'⟩, hl => by
    rw [hp] at hq
    cases hq
    exact chn_det h h' (by simpa using hl)
def Sh (lk : List Lk) (w : List Sp) : List Sp → Prop
  | [] => True
  | a :: c => (styL lk (a :: c ++ w)).getD 0 0 ≠ 2 ∧ Sh lk w c
theorem sh_snoc (lk : List Lk) (w : List Sp) (k : Sp) : ∀ c : List Sp, Sh lk w (c ++ [k]) ↔ Sh lk (k :: w) c ∧ (styL lk (k :: w)).getD 0 0 ≠ 2
  | [] => by simp [Sh]
  | a :: c => by
    have ih := sh_snoc lk w k c
    simp only [List.cons_append, Sh, ih, List.append_assoc, List.nil_append, and_assoc]
theorem mem_vis {l : List Nd} {lk : List Lk} {id : Sp} {w : List Sp} {k : Nd} (hs : Srt l) : k ∈ vis l lk id (styL lk w) ↔ (look l k.1 = some k ∧ k.2.1 = id) ∧ (styL lk (k.1 :: w)).getD 0 0 ≠ 2 := by
  unfold vis
  rw [List.mem_filter, mem_kidsC hs]
  have e : shownK lk (styL lk w) k = true ↔ (styL lk (k.1 :: w)).getD 0 0 ≠ 2 := by
    simp only [shownK, bne_iff_ne, styL]
  rw [e]
  constructor
  · rintro ⟨⟨h1, h2⟩, h3⟩; exact ⟨⟨look_mem hs h1, h2⟩, h3⟩
  · rintro ⟨⟨h1, h2⟩, h3⟩; exact ⟨⟨(look_id h1).2, h2⟩, h3⟩
theorem mem_pre {l : List Nd} {lk : List Lk} (hs : Srt l) : ∀ (n : Nat) (id : Sp) (w : List Sp) (m : Sp), m ∈ preN l lk n id (styL lk w) ↔ ∃ c, Chn l m c id ∧ c.length ≤ n ∧ Sh lk w c
  | 0, id, w, m => by
    simp only [preN, List.mem_singleton]
    constructor
    · rintro rfl; exact ⟨[], rfl, by simp, trivial⟩
    · rintro ⟨c, h1, h2, _⟩
      have : c = [] := by simpa using h2
      subst this; exact h1
  | n + 1, id, w, m => by
    simp only [preN, List.mem_cons, List.mem_flatMap]
    constructor
    · rintro (rfl | ⟨k, hk, hm⟩)
      · exact ⟨[], rfl, by simp, trivial⟩
      · obtain ⟨⟨h1, h2⟩, h3⟩ := (mem_vis hs).1 hk
        rw [show stepF (regsAt lk k.1) (styL lk w) = styL lk (k.1 :: w) from rfl, mem_pre hs n] at hm
        obtain ⟨c, g1, g2, g3⟩ := hm
        refine ⟨c ++ [k.1], chn_snoc (by simp [par, h1, h2]) g1, by simp; exact g2, (sh_snoc ..).2 ⟨g3, h3⟩⟩
    · rintro ⟨c, g1, g2, g3⟩
      rcases List.eq_nil_or_concat c with rfl | ⟨c, a, rfl⟩
      · exact .inl g1
      · rw [List.concat_eq_append] at g1 g2 g3
        obtain ⟨h1, h2⟩ := chn_unsnoc g1
        obtain ⟨h3, h4⟩ := (sh_snoc ..).1 g3
        simp only [par, Option.map_eq_some_iff] at h2
        obtain ⟨k, hk, he⟩ := h2
        obtain rfl := (look_id hk).1
        refine .inr ⟨k, (mem_vis hs).2 ⟨⟨hk, he⟩, h4⟩, ?_⟩
        rw [show stepF (regsAt lk k.1) (styL lk w) = styL lk (k.1 :: w) from rfl, mem_pre hs n]
        exact ⟨c, h1, by simpa using g2, h3⟩
theorem pre_ends {l : List Nd} {lk : List Lk} (hs : Srt l) {n j : Nat} {id m : Sp} {w : List Sp} (he : EndsIn l j id) (h : m ∈ preN l lk n id (styL lk w)) : ∃ c, Chn l m c id ∧ EndsIn l (j + c.length) m := by
  obtain ⟨c, h1, _, _⟩ := (mem_pre hs n id w m).1 h
  exact ⟨c, h1, chn_ends he h1⟩
theorem vis_nodup {l : List Nd} {lk : List Lk} (hs : Srt l) (id : Sp) (x : List Int) : (vis l lk id x).Pairwise fun a b => a.1 ≠ b.1 := by
  unfold vis
  refine List.Pairwise.imp_of_mem ?_ (List.Pairwise.filter (shownK lk x) (kidsC_srt id hs))
  intro a b ha hb h e
  have ha := (mem_kidsC hs).1 (List.mem_filter.1 ha).1
  have hb := (mem_kidsC hs).1 (List.mem_filter.1 hb).1
  have e1 := look_mem hs ha.1
  rw [e, look_mem hs hb.1] at e1
  cases e1
  exact klt_irr _ h
theorem pre_nodup {l : List Nd} {lk : List Lk} (hs : Srt l) : ∀ (n j : Nat) (id : Sp) (w : List Sp), EndsIn l j id → (preN l lk n id (styL lk w)).Nodup
  | 0, j, id, w, _ => by simp [preN]
  | n + 1, j, id, w, he => by
    have hkid : ∀ k ∈ vis l lk id (styL lk w), EndsIn l (j + 1) k.1 := fun k hk => by
      obtain ⟨⟨h1, h2⟩, _⟩ := (mem_vis hs).1 hk
      exact ⟨id, by simp [par, h1, h2], he⟩
    simp only [preN, List.nodup_cons, List.mem_flatMap]
    refine ⟨?_, ?_⟩
    · rintro ⟨k, hk, hm⟩
      rw [show stepF (regsAt lk k.1) (styL lk w) = styL lk (k.1 :: w) from rfl] at hm
      obtain ⟨c, _, h2⟩ := pre_ends hs (hkid k hk) hm
      have := ends_unique he h2
      omega
    · rw [List.Nodup, List.pairwise_flatMap]
      refine ⟨fun k hk => ?_, ?_⟩
      · rw [show stepF (regsAt lk k.1) (styL lk w) = styL lk (k.1 :: w) from rfl]
        exact pre_nodup hs n (j + 1) k.1 (k.1 :: w) (hkid k hk)
      · refine List.Pairwise.imp_of_mem ?_ (vis_nodup (lk := lk) hs id (styL lk w))
        intro a b ha hb hne m hma m' hmb e
        subst e
        rw [show stepF (regsAt lk a.1) (styL lk w) = styL lk (a.1 :: w) from rfl] at hma
        rw [show stepF (regsAt lk b.1) (styL lk w) = styL lk (b.1 :: w) from rfl] at hmb
        obtain ⟨c, h1, h2⟩ := pre_ends hs (hkid a ha) hma
        obtain ⟨c', h1', h2'⟩ := pre_ends hs (hkid b hb) hmb
        have := ends_unique h2 h2'
        exact hne (chn_det h1 h1' (by omega))
theorem chn_up {l : List Nd} {id : Sp} : ∀ {c : List Sp} {m : Sp}, Chn l m c id → m :: ups l c.length m = c ++ [id]
  | [], m, h => by
    have h : m = id := h
    subst h; rfl
  | a :: c, m, ⟨e, p, hp, h⟩ => by
    subst e
    have := chn_up h
    simp only [List.length_cons, ups, hp, this, List.cons_append]
theorem chn_drop {l : List Nd} {id : Sp} : ∀ {c : List Sp} {m : Sp} {i : Nat}, Chn l m c id → i < c.length → Chn l (c.getD i default) (c.drop i) id
  | [], m, i, h, hi => by simp at hi
  | a :: c, m, 0, h, _ => by
    obtain ⟨e, p, hp, h⟩ := h
    subst e
    exact ⟨rfl, p, hp, h⟩
  | a :: c, m, i + 1, ⟨e, p, hp, h⟩, hi => by
    have := chn_drop h (show i < c.length by simpa using hi)
    simpa using this
theorem way_of {l : List Nd} {c : List Sp} {m : Sp} (hr : look l (0, 0) = none) (h : Chn l m c (0, 0)) : wayC l m = c ∧ upC l m = (c ++ [(0, 0)]).tail ∧ (upC l m).length = c.length := by
  have he : EndsIn l c.length m := by
    have := chn_ends (l := l) (id := (0, 0)) (j := 0) (show par l (0, 0) = none by simp [par, hr]) h
    simpa using this
  have h1 := chn_up h
  have h2 : m :: upC l m = c ++ [(0, 0)] := by rw [upC_eq he]; exact h1
  refine ⟨?_, by rw [← h2]; rfl, ?_⟩
  · unfold wayC; rw [h2, List.dropLast_concat]
  · have := congrArg List.length h2
    simp at this; omega
theorem chn_last {l : List Nd} : ∀ {n : Nat} {m : Sp}, EndsIn l n m → Chn l m (m :: ups l n m).dropLast ((m :: ups l n m).getLast (by simp))
  | 0, m, h => by simp [ups, Chn]
  | n + 1, m, ⟨p, hp, h⟩ => by
    have := chn_last h
    simp only [ups, hp]
    rw [List.dropLast_cons_of_ne_nil (by simp), List.getLast_cons (by simp)]
    exact ⟨rfl, p, hp, this⟩
theorem live_chn {l : List Nd} {m : Sp} (ha : Acy l) (hr : look l (0, 0) = none) : liveC l m = true ↔ ∃ c, Chn l m c (0, 0) := by
  obtain ⟨n, he⟩ := ha m
  rw [live_iff hr, upC_eq he]
  constructor
  · intro h
    have hc := chn_last he
    have e0 : (m :: ups l n m).getLast (by simp) = (0, 0) := by
      rcases h with rfl | h
      · have := upC_none ha hr
        rw [upC_eq he] at this
        simp [this]
      · have hne : ups l n m ≠ [] := by intro e; rw [e] at h; cases h
        rw [List.getLast_cons hne]
        rw [List.getLast?_eq_some_getLast hne] at h
        exact Option.some.inj h
    rw [e0] at hc
    exact ⟨_, hc⟩
  · rintro ⟨c, h⟩
    have h1 := (way_of hr h).2.1
    rw [upC_eq he] at h1
    cases c with
    | nil => exact .inl h
    | cons a c =>
      right
      rw [h1]
      simp
theorem sh_iff (lk : List Lk) (w : List Sp) : ∀ c : List Sp, Sh lk w c ↔ ∀ i, i < c.length → (styL lk (c.drop i ++ w)).getD 0 0 ≠ 2
  | [] => by simp [Sh]
  | a :: c => by
    have ih := sh_iff lk w c
    simp only [Sh, ih, List.length_cons]
    constructor
    · rintro ⟨h1, h2⟩ i hi
      cases i with
      | zero => exact h1
      | succ i => exact h2 i (by omega)
    · intro h
      exact ⟨h 0 (by omega), fun i hi => h (i + 1) (by omega)⟩
theorem pre_iff {l : List Nd} {lk : List Lk} {m : Sp} (hs : Srt l) (ha : Acy l) (hr : look l (0, 0) = none) (n : Nat) : m ∈ preN l lk n (0, 0) tab ↔ liveC l m = true ∧ (upC l m).length ≤ n ∧ ∀ i, i < (upC l m).length → (styL lk (wayC l ((wayC l m).getD i default))).getD 0 0 ≠ 2 := by
  rw [show tab = styL lk [] from rfl, mem_pre hs, live_chn ha hr]
  constructor
  · rintro ⟨c, h1, h2, h3⟩
    obtain ⟨e1, _, e3⟩ := way_of hr h1
    refine ⟨⟨c, h1⟩, by omega, fun i hi => ?_⟩
    rw [e3] at hi
    have := (sh_iff lk [] c).1 h3 i hi
    rw [e1, (way_of hr (chn_drop h1 hi)).1]
    simpa using this
  · rintro ⟨⟨c, h1⟩, h2, h3⟩
    obtain ⟨e1, _, e3⟩ := way_of hr h1
    refine ⟨c, h1, by omega, (sh_iff lk [] c).2 fun i hi => ?_⟩
    have := h3 i (by omega)
    rw [e1, (way_of hr (chn_drop h1 hi)).1] at this
    simpa using this
end Go.Tr
set_option linter.unusedVariables false
set_option linter.unusedSimpArgs false
namespace Go.Tr
open Go Go.Dv Go.Ky
theorem style_v : look_style_v = look_style := rfl
theorem plain_v : prop_Plain_v = prop_Plain := rfl
theorem rose_eta {α : Type} (r : Rose α) : Rose.mk (Rose.val r) (Rose.kids r) = r := by cases r; rfl
theorem mono_box : Mono look_box_b := by
  intro F F' hF x
  unfold look_box_b
  exact up_cond (up_refl _) (up_bind (up_refl _) fun _ => up_bind (up_iter (fun s => up_cond (up_bind (up_refl _) fun _ => up_bind (up_refl _) fun _ => up_bind (up_refl _) fun _ => up_cond (up_bind (hF _) fun _ => up_refl _) (up_refl _)) (up_refl _)) _) fun _ => up_refl _)
theorem box_fix {s : Tree × List Lk} (g : Gd s) : ∀ (n : Nat) (id : Sp) (x : List Int), n < 1000 → x.length = 19 → fixN look_box_b (n + 1) (s, (id, (x, ((n + 1 : Nat) : Int)))) = some (boxN s.1.1 s.2 n id x)
  | 0, id, x, _, hx => by
    rw [fixN, look_box_b]
    simp only [show ((((0 + 1 : Nat) : Int)) == 1) = true from rfl, cond_true, boxN]
  | n + 1, id, x, hn, hx => by
    have hsm : Sm s.1.1 := show s.1.1.length < 1000000 by have := g.len; omega
    have hkl := kids_len s.1.1 id
    have hl := g.len
    have ih := fun k y hy => box_fix g n k y (by omega) hy
    have e0 : ((((n + 1 + 1 : Nat) : Int)) == 1) = false := by rw [beq_eq_false_iff_ne]; omega
    rw [fixN, look_box_b]
    simp only [e0, cond_false, Children_eq s.1 id hsm, Option.bind_some, kidsC_eq id g.srt, style_v]
    rw [kidsC_eq id g.srt] at hkl
    simp only [boxN, vis]
    generalize kidsC s.1.1 id = K at *
    let A : Nat → List (Rose (Sp × List Int)) := fun i => ((K.take i).filter (shownK s.2 x)).map fun k => boxN s.1.1 s.2 n k.1 (stepF (regsAt s.2 k.1) x)
    rw [iter_run' (inv := fun i : Nat => (((n + 1 + 1 : Nat) : Int), (K, (((K.length : Nat) : Int), ((i : Int), (s, (id, (x, ((0 : Int), ((0 : Int), (id.1, (id.2, (x, A i))))))))))))) (k := K.length) (r := (s, (id, (x, ((0 : Int), ((0 : Int), (id.1, (id.2, (x, A K.length))))))))) ?_ ?_ (by simp [A])]
    · simp only [Option.bind_some, A, List.take_length]
    · intro i hi
      have e1 : (i : Int) < ((K.length : Nat) : Int) := by omega
      have e2 : IntKind.wrap .i64 (((n + 1 + 1 : Nat) : Int) - 1) = ((n + 1 : Nat) : Int) := by rw [Go.Dv.wrap_small] <;> omega
      have hy := stepF_len (regsAt s.2 (K.getD i default).1) x
      have e3 : getI (stepF (regsAt s.2 (K.getD i default).1) x) 0 = some ((stepF (regsAt s.2 (K.getD i default).1) x).getD 0 0) := by
        rw [show (0 : Int) = ((0 : Nat) : Int) from rfl, getI_lt _ 0 (by omega), List.getD_eq_getElem?_getD, List.getElem?_eq_getElem (by omega)]; rfl
      have hA : A (i + 1) = if shownK s.2 x (K.getD i default) = true then A i ++ [boxN s.1.1 s.2 n (K.getD i default).1 (stepF (regsAt s.2 (K.getD i default).1) x)] else A i := by
        simp only [A, take_snoc hi, List.filter_append, List.map_append]
        generalize K.getD i default = q
        by_cases h : shownK s.2 x q = true
        · rw [if_pos h, List.filter_cons_of_pos h]; rfl
        · rw [if_neg h, List.filter_cons_of_neg h]; simp
      have hAl : (A i).length ≤ i := by
        simp only [A, List.length_map]
        exact Nat.le_trans (List.length_filter_le _ _) (by simp; omega)
      simp only [e1, decide_true, cond_true, getI_D K i hi, Option.bind_some, style_eq g _ x hx, e3, e2, hA, wrap_nat (show i < 9223372036854775807 by omega), rose_eta]
      have hsh : ((stepF (regsAt s.2 (K.getD i default).1) x).getD 0 0 != 2) = shownK s.2 x (K.getD i default) := rfl
      rw [hsh]
      cases shownK s.2 x (K.getD i default) with
      | false => rfl
      | true =>
        simp only [cond_true, ih _ _ hy, Option.bind_some, if_true, rose_eta]
        rw [show room (List.length (A i ++ [boxN s.1.1 s.2 n (K.getD i default).1 (stepF (regsAt s.2 (K.getD i default).1) x)])) 64 = true from room_small (by simp only [List.length_append, List.length_cons, List.length_nil]; omega) (by decide)]
        rfl
    · simp only [Int.lt_irrefl, decide_false, cond_false]
theorem All_eq {s : Tree × List Lk} (g : Gd s) : look_All s = some (boxN s.1.1 s.2 12 (0, 0) tab) := by
  unfold look_All
  have h := fixO_is mono_box (box_fix g 12 (0, 0) tab (by decide) tab_len)
  have e : look_box (s, ((stamp_Root ()), (tab, (13 : Int)))) = some (boxN s.1.1 s.2 12 (0, 0) tab) := h
  rw [plain_v, Plain_eq]
  simp only [Option.bind_some, e, rose_eta]
theorem Boxes_eq {s : Tree × List Lk} (g : Gd s) (hS : SmS s) (hB : shpB s = true) : look_Boxes s = some (boxN s.1.1 s.2 12 (0, 0) tab, 0) := by
  unfold look_Boxes
  simp only [IsShape_eq s hS, hB, Option.bind_some, Bool.not_true, cond_false, All_eq g, rose_eta]
theorem rApply0 : arrasref16_Apply ((([], []) : Tree), arraslaw10_O ()) = some (made [arraslaw10_O ()], true) := by
  unfold arrasref16_Apply
  rw [Moves_eq _ (by decide)]
  simp only [Option.bind_some, List.map_nil]
  rw [iter_inr (r := .inl ([], (false, (([], []), (arraslaw10_O (), ([], [])))))) (by rfl)]
  simp only [Option.bind_some, Bool.not_false, cond_true, List.nil_append]
  rw [Made_eq _ (by decide) (by intro o ho; rw [List.mem_singleton.1 ho]; show List.length _ < _; simp [arraslaw10_O])]
  rfl
theorem wakes18_eq : arraslaw18_wakes () = some true := by
  have ho : OkS ([arraslaw10_O ()], []) := by
    have := putS_ok oks_nil O_op (show clash ([], []) (arraslaw10_O ()) = false from rfl)
    exact this
  have hS := sms_shp ho (by decide) (by decide)
  have g := gd_of ho hS
  have hs0 : SmS ((([], []), []) : Tree × List Lk) := ⟨by decide, by decide, by simp, by decide, by simp⟩
  have hD : arrasref16_Does ((([], []), []) , arraslaw10_O ()) = some (shp ([arraslaw10_O ()], []), true) := by
    unfold arrasref16_Does
    have hk : ((arraslaw10_O ()).2.2.2.1 == 1) = true := rfl
    have hct : arrasref0_CopyTree (made [arraslaw10_O ()]) = some (made [arraslaw10_O ()]) := CopyTree_eq _ (show List.length _ < _ by rw [made_O]; decide) (show List.length _ < _ by show (ens [] [arraslaw10_O ()]).length < _; rw [ens_len]; decide) (ok_deps (l := []) ho.t)
    simp only [CopyShape_eq _ hs0, Option.bind_some, hk, cond_true, rApply0, hct]
    rfl
  unfold arraslaw18_wakes
  rw [show ((([], []), []) : Shape) = ((([], []), []) : Tree × List Lk) from rfl, hD]
  simp only [Option.bind_some, Boxes_eq g hS (shpB_iff.2 ⟨_, ho, rfl⟩)]
  have hk : kidsC (shp ([arraslaw10_O ()], [])).1.1 ((0, 0) : Sp) = [(((1 : Int), (0 : Int)), ((0 : Int), (0 : Int)), (ByteArray.mk ([107]).toArray))] := by
    show kidsC (made [arraslaw10_O ()]).1 ((0, 0) : Sp) = _
    rw [made_O]; simp [kidsC, insK, posK]
  have hb : boxN (shp ([arraslaw10_O ()], [])).1.1 (shp ([arraslaw10_O ()], [])).2 12 (0, 0) tab = .mk ((0, 0), tab) [boxN (shp ([arraslaw10_O ()], [])).1.1 (shp ([arraslaw10_O ()], [])).2 11 (1, 0) (stepF [] tab)] := by
    rw [boxN]
    simp only [vis, hk]
    rfl
  rw [hb]
  rfl
end Go.Tr
set_option linter.unusedVariables false
set_option linter.unusedSimpArgs false
namespace Go.Tr
open Go Go.Dv Go.Ky
theorem num18_eq (e : Int) : arraslaw18_num e = e := rfl
end Go.Tr
set_option linter.unusedVariables false
set_option linter.unusedSimpArgs false
namespace Go.Tr
open Go Go.Dv Go.Ky
def valQ (lk : List Lk) (p : Nat) (q : Sp) : Option Int := if q = (0, 0) then none else (glook rk (regsAt lk q) (p : Int)).map (·.2.1)
def valC (lk : List Lk) (p : Nat) : List Sp → Option Int
  | [] => none
  | q :: r => match valQ lk p q with
    | some v => some v
    | none => valC lk p r
theorem chn_mem {l : List Nd} {id : Sp} : ∀ {c : List Sp} {m : Sp}, Chn l m c id → ∀ q ∈ c, ∃ p, par l q = some p
  | a :: c, m, ⟨e, p, hp, h⟩, q, hq => by
    subst e
    rcases List.mem_cons.1 hq with rfl | hq
    · exact ⟨p, hp⟩
    · exact chn_mem h q hq
end Go.Tr
set_option linter.unusedVariables false
set_option linter.unusedSimpArgs false
namespace Go.Tr
open Go Go.Dv Go.Ky
theorem box_val (l : List Nd) (lk : List Lk) (n : Nat) (id : Sp) (x : List Int) : Rose.val (boxN l lk n id x) = (id, x) := by cases n <;> rfl
theorem box_kids0 (l : List Nd) (lk : List Lk) (id : Sp) (x : List Int) : Rose.kids (boxN l lk 0 id x) = [] := rfl
theorem box_kids (l : List Nd) (lk : List Lk) (n : Nat) (id : Sp) (x : List Int) : Rose.kids (boxN l lk (n + 1) id x) = (vis l lk id x).map fun k => boxN l lk n k.1 (stepF (regsAt lk k.1) x) := rfl
theorem mono_walk : Mono arraslaw18_walk_b := by
  intro F F' hF x
  unfold arraslaw18_walk_b
  refine up_bind (up_refl _) fun _ => up_cond (up_refl _) (up_cond (up_bind (up_iter (fun s => up_cond (up_bind (up_refl _) fun _ => up_bind (up_refl _) fun _ => up_bind (up_refl _) fun _ => up_cond (up_refl _) (up_bind (up_refl _) fun z => ?_)) (up_refl _)) _) fun _ => up_refl _) (up_refl _))
  cases z with
  | inl y => exact up_bind (up_refl _) fun _ => up_bind (hF _) fun _ => up_refl _
  | inr y => exact up_refl _
theorem out_neg {seen : List Sp} {id : Sp} (h : id ∉ seen) (hl : seen.length < 1000000000) : ∃ i, arrasref0_InStamps (seen, id) = some i ∧ ¬ (0 : Int) ≤ i := by
  refine ⟨_, InStamps_eq seen id hl, fun h0 => h (ix_mem.1 h0)⟩
theorem kle_of {K : List Nd} {m n : Nd} (h : klt m n) : kle m n = true := by
  unfold kle
  rw [decide_eq_true_eq]
  rcases h with h | ⟨h, _⟩
  · exact List.le_of_lt h
  · rw [h]; exact List.le_refl _
theorem vis_srt {l : List Nd} {lk : List Lk} (hs : Srt l) (id : Sp) (x : List Int) : (vis l lk id x).Pairwise klt := List.Pairwise.filter (shownK lk x) (kidsC_srt id hs)
theorem vis_len {l : List Nd} {lk : List Lk} (hs : Srt l) (id : Sp) (x : List Int) : (vis l lk id x).length ≤ l.length := by
  have h1 := kids_len l id
  rw [kidsC_eq id hs] at h1
  exact Nat.le_trans (List.length_filter_le _ _) h1
theorem walk_fix {s : Tree × List Lk} (g : Gd s) : ∀ (n : Nat) (id : Sp) (w : List Sp) (seen : List Sp) (deep j : Nat), EndsIn s.1.1 j id → deep + n ≤ 12 → (∀ m ∈ preN s.1.1 s.2 n id (styL s.2 w), m ∉ seen) → seen.length + (preN s.1.1 s.2 n id (styL s.2 w)).length ≤ 999000 →
    fixN arraslaw18_walk_b (n + 1) (s, (boxN s.1.1 s.2 n id (styL s.2 w), ((deep : Int), seen))) = some (true, seen ++ preN s.1.1 s.2 n id (styL s.2 w))
  | 0, id, w, seen, deep, j, he, hd, hns, hlen => by
    simp only [preN, List.length_cons, List.length_nil] at hlen hns ⊢
    obtain ⟨i0, q1, q2⟩ := out_neg (hns id (by simp)) (by omega)
    have q3 : ¬ (12 : Int) < (deep : Int) := by omega
    have hroom : room (List.length (seen ++ [id])) 16 = true := room_small (by simp only [List.length_append, List.length_cons, List.length_nil]; omega) (by decide)
    rw [fixN, arraslaw18_walk_b]
    simp only [box_val, q1, Option.bind_some, q2, q3, decide_false, cond_false, hroom, cond_true, box_kids0, rose_eta]
    rw [iter_inr (by simp only [box_kids0, List.length_nil]; rfl)]
    rfl
  | n + 1, id, w, seen, deep, j, he, hd, hns, hlen => by
    have hsm : Sm s.1.1 := show s.1.1.length < 1000000 by have := g.len; omega
    have hnd := pre_nodup (lk := s.2) g.srt (n + 1) j id w he
    obtain ⟨i0, q1, q2⟩ := out_neg (hns id (by simp [preN])) (by omega)
    have q3 : ¬ (12 : Int) < (deep : Int) := by omega
    have hroom : room (List.length (seen ++ [id])) 16 = true := room_small (by simp only [preN, List.length_cons] at hlen; simp only [List.length_append, List.length_cons, List.length_nil]; omega) (by decide)
    rw [fixN, arraslaw18_walk_b]
    simp only [box_val, q1, Option.bind_some, q2, q3, decide_false, cond_false, hroom, cond_true, rose_eta]
    have hV : ∀ k ∈ vis s.1.1 s.2 id (styL s.2 w), look s.1.1 k.1 = some k ∧ k.2.1 = id ∧ EndsIn s.1.1 (j + 1) k.1 := fun k hk => by
      obtain ⟨⟨h1, h2⟩, _⟩ := (mem_vis g.srt).1 hk
      exact ⟨h1, h2, id, by simp [par, h1, h2], he⟩
    have hVs := vis_srt (lk := s.2) g.srt id (styL s.2 w)
    have hVl := vis_len (lk := s.2) g.srt id (styL s.2 w)
    have hgl := g.len
    have hkd := box_kids s.1.1 s.2 n id (styL s.2 w)
    have hbv := box_val s.1.1 s.2 (n + 1) id (styL s.2 w)
    generalize boxN s.1.1 s.2 (n + 1) id (styL s.2 w) = bx at *
    have hbe : Rose.mk (id, styL s.2 w) (Rose.kids bx) = bx := by rw [← hbv]; exact rose_eta bx
    simp only [preN] at hnd hns hlen ⊢
    generalize vis s.1.1 s.2 id (styL s.2 w) = V at *
    let P : Nd → List Sp := fun k => preN s.1.1 s.2 n k.1 (stepF (regsAt s.2 k.1) (styL s.2 w))
    have hfl : ∀ i, i < V.length → V.flatMap P = ((V.take i).flatMap P ++ P (V.getD i default)) ++ (V.drop (i + 1)).flatMap P := fun i hi => by
      have e : V = V.take i ++ V.getD i default :: V.drop (i + 1) := by
        rw [List.getD_eq_getElem?_getD, List.getElem?_eq_getElem hi]
        simp only [Option.getD_some]
        rw [← List.drop_eq_getElem_cons hi, List.take_append_drop]
      conv => lhs; rw [e]
      rw [List.flatMap_append, List.flatMap_cons, List.append_assoc]
    have hkl : (Rose.kids bx).length = V.length := by rw [hkd, List.length_map]
    have hkg : ∀ i, i < V.length → getI (Rose.kids bx) (i : Int) = some (boxN s.1.1 s.2 n (V.getD i default).1 (stepF (regsAt s.2 (V.getD i default).1) (styL s.2 w))) := fun i hi => by
      rw [hkd, getI_nat, List.getElem?_map, List.getElem?_eq_getElem hi, List.getD_eq_getElem?_getD, List.getElem?_eq_getElem hi]; rfl
    have hF : ∀ {β : Type} (k : Nat) (h : Nd → Option β), k < V.length → ((arrasref16_Find (s.1.1, (V.getD k default).1)).bind fun x5 => (getI s.1.1 x5).bind h) = h (V.getD k default) := fun k h hk => by
      have hlk := (hV _ (getD_mem hk)).1
      rw [rFind_eq _ g.srt hsm]
      simp only [fnd, hlk, Option.isSome_some, if_true, Option.bind_some, getI_pos g.srt hlk]
    rw [iter_run' (inv := fun i : Nat => ((deep : Int), ((i : Int), ((seen ++ [id]) ++ (V.take i).flatMap P, (s, bx))))) (k := V.length) (r := .inl ((seen ++ [id]) ++ V.flatMap P, (s, bx))) ?_ ?_ (by rw [hbe]; simp)]
    · simp only [Option.bind_some]
      rw [List.append_assoc]; rfl
    · intro i hi
      have e1 : (i : Int) < ((Rose.kids bx).length : Int) := by rw [hkl]; omega
      obtain ⟨hlk, hpar, hend⟩ := hV _ (getD_mem hi)
      have hfd : arrasref16_Find (s.1.1, (V.getD i default).1) = some ((posN s.1.1 (V.getD i default).1 : Nat) : Int) := by
        rw [rFind_eq _ g.srt hsm]; simp only [fnd, hlk, Option.isSome_some, if_true]
      have hgp := getI_pos g.srt hlk
      have e2 : ¬ ((posN s.1.1 (V.getD i default).1 : Nat) : Int) < 0 := by omega
      have e3 : (((V.getD i default).2.1.1 == id.1) && ((V.getD i default).2.1.2 == id.2)) = true := by rw [two_eq, hpar]; exact decide_eq_true rfl
      have hprev : (bif (decide ((0 < (i : Int)))) then (((getI (Go.Dv.Rose.kids bx) (IntKind.wrap .i64 ((i : Int) - 1)))).bind fun x5 =>
              ((arrasref16_Find (s.1.1, (Go.Dv.Rose.val x5).1))).bind fun x6 =>
              ((getI s.1.1 x6)).bind fun x7 =>
              ((getI s.1.1 ((posN s.1.1 (V.getD i default).1 : Nat) : Int))).bind fun x8 =>
              bif (Bool.not ((Go.Op.bytesLess (ByteArray.toList x7.2.2) (ByteArray.toList x8.2.2)) || ((ByteArray.toList x7.2.2) == (ByteArray.toList x8.2.2)))) then some (.inr (false, (seen ++ [id]) ++ (V.take i).flatMap P)) else
              some (.inl ((deep : Int), ((i : Int), ((seen ++ [id]) ++ (V.take i).flatMap P, (s, bx)))))) else
            some (.inl ((deep : Int), ((i : Int), ((seen ++ [id]) ++ (V.take i).flatMap P, (s, bx))))) : Option ((Int × (Int × ((List (Int × Int)) × (Shape × (Rose ((Int × Int) × (List Int))))))) ⊕ (Bool × (List (Int × Int))))) = some (.inl ((deep : Int), ((i : Int), ((seen ++ [id]) ++ (V.take i).flatMap P, (s, bx))))) := by
        by_cases h0 : i = 0
        · subst h0; rfl
        · have p1 : (0 : Int) < (i : Int) := by omega
          have hw : IntKind.wrap .i64 ((i : Int) - 1) = ((i - 1 : Nat) : Int) := by rw [Go.Dv.wrap_small] <;> omega
          have hlt : klt (V.getD (i - 1) default) (V.getD i default) := by
            rw [List.pairwise_iff_getElem] at hVs
            have := hVs (i - 1) i (by omega) hi (by omega)
            simpa only [List.getD_eq_getElem?_getD, List.getElem?_eq_getElem (show i - 1 < V.length by omega), List.getElem?_eq_getElem hi, Option.getD_some] using this
          simp only [p1, decide_true, cond_true, hw, hkg (i - 1) (by omega), Option.bind_some, box_val, hF (i - 1) _ (by omega), hgp, kle_eq, kle_of (K := V) hlt, Bool.not_true, cond_false]
      simp only [hgp, Option.bind_some] at hprev
      have hIH := walk_fix g n (V.getD i default).1 ((V.getD i default).1 :: w) ((seen ++ [id]) ++ (V.take i).flatMap P) (deep + 1) (j + 1) hend (by omega)
        (by
          intro m hm hin
          have hm' : m ∈ P (V.getD i default) := hm
          have hall : m ∈ V.flatMap P := by rw [hfl i hi]; simp only [List.mem_append]; exact .inl (.inr hm')
          rw [List.mem_append, List.mem_append] at hin
          rcases hin with (h1 | h1) | h1
          · exact hns m (List.mem_cons_of_mem _ hall) h1
          · rw [List.mem_singleton.1 h1] at hall
            exact (List.nodup_cons.1 hnd).1 hall
          · have h2 := (List.nodup_cons.1 hnd).2
            have h2 : (V.flatMap P).Nodup := h2
            rw [hfl i hi] at h2
            have h3 := (List.nodup_append.1 h2).1
            exact (List.nodup_append.1 h3).2.2 m h1 m hm' rfl)
        (by
          have h4 : (V.flatMap P).length = (((V.take i).flatMap P).length + (P (V.getD i default)).length) + ((V.drop (i + 1)).flatMap P).length := by rw [hfl i hi]; simp only [List.length_append]
          have h5 : seen.length + ((V.flatMap P).length + 1) ≤ 999000 := hlen
          have h6 : (preN s.1.1 s.2 n (V.getD i default).1 (styL s.2 ((V.getD i default).1 :: w))).length = (P (V.getD i default)).length := rfl
          rw [h6]
          simp only [List.length_append, List.length_cons, List.length_nil]
          omega)
      have hIH : fixN arraslaw18_walk_b (n + 1) (s, (boxN s.1.1 s.2 n (V.getD i default).1 (stepF (regsAt s.2 (V.getD i default).1) (styL s.2 w)), (((deep + 1 : Nat) : Int), (seen ++ [id]) ++ (V.take i).flatMap P))) = some (true, ((seen ++ [id]) ++ (V.take i).flatMap P) ++ P (V.getD i default)) := hIH
      have hdp : IntKind.wrap .i64 ((deep : Int) + 1) = ((deep + 1 : Nat) : Int) := wrap_nat (by omega)
      simp only [e1, decide_true, cond_true, hkg i hi, Option.bind_some, box_val, hfd, e2, decide_false, cond_false, hgp, hbv, hbe, e3, Bool.not_true, rose_eta, hprev, hdp, hIH, wrap_nat (show i < 9223372036854775807 by omega)]
      rw [take_snoc hi, List.flatMap_append, List.flatMap_singleton, List.append_assoc]
    · have e1 : ¬ ((V.length : Nat) : Int) < ((Rose.kids bx).length : Int) := by rw [hkl]; omega
      simp only [e1, decide_false, cond_false, List.take_length, hbv, hbe, rose_eta]
theorem pre_len {l : List Nd} {lk : List Lk} (hs : Srt l) (ha : Acy l) (hr : look l (0, 0) = none) (n : Nat) : (preN l lk n (0, 0) tab).length ≤ l.length + 1 := by
  have hnd := pre_nodup (lk := lk) hs n 0 (0, 0) [] (show par l (0, 0) = none by simp [par, hr])
  have hsub : ∀ q ∈ preN l lk n (0, 0) tab, q ∈ (0, 0) :: l.map (fun m => m.1) := fun q hq => by
    obtain ⟨c, h1, _, _⟩ := (mem_pre hs n (0, 0) [] q).1 hq
    cases c with
    | nil => have h1 : q = (0, 0) := h1; rw [h1]; simp
    | cons a c =>
      obtain ⟨p, hp⟩ := chn_mem h1 a (by simp)
      have e : a = q := h1.1
      rw [e] at hp
      simp only [par, Option.map_eq_some_iff] at hp
      obtain ⟨m, hm, _⟩ := hp
      have := look_id hm
      rw [← this.1]
      exact List.mem_cons_of_mem _ (List.mem_map_of_mem this.2)
  have := nodup_sub hnd hsub
  rw [show tab = styL lk [] from rfl]
  simpa using this
theorem all_loop {σ ρ : Type} {n : Nat} {P : Nat → Bool} {f : σ → Option (σ ⊕ ρ)} (inv : Bool → Nat → σ) (out : Bool → ρ)
    (h1 : ∀ k, k < n → f (inv true k) = some (.inl (inv (P k) (k + 1)))) (h2 : ∀ k, f (inv false k) = some (.inr (out false))) (h3 : f (inv true n) = some (.inr (out true))) : ∀ (d k : Nat), n - k = d → k ≤ n → iter f (inv true k) = some (out (decide (∀ m, m < n → k ≤ m → P m = true)))
  | 0, k, hd, hk => by
    obtain rfl : k = n := by omega
    rw [iter_inr h3, decide_eq_true (fun m (h1 : m < k) h2 => by omega)]
  | d + 1, k, hd, hk => by
    have hk' : k < n := by omega
    rw [iter_inl (h1 k hk')]
    cases hP : P k with
    | false =>
      rw [iter_inr (h2 (k + 1)), decide_eq_false (fun h => by rw [h k hk' (Nat.le_refl _)] at hP; cases hP)]
    | true =>
      rw [all_loop inv out h1 h2 h3 d (k + 1) (by omega) (by omega)]
      congr 2
      rw [decide_eq_decide]
      constructor
      · intro h m hmn hm
        by_cases e : m = k
        · rw [e]; exact hP
        · exact h m hmn (by omega)
      · intro h m hmn hm
        exact h m hmn (by omega)
theorem get0 (z : List Int) (h : z.length = 19) : getI z 0 = some (z.getD 0 0) := by
  rw [show (0 : Int) = ((0 : Nat) : Int) from rfl, getI_lt z 0 (by omega), List.getD_eq_getElem?_getD, List.getElem?_eq_getElem (by omega)]; rfl
theorem walk_eq {s : Tree × List Lk} (g : Gd s) : arraslaw18_walk (s, (boxN s.1.1 s.2 12 (0, 0) tab, ((0 : Int), []))) = some (true, preN s.1.1 s.2 12 (0, 0) tab) := by
  have hpl := pre_len (lk := s.2) g.srt g.acy g.root 12
  have hgl := g.len
  have := walk_fix g 12 (0, 0) [] [] 0 0 (show par s.1.1 (0, 0) = none by simp [par, g.root]) (by decide) (by simp) (by
    rw [show tab = styL s.2 [] from rfl] at hpl
    simp only [List.length_nil]; omega)
  exact fixO_is mono_walk this
theorem pure_LookOrders (y : El sScript_arraslaw17) (h : Bnd sScript_arraslaw17 y) : arraslaw18_LookOrders y = some true := by
  obtain ⟨b, hb, hb2⟩ := Heavy17_eq y h
  unfold arraslaw18_LookOrders
  rw [hb]
  simp only [Option.bind_some]
  cases b with
  | true => rfl
  | false =>
    have L := hb2 rfl
    obtain ⟨s, l, ids⟩ := y
    have hS : SmS s := L.s
    have hn : s.1.1.length ≤ 3000 := L.n
    simp only [cond_false, ref_Shape_eq s hS, Option.bind_some]
    cases hB : shpB s with
    | false => rfl
    | true =>
      obtain ⟨st, hst, rfl⟩ := shpB_iff.1 hB
      have g := gd_of hst hS
      generalize shp st = s at *
      have hpl := pre_len (lk := s.2) g.srt g.acy g.root 12
      have hpi := fun m => pre_iff (lk := s.2) (m := m) g.srt g.acy g.root 12
      simp only [Bool.not_true, cond_false, Boxes_eq g hS hB, Option.bind_some, num18_eq, bne_self_eq_false, rose_eta, walk_eq g]
      generalize boxN s.1.1 s.2 12 (0, 0) tab = bx at *
      generalize preN s.1.1 s.2 12 (0, 0) tab = seen at *
      rw [iter_run' (inv := fun i : Nat => ((i : Int), (((s, (l, ids)) : Script_arraslaw17), (bx, seen)))) (k := s.1.1.length) (r := .inl (((s, (l, ids)) : Script_arraslaw17), (bx, seen)))]
      · simp only [Option.bind_some, wakes18_eq]
      · intro i hi
        have e1 : (i : Int) < (s.1.1.length : Int) := by omega
        have hmem := getD_mem hi
        have hlk := look_mem g.srt hmem
        simp only [e1, decide_true, cond_true, getI_D s.1.1 i hi, Option.bind_some]
        generalize (s.1.1.getD i default) = nd at *
        have hulen := upC_len nd.1 g.acy
        simp only [rAbove_C nd.1 g.srt g.len g.acy, hlk, Option.isSome_some, if_true, Option.bind_some, rLive_C nd.1 g.srt g.len g.acy]
        have hx6 : (bif liveC s.1.1 nd.1 then some (decide ((((List.length (upC s.1.1 nd.1)) : Int) ≤ 12))) else some false) = some (liveC s.1.1 nd.1 && decide ((upC s.1.1 nd.1).length ≤ 12)) := by
          cases liveC s.1.1 nd.1 with
          | false => rfl
          | true => simp only [cond_true, Bool.true_and]; congr 1; rw [decide_eq_decide]; omega
        simp only [hx6, Option.bind_some, rose_eta]
        have hsm := InStamps_eq seen nd.1 (by omega)
        have hfin : ∀ b : Bool, b = decide (nd.1 ∈ seen) → ((arrasref0_InStamps (seen, nd.1)).bind fun x8 =>
            bif (Bool.not (b == (decide ((0 ≤ x8))))) then some (.inr (.inr false)) else
            some (.inl ((IntKind.wrap .i64 ((i : Int) + 1)), (((s, (l, ids)) : Script_arraslaw17), (bx, seen)))) : Option ((Int × (Script_arraslaw17 × ((Rose ((Int × Int) × (List Int))) × (List (Int × Int))))) ⊕ ((Script_arraslaw17 × ((Rose ((Int × Int) × (List Int))) × (List (Int × Int)))) ⊕ Bool))) = some (.inl (((i + 1 : Nat) : Int), (((s, (l, ids)) : Script_arraslaw17), (bx, seen)))) := fun b hb => by
          have : decide (0 ≤ ix (seen.findIdx fun q => decide (q = nd.1)) seen.length) = decide (nd.1 ∈ seen) := by rw [decide_eq_decide]; exact ix_mem
          rw [hsm]
          simp only [Option.bind_some, this, hb, beq_self_eq_true, Bool.not_true, cond_false, wrap_nat (show i < 9223372036854775807 by omega)]
        cases hsh : (liveC s.1.1 nd.1 && decide ((upC s.1.1 nd.1).length ≤ 12)) with
        | false =>
          have hnot : decide (nd.1 ∈ seen) = false := by
            rw [decide_eq_false_iff_not, hpi]
            rintro ⟨h1, h2, _⟩
            rw [h1] at hsh
            simp only [Bool.true_and, decide_eq_false_iff_not] at hsh
            exact hsh h2
          rw [iter_inr (r := ((i : Int), (false, (((s, (l, ids)) : Script_arraslaw17), (bx, (seen, nd.1)))))) (by
            simp only [rose_eta]
            cases hlt : decide ((0 : Int) < ((List.length (upC s.1.1 nd.1)) : Int)) <;> simp only [hlt, cond_true, cond_false])]
          simp only [Option.bind_some, rose_eta]
          exact hfin false hnot.symm
        | true =>
          simp only [Bool.and_eq_true, decide_eq_true_eq] at hsh
          obtain ⟨hl, hle⟩ := hsh
          obtain ⟨c, hc⟩ := (live_chn g.acy g.root).1 hl
          obtain ⟨hw, hu, hul⟩ := way_of g.root hc
          have hroom : room (List.length ([nd.1] ++ upC s.1.1 nd.1)) 16 = true := room_small (by simp only [List.length_append, List.length_cons, List.length_nil]; omega) (by decide)
          have hall : [nd.1] ++ upC s.1.1 nd.1 = c ++ [(0, 0)] := by
            cases c with
            | nil =>
              have hc : nd.1 = (0, 0) := hc
              rw [hc, g.root] at hlk; cases hlk
            | cons a c =>
              have ha : a = nd.1 := hc.1
              rw [hu, ha]; rfl
          have hat : ∀ k, k < (upC s.1.1 nd.1).length → getI ([nd.1] ++ upC s.1.1 nd.1) (k : Int) = some (c.getD k default) := fun k hk => by
            rw [hall, getI_nat, List.getElem?_append_left (by omega), List.getD_eq_getElem?_getD, List.getElem?_eq_getElem (by omega)]; rfl
          have hmain := all_loop (n := (upC s.1.1 nd.1).length) (P := fun k => (styL s.2 (wayC s.1.1 (c.getD k default))).getD 0 0 != 2) (f := fun s1 : (Int × ((List (Int × Int)) × (Bool × (Int × (Script_arraslaw17 × ((Rose ((Int × Int) × (List Int))) × ((List (Int × Int)) × (Int × Int)))))))) =>
              bif (bif (decide ((s1.2.2.2.1 < ((List.length s1.2.1) : Int)))) then s1.2.2.1 else false) then (bif (room (List.length ([s1.2.2.2.2.2.2.2] ++ s1.2.1)) 16) then (((getI ([s1.2.2.2.2.2.2.2] ++ s1.2.1) s1.2.2.2.1)).bind fun x7 =>
                ((getI ([s1.2.2.2.2.2.2.2] ++ s1.2.1) s1.2.2.2.1)).bind fun x8 =>
                ((arrasref18_Style (s1.2.2.2.2.1.1, x8))).bind fun x9 =>
                (bif x9.2 then (((getI x9.1 0)).bind fun x10 =>
                    some (x10 != 2)) else
                  some false).bind fun x10 =>
                some (.inl (s1.1, (s1.2.1, (x10, ((IntKind.wrap .i64 (s1.2.2.2.1 + 1)), (s1.2.2.2.2.1, (s1.2.2.2.2.2.1, s1.2.2.2.2.2.2)))))))) else
              none) else
            some (.inr (s1.1, (s1.2.2.1, (s1.2.2.2.2.1, (s1.2.2.2.2.2.1, s1.2.2.2.2.2.2))))))
            (fun b k => ((i : Int), (upC s.1.1 nd.1, (b, ((k : Int), (((s, (l, ids)) : Script_arraslaw17), (bx, (seen, nd.1)))))))) (fun b => ((i : Int), (b, (((s, (l, ids)) : Script_arraslaw17), (bx, (seen, nd.1))))))
            (by
              intro k hk
              have k1 : (k : Int) < ((List.length (upC s.1.1 nd.1)) : Int) := by omega
              have hcd := chn_drop hc (show k < c.length by omega)
              have hlc : liveC s.1.1 (c.getD k default) = true := (live_chn g.acy g.root).2 ⟨_, hcd⟩
              have hsl := styL_len s.2 (wayC s.1.1 (c.getD k default))
              have hg0 := get0 _ hsl
              simp only [k1, decide_true, cond_true, hroom, hat k hk, Option.bind_some, rStyle_eq g, hlc, if_true, hg0, rose_eta, wrap_nat (show k < 9223372036854775807 by omega)])
            (by
              intro k
              cases hlt : decide ((k : Int) < ((List.length (upC s.1.1 nd.1)) : Int)) <;> simp only [hlt, cond_true, cond_false, rose_eta])
            (by simp only [Int.lt_irrefl, decide_false, cond_false, rose_eta]) (upC s.1.1 nd.1).length 0 (by omega) (by omega)
          rw [show ((i : Int), (upC s.1.1 nd.1, (true, ((0 : Int), (((s, (l, ids)) : Script_arraslaw17), (bx, (seen, nd.1))))))) = ((i : Int), (upC s.1.1 nd.1, (true, (((0 : Nat) : Int), (((s, (l, ids)) : Script_arraslaw17), (bx, (seen, nd.1))))))) from rfl, hmain]
          simp only [Option.bind_some, rose_eta]
          refine hfin _ ?_
          rw [decide_eq_decide, hpi, hw]
          constructor
          · intro h
            exact ⟨hl, hle, fun k hk => by have := h k hk (Nat.zero_le _); simpa using this⟩
          · rintro ⟨_, _, h⟩ k hk _
            simpa using h k hk
      · simp only [Int.lt_irrefl, decide_false, cond_false, rose_eta]
end Go.Tr
