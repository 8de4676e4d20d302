/- A part of the proof: LkA, LkB, LkO, LkW, LkStyles, LkGoes. -/
import Derived.Test.YtlfkabehppdohaaGreatLsC
set_option linter.unusedVariables false
set_option linter.unusedSimpArgs false
namespace Go.Tr
open Go Go.Dv Go.Ky
def tab : List Int := (List.range 19).map fun p : Nat => prDef (p : Int)
def belF (x : List Int) : List Int := (List.range 19).map fun p : Nat => if prGo (p : Int) = true then x.getD p 0 else prDef (p : Int)
def stepF (l : List Rg) (x : List Int) : List Int := (List.range 19).map fun p : Nat => match glook rk l (p : Int) with
  | some r => r.2.1
  | none => if prGo (p : Int) = true then x.getD p 0 else prDef (p : Int)
theorem tab_len : tab.length = 19 := rfl
theorem belF_len (x : List Int) : (belF x).length = 19 := by simp [belF]
theorem stepF_len (l : List Rg) (x : List Int) : (stepF l x).length = 19 := by simp [stepF]
def setsF (l : List Rg) (x : List Int) : List Int := l.foldl (fun x r => x.set r.1.toNat r.2.1) x
theorem setsF_len : ∀ (l : List Rg) (x : List Int), (setsF l x).length = x.length
  | [], _ => rfl
  | r :: l, x => by rw [setsF, List.foldl_cons]; exact (setsF_len l _).trans (List.length_set ..)
theorem setsF_get : ∀ (l : List Rg) (x : List Int) (p : Nat), GS rk ilt l → (∀ r ∈ l, 0 ≤ r.1) → p < x.length → (setsF l x)[p]? = some (match glook rk l (p : Int) with
  | some r => r.2.1
  | none => x.getD p 0)
  | [], x, p, _, _, hp => by
    show x[p]? = some (x.getD p 0)
    rw [List.getElem?_eq_getElem hp, List.getD_eq_getElem?_getD, List.getElem?_eq_getElem hp]; rfl
  | r :: l, x, p, hs, h0, hp => by
    have hs' := List.pairwise_cons.1 hs
    rw [setsF, List.foldl_cons]
    have := setsF_get l (x.set r.1.toNat r.2.1) p hs'.2 (fun q hq => h0 q (by simp [hq])) (by simpa using hp)
    rw [setsF] at this
    rw [this, glook]
    have hr0 := h0 r (by simp)
    by_cases e : rk r = (p : Int)
    · have e' : r.1 = (p : Int) := e
      rw [if_pos e]
      have hn : glook rk l (p : Int) = none := by
        cases h : glook rk l (p : Int) with
        | none => rfl
        | some q =>
          have := glook_id h
          have hlt : ilt (rk r) (rk q) := hs'.1 q this.2
          rw [e, this.1] at hlt
          exact absurd hlt (by unfold ilt; omega)
      rw [hn]
      simp [e', List.getD_eq_getElem?_getD, hp]
    · rw [if_neg e]
      have e' : r.1.toNat ≠ p := by
        intro h
        have : r.1 = (p : Int) := by omega
        exact e this
      cases glook rk l (p : Int) with
      | some q => rfl
      | none => simp only [List.getD_eq_getElem?_getD, List.getElem?_set_ne e']
theorem setsF_bel {l : List Rg} (x : List Int) (hs : GS rk ilt l) (h0 : ∀ r ∈ l, 0 ≤ r.1) : setsF l (belF x) = stepF l x := by
  apply List.ext_getElem?
  intro p
  by_cases hp : p < 19
  · rw [setsF_get l _ p hs h0 (by rw [belF_len]; exact hp)]
    have e1 : (belF x).getD p 0 = if prGo (p : Int) = true then x.getD p 0 else prDef (p : Int) := by
      rw [List.getD_eq_getElem?_getD]
      simp only [belF, List.getElem?_map, List.getElem?_range hp, Option.map_some, Option.getD_some]
    rw [e1]
    simp only [stepF, List.getElem?_map, List.getElem?_range hp, Option.map_some]
  · rw [List.getElem?_eq_none (by rw [setsF_len, belF_len]; omega), List.getElem?_eq_none (by rw [stepF_len]; omega)]
theorem prIs_nat {i : Nat} (h : i < 19) : prIs (i : Int) = true := by simp [prIs]; omega
theorem snoc_range {α : Type} (f : Nat → α) (i : Nat) : (List.range i).map f ++ [f i] = (List.range (i + 1)).map f := by rw [List.range_succ, List.map_append]; rfl
theorem room19 {α : Type} {l : List α} {i : Nat} (h : l.length = i) (hi : i ≤ 1000) : room l.length 8 = true := room_small (by omega) (by decide)
theorem Plain_eq : prop_Plain () = some tab := by
  unfold prop_Plain
  rw [iter_run' (inv := fun i : Nat => ((i : Int), (List.range i).map fun p : Nat => prDef (p : Int))) (k := 19) (r := tab)]
  · rfl
  · intro i hi
    have e1 : (i : Int) < 19 := by omega
    simp only [e1, decide_true, cond_true, prop_ruleOf_eq (prIs_nat hi), Option.bind_some, snoc_range (fun p : Nat => prDef (p : Int)), wrap_nat (show i < 9223372036854775807 by omega)]
    rw [room19 (i := i + 1) (by simp) (by omega)]; rfl
  · rfl
theorem rDefault_eq {p : Int} (h : prIs p = true) : arrasref8_Default p = some (prDef p) := by
  unfold arrasref8_Default
  rw [ref_value_eq h]; rfl
theorem rGoes_eq (p : Int) : arrasref8_Goes p = prGo p := by
  unfold arrasref8_Goes prGo
  by_cases h : p = 17 <;> by_cases k : p = 18 <;> simp [h, k]
def belI (x : List Int) (i : Nat) : List Int := (List.range 19).map fun p : Nat => if p < i ∧ prGo (p : Int) = true then x.getD p 0 else prDef (p : Int)
theorem belI_len (x : List Int) (i : Nat) : (belI x i).length = 19 := by simp [belI]
theorem belI_get (x : List Int) (i p : Nat) (h : p < 19) : (belI x i)[p]? = some (if p < i ∧ prGo (p : Int) = true then x.getD p 0 else prDef (p : Int)) := by
  simp only [belI, List.getElem?_map, List.getElem?_range h, Option.map_some]
theorem belI_succ (x : List Int) (i : Nat) (h : i < 19) : belI x (i + 1) = if prGo (i : Int) = true then (belI x i).set i (x.getD i 0) else belI x i := by
  apply List.ext_getElem?
  intro p
  by_cases hp : p < 19
  · rw [belI_get x _ p hp]
    by_cases hg : prGo (i : Int) = true
    · rw [if_pos hg]
      by_cases e : p = i
      · subst e
        rw [List.getElem?_set_self (by rw [belI_len]; exact hp), if_pos ⟨by omega, hg⟩]
      · rw [List.getElem?_set_ne (Ne.symm e), belI_get x _ p hp]
        have : (p < i + 1 ∧ prGo (p : Int) = true) ↔ (p < i ∧ prGo (p : Int) = true) := by constructor <;> rintro ⟨a, b⟩ <;> exact ⟨by omega, b⟩
        simp only [this]
    · rw [if_neg hg, belI_get x _ p hp]
      have : (p < i + 1 ∧ prGo (p : Int) = true) ↔ (p < i ∧ prGo (p : Int) = true) := by
        constructor
        · rintro ⟨a, b⟩
          refine ⟨?_, b⟩
          have : p ≠ i := by rintro rfl; exact hg b
          omega
        · rintro ⟨a, b⟩; exact ⟨by omega, b⟩
      simp only [this]
  · have h1 : ∀ l : List Int, l.length = 19 → l[p]? = none := fun l hl => List.getElem?_eq_none (by omega)
    rw [h1 _ (belI_len _ _)]
    by_cases hg : prGo (i : Int) = true
    · rw [if_pos hg, h1 _ (by rw [List.length_set, belI_len])]
    · rw [if_neg hg, h1 _ (belI_len _ _)]
theorem belI_end (x : List Int) : belI x 19 = belF x := by
  unfold belI belF
  apply List.map_congr_left
  intro p hp
  have hp := List.mem_range.1 hp
  by_cases h : prGo (p : Int) = true <;> simp [h, hp]
theorem belI_nil (x : List Int) : belI x 0 = tab := by
  unfold belI tab
  apply List.map_congr_left
  intro p hp
  simp
theorem Below_eq (x : List Int) (hx : x.length = 19) : prop_Below x = some (belF x) := by
  unfold prop_Below
  simp only [Plain_eq, Option.bind_some, tab_len]
  rw [iter_run' (inv := fun i : Nat => (((19 : Nat) : Int), ((i : Int), (x, belI x i)))) (k := 19) (r := (x, belF x)) ?_ ?_ (by simp only [belI_nil]; rfl)]
  · rfl
  · intro i hi
    have e1 : (i : Int) < ((19 : Nat) : Int) := by omega
    simp only [e1, decide_true, cond_true, prop_ruleOf_eq (prIs_nat hi), Option.bind_some]
    rw [belI_succ x i hi]
    cases hg : prGo (i : Int) with
    | true =>
      have hxi : getI x (i : Int) = some (x.getD i 0) := by rw [getI_lt x i (by omega), List.getD_eq_getElem?_getD, List.getElem?_eq_getElem (by omega)]; rfl
      simp only [cond_true, hxi, getI_lt (belI x i) i (by rw [belI_len]; exact hi), Option.bind_some, Int.toNat_natCast, if_true, wrap_nat (show i < 9223372036854775807 by omega)]
    | false =>
      simp only [cond_false, Bool.false_eq_true, if_false, wrap_nat (show i < 9223372036854775807 by omega)]
  · rw [belI_end]
    simp only [Int.lt_irrefl, decide_false, cond_false]
structure Gd (s : Tree × List Lk) : Prop where
  srt : Srt s.1.1
  acy : Acy s.1.1
  len : s.1.1.length < 999000
  root : look s.1.1 (0, 0) = none
  ok : OkL s.2
  l : s.2.length < 999000
  r : ∀ id, (regsAt s.2 id).length < 999000
theorem gd_of {st : St} (h : OkS st) (hS : SmS (shp st)) : Gd (shp st) := by
  have n0 := nds0 st.1
  refine ⟨n0.1, n0.2.1, hS.n, root_none h.t, h.l, hS.l, fun id => ?_⟩
  unfold regsAt
  split
  · decide
  · rename_i q hq; exact hS.r q (glook_id hq).2
theorem prOk_is {p v : Int} (h : prOk p v = true) : ∃ i : Nat, p = (i : Int) ∧ i < 19 := by
  simp only [prOk, prIs, Bool.and_eq_true, decide_eq_true_eq] at h
  exact ⟨p.toNat, by omega, by omega⟩
theorem style_eq {s : Tree × List Lk} (g : Gd s) (id : Sp) (x : List Int) (hx : x.length = 19) : look_style (s, (id, x)) = some (stepF (regsAt s.2 id) x) := by
  obtain ⟨h1, h2⟩ := regsAt_ok g.ok id
  have hr := g.r id
  unfold look_style
  simp only [Below_eq x hx, Option.bind_some, Regs_eq id g.ok.srt (show s.2.length < 1000000 by have := g.l; omega)]
  generalize regsAt s.2 id = R at *
  rw [iter_run' (inv := fun i : Nat => (R, (((R.length : Nat) : Int), ((i : Int), (s, (id, (x, setsF (R.take i) (belF x)))))))) (k := R.length) (r := (s, (id, (x, setsF R (belF x)))))]
  · simp only [Option.bind_some]
    rw [setsF_bel x h1 fun r hr => ?_]
    obtain ⟨i, e, _⟩ := prOk_is (h2 r hr).1
    omega
  · intro i hi
    have e1 : (i : Int) < ((R.length : Nat) : Int) := by omega
    obtain ⟨k, e2, e3⟩ := prOk_is (h2 _ (getD_mem hi)).1
    have e4 : getI (setsF (R.take i) (belF x)) ((k : Nat) : Int) = some ((setsF (R.take i) (belF x))[k]'(by rw [setsF_len, belF_len]; exact e3)) := getI_lt _ _ _
    simp only [e1, decide_true, cond_true, getI_D R i hi, Option.bind_some, e2, e4, Int.toNat_natCast, wrap_nat (show i < 9223372036854775807 by omega), take_snoc hi]
    unfold setsF
    rw [List.foldl_append]
    simp only [List.foldl_cons, List.foldl_nil, e2, Int.toNat_natCast]
  · simp only [Int.lt_irrefl, decide_false, cond_false, List.take_length]
end Go.Tr
set_option linter.unusedVariables false
set_option linter.unusedSimpArgs false
namespace Go.Tr
open Go Go.Dv Go.Ky
def styL (lk : List Lk) : List Sp → List Int
  | [] => tab
  | w :: r => stepF (regsAt lk w) (styL lk r)
def wayC (l : List Nd) (id : Sp) : List Sp := (id :: upC l id).dropLast
theorem styL_len (lk : List Lk) : ∀ w : List Sp, (styL lk w).length = 19
  | [] => rfl
  | _ :: _ => stepF_len _ _
def valF (lk : List Lk) (p : Nat) : List Sp → Int
  | [] => prDef (p : Int)
  | w :: r => match glook rk (regsAt lk w) (p : Int) with
    | some x => x.2.1
    | none => if prGo (p : Int) = true then valF lk p r else prDef (p : Int)
theorem styL_get (lk : List Lk) (p : Nat) (hp : p < 19) : ∀ w : List Sp, (styL lk w)[p]? = some (valF lk p w)
  | [] => by simp only [styL, tab, List.getElem?_map, List.getElem?_range hp, Option.map_some, valF]
  | w :: r => by
    have ih := styL_get lk p hp r
    have e1 : (styL lk r).getD p 0 = valF lk p r := by rw [List.getD_eq_getElem?_getD, ih]; rfl
    simp only [styL, stepF, List.getElem?_map, List.getElem?_range hp, Option.map_some, valF, e1] <;> rfl
theorem of_eq {s : Tree × List Lk} (g : Gd s) (id : Sp) : look_of (s, id) = some (styL s.2 (wayC s.1.1 id)) := by
  have hsm : Sm s.1.1 := show s.1.1.length < 1000000 by have := g.len; omega
  have hul := upC_len id g.acy
  have hl := g.len
  unfold look_of wayC
  simp only [Plain_eq, Option.bind_some, Up_C id g.srt hsm g.acy, List.singleton_append]
  generalize hW : id :: upC s.1.1 id = W at *
  have hlen : W.length = (upC s.1.1 id).length + 1 := by rw [← hW]; rfl
  have hroom : room W.length 16 = true := room_small (by omega) (by decide)
  have hc : W.dropLast.length = W.length - 1 := List.length_dropLast
  have hw : IntKind.wrap .i64 (((W.length : Nat) : Int) - 1) = (((W.length - 1 - 0 : Nat)) : Int) := by rw [Go.Dv.wrap_small] <;> omega
  have hget : ∀ k, k < W.length - 1 → W.getD k default = W.dropLast.getD k default := fun k hk => by
    rw [List.getD_eq_getElem?_getD, List.getD_eq_getElem?_getD, List.getElem?_dropLast, if_pos hk]
  simp only [hroom, cond_true, hw]
  rw [iter_run' (inv := fun k : Nat => (W, (((W.length - 1 - k : Nat) : Int), (s, (id, styL s.2 (W.dropLast.drop (W.length - 1 - k))))))) (k := W.length - 1) (r := styL s.2 W.dropLast) ?_ ?_ (by rw [List.drop_eq_nil_of_le (by omega)]; rfl)]
  · rfl
  · intro k hk
    have e1 : (0 : Int) < ((W.length - 1 - k : Nat) : Int) := by omega
    have e2 : IntKind.wrap .i64 (((W.length - 1 - k : Nat) : Int) - 1) = ((W.length - 1 - (k + 1) : Nat) : Int) := by rw [Go.Dv.wrap_small] <;> omega
    have e3 : W.dropLast.drop (W.length - 1 - (k + 1)) = W.getD (W.length - 1 - (k + 1)) default :: W.dropLast.drop (W.length - 1 - k) := by
      rw [List.drop_eq_getElem_cons (by omega), hget _ (by omega), List.getD_eq_getElem?_getD, List.getElem?_eq_getElem (by omega), show W.length - 1 - (k + 1) + 1 = W.length - 1 - k by omega]; rfl
    simp only [e1, decide_true, cond_true, e2, getI_D W (W.length - 1 - (k + 1)) (by omega), Option.bind_some, style_eq g _ _ (styL_len s.2 _), e3, styL]
  · rw [Nat.sub_self]
    simp only [List.drop_zero]
    rfl
theorem Style_eq {s : Tree × List Lk} (g : Gd s) (hS : SmS s) (hB : shpB s = true) (id : Sp) : look_Style (s, id) = some (if liveC s.1.1 id = true then (styL s.2 (wayC s.1.1 id), 0) else ([], 3)) := by
  have hsm : Sm s.1.1 := show s.1.1.length < 1000000 by have := g.len; omega
  unfold look_Style
  simp only [IsShape_eq s hS, hB, Option.bind_some, Bool.not_true, cond_false, Lives_C id g.srt hsm g.acy, of_eq g id]
  cases liveC s.1.1 id <;> rfl
end Go.Tr
set_option linter.unusedVariables false
set_option linter.unusedSimpArgs false
namespace Go.Tr
open Go Go.Dv Go.Ky
def shownK (lk : List Lk) (x : List Int) (k : Nd) : Bool := (stepF (regsAt lk k.1) x).getD 0 0 != 2
def vis (l : List Nd) (lk : List Lk) (id : Sp) (x : List Int) : List Nd := (kidsC l id).filter (shownK lk x)
def boxN (l : List Nd) (lk : List Lk) : Nat → Sp → List Int → Rose (Sp × List Int)
  | 0, id, x => .mk (id, x) []
  | n + 1, id, x => .mk (id, x) ((vis l lk id x).map fun k => boxN l lk n k.1 (stepF (regsAt lk k.1) x))
def preN (l : List Nd) (lk : List Lk) : Nat → Sp → List Int → List Sp
  | 0, id, x => [id]
  | n + 1, id, x => id :: (vis l lk id x).flatMap fun k => preN l lk n k.1 (stepF (regsAt lk k.1) x)
def Chn (l : List Nd) : Sp → List Sp → Sp → Prop
  | m, [], id => m = id
  | m, a :: c, id => a = m ∧ ∃ p, par l m = some p ∧ Chn l p c id
theorem chn_ends {l : List Nd} {id : Sp} {j : Nat} (he : EndsIn l j id) : ∀ {c : List Sp} {m : Sp}, Chn l m c id → EndsIn l (j + c.length) m
  | [], m, h => by
    have h : m = id := h
    subst h; exact he
  | a :: c, m, ⟨e, p, hp, h⟩ => ⟨p, hp, chn_ends he h⟩
def Sh (lk : List Lk) (w : List Sp) : List Sp → Prop
  | [] => True
  | a :: c => (styL lk (a :: c ++ w)).getD 0 0 ≠ 2 ∧ Sh lk w c
theorem chn_up {l : List Nd} {id : Sp} : ∀ {c : List Sp} {m : Sp}, Chn l m c id → m :: ups l c.length m = c ++ [id]
  | [], m, h => by
    have h : m = id := h
    subst h; rfl
  | a :: c, m, ⟨e, p, hp, h⟩ => by
    subst e
    have := chn_up h
    simp only [List.length_cons, ups, hp, this, List.cons_append]
theorem way_of {l : List Nd} {c : List Sp} {m : Sp} (hr : look l (0, 0) = none) (h : Chn l m c (0, 0)) : wayC l m = c ∧ upC l m = (c ++ [(0, 0)]).tail ∧ (upC l m).length = c.length := by
  have he : EndsIn l c.length m := by
    have := chn_ends (l := l) (id := (0, 0)) (j := 0) (show par l (0, 0) = none by simp [par, hr]) h
    simpa using this
  have h1 := chn_up h
  have h2 : m :: upC l m = c ++ [(0, 0)] := by rw [upC_eq he]; exact h1
  refine ⟨?_, by rw [← h2]; rfl, ?_⟩
  · unfold wayC; rw [h2, List.dropLast_concat]
  · have := congrArg List.length h2
    simp at this; omega
theorem chn_last {l : List Nd} : ∀ {n : Nat} {m : Sp}, EndsIn l n m → Chn l m (m :: ups l n m).dropLast ((m :: ups l n m).getLast (by simp))
  | 0, m, h => by simp [ups, Chn]
  | n + 1, m, ⟨p, hp, h⟩ => by
    have := chn_last h
    simp only [ups, hp]
    rw [List.dropLast_cons_of_ne_nil (by simp), List.getLast_cons (by simp)]
    exact ⟨rfl, p, hp, this⟩
theorem live_chn {l : List Nd} {m : Sp} (ha : Acy l) (hr : look l (0, 0) = none) : liveC l m = true ↔ ∃ c, Chn l m c (0, 0) := by
  obtain ⟨n, he⟩ := ha m
  rw [live_iff hr, upC_eq he]
  constructor
  · intro h
    have hc := chn_last he
    have e0 : (m :: ups l n m).getLast (by simp) = (0, 0) := by
      rcases h with rfl | h
      · have := upC_none ha hr
        rw [upC_eq he] at this
        simp [this]
      · have hne : ups l n m ≠ [] := by intro e; rw [e] at h; cases h
        rw [List.getLast_cons hne]
        rw [List.getLast?_eq_some_getLast hne] at h
        exact Option.some.inj h
    rw [e0] at hc
    exact ⟨_, hc⟩
  · rintro ⟨c, h⟩
    have h1 := (way_of hr h).2.1
    rw [upC_eq he] at h1
    cases c with
    | nil => exact .inl h
    | cons a c =>
      right
      rw [h1]
      simp
end Go.Tr
set_option linter.unusedVariables false
set_option linter.unusedSimpArgs false
namespace Go.Tr
open Go Go.Dv Go.Ky
theorem style_v : look_style_v = look_style := rfl
theorem plain_v : prop_Plain_v = prop_Plain := rfl
theorem rose_eta {α : Type} (r : Rose α) : Rose.mk (Rose.val r) (Rose.kids r) = r := by cases r; rfl
theorem mono_box : Mono look_box_b := by
  intro F F' hF x
  unfold look_box_b
  exact up_cond (up_refl _) (up_bind (up_refl _) fun _ => up_bind (up_iter (fun s => up_cond (up_bind (up_refl _) fun _ => up_bind (up_refl _) fun _ => up_bind (up_refl _) fun _ => up_cond (up_bind (hF _) fun _ => up_refl _) (up_refl _)) (up_refl _)) _) fun _ => up_refl _)
theorem box_fix {s : Tree × List Lk} (g : Gd s) : ∀ (n : Nat) (id : Sp) (x : List Int), n < 1000 → x.length = 19 → fixN look_box_b (n + 1) (s, (id, (x, ((n + 1 : Nat) : Int)))) = some (boxN s.1.1 s.2 n id x)
  | 0, id, x, _, hx => by
    rw [fixN, look_box_b]
    simp only [show ((((0 + 1 : Nat) : Int)) == 1) = true from rfl, cond_true, boxN]
  | n + 1, id, x, hn, hx => by
    have hsm : Sm s.1.1 := show s.1.1.length < 1000000 by have := g.len; omega
    have hkl := kids_len s.1.1 id
    have hl := g.len
    have ih := fun k y hy => box_fix g n k y (by omega) hy
    have e0 : ((((n + 1 + 1 : Nat) : Int)) == 1) = false := by rw [beq_eq_false_iff_ne]; omega
    rw [fixN, look_box_b]
    simp only [e0, cond_false, Children_eq s.1 id hsm, Option.bind_some, kidsC_eq id g.srt, style_v]
    rw [kidsC_eq id g.srt] at hkl
    simp only [boxN, vis]
    generalize kidsC s.1.1 id = K at *
    let A : Nat → List (Rose (Sp × List Int)) := fun i => ((K.take i).filter (shownK s.2 x)).map fun k => boxN s.1.1 s.2 n k.1 (stepF (regsAt s.2 k.1) x)
    rw [iter_run' (inv := fun i : Nat => (((n + 1 + 1 : Nat) : Int), (K, (((K.length : Nat) : Int), ((i : Int), (s, (id, (x, ((0 : Int), ((0 : Int), (id.1, (id.2, (x, A i))))))))))))) (k := K.length) (r := (s, (id, (x, ((0 : Int), ((0 : Int), (id.1, (id.2, (x, A K.length))))))))) ?_ ?_ (by simp [A])]
    · simp only [Option.bind_some, A, List.take_length]
    · intro i hi
      have e1 : (i : Int) < ((K.length : Nat) : Int) := by omega
      have e2 : IntKind.wrap .i64 (((n + 1 + 1 : Nat) : Int) - 1) = ((n + 1 : Nat) : Int) := by rw [Go.Dv.wrap_small] <;> omega
      have hy := stepF_len (regsAt s.2 (K.getD i default).1) x
      have e3 : getI (stepF (regsAt s.2 (K.getD i default).1) x) 0 = some ((stepF (regsAt s.2 (K.getD i default).1) x).getD 0 0) := by
        rw [show (0 : Int) = ((0 : Nat) : Int) from rfl, getI_lt _ 0 (by omega), List.getD_eq_getElem?_getD, List.getElem?_eq_getElem (by omega)]; rfl
      have hA : A (i + 1) = if shownK s.2 x (K.getD i default) = true then A i ++ [boxN s.1.1 s.2 n (K.getD i default).1 (stepF (regsAt s.2 (K.getD i default).1) x)] else A i := by
        simp only [A, take_snoc hi, List.filter_append, List.map_append]
        generalize K.getD i default = q
        by_cases h : shownK s.2 x q = true
        · rw [if_pos h, List.filter_cons_of_pos h]; rfl
        · rw [if_neg h, List.filter_cons_of_neg h]; simp
      have hAl : (A i).length ≤ i := by
        simp only [A, List.length_map]
        exact Nat.le_trans (List.length_filter_le _ _) (by simp; omega)
      simp only [e1, decide_true, cond_true, getI_D K i hi, Option.bind_some, style_eq g _ x hx, e3, e2, hA, wrap_nat (show i < 9223372036854775807 by omega), rose_eta]
      have hsh : ((stepF (regsAt s.2 (K.getD i default).1) x).getD 0 0 != 2) = shownK s.2 x (K.getD i default) := rfl
      rw [hsh]
      cases shownK s.2 x (K.getD i default) with
      | false => rfl
      | true =>
        simp only [cond_true, ih _ _ hy, Option.bind_some, if_true, rose_eta]
        rw [show room (List.length (A i ++ [boxN s.1.1 s.2 n (K.getD i default).1 (stepF (regsAt s.2 (K.getD i default).1) x)])) 64 = true from room_small (by simp only [List.length_append, List.length_cons, List.length_nil]; omega) (by decide)]
        rfl
    · simp only [Int.lt_irrefl, decide_false, cond_false]
theorem All_eq {s : Tree × List Lk} (g : Gd s) : look_All s = some (boxN s.1.1 s.2 12 (0, 0) tab) := by
  unfold look_All
  have h := fixO_is mono_box (box_fix g 12 (0, 0) tab (by decide) tab_len)
  have e : look_box (s, ((stamp_Root ()), (tab, (13 : Int)))) = some (boxN s.1.1 s.2 12 (0, 0) tab) := h
  rw [plain_v, Plain_eq]
  simp only [Option.bind_some, e, rose_eta]
theorem Boxes_eq {s : Tree × List Lk} (g : Gd s) (hS : SmS s) (hB : shpB s = true) : look_Boxes s = some (boxN s.1.1 s.2 12 (0, 0) tab, 0) := by
  unfold look_Boxes
  simp only [IsShape_eq s hS, hB, Option.bind_some, Bool.not_true, cond_false, All_eq g, rose_eta]
theorem rApply0 : arrasref16_Apply ((([], []) : Tree), arraslaw10_O ()) = some (made [arraslaw10_O ()], true) := by
  unfold arrasref16_Apply
  rw [Moves_eq _ (by decide)]
  simp only [Option.bind_some, List.map_nil]
  rw [iter_inr (r := .inl ([], (false, (([], []), (arraslaw10_O (), ([], [])))))) (by rfl)]
  simp only [Option.bind_some, Bool.not_false, cond_true, List.nil_append]
  rw [Made_eq _ (by decide) (by intro o ho; rw [List.mem_singleton.1 ho]; show List.length _ < _; simp [arraslaw10_O])]
  rfl
theorem wakes18_eq : arraslaw18_wakes () = some true := by
  have ho : OkS ([arraslaw10_O ()], []) := by
    have := putS_ok oks_nil O_op (show clash ([], []) (arraslaw10_O ()) = false from rfl)
    exact this
  have hS := sms_shp ho (by decide) (by decide)
  have g := gd_of ho hS
  have hs0 : SmS ((([], []), []) : Tree × List Lk) := ⟨by decide, by decide, by simp, by decide, by simp⟩
  have hD : arrasref16_Does ((([], []), []) , arraslaw10_O ()) = some (shp ([arraslaw10_O ()], []), true) := by
    unfold arrasref16_Does
    have hk : ((arraslaw10_O ()).2.2.2.1 == 1) = true := rfl
    have hct : arrasref0_CopyTree (made [arraslaw10_O ()]) = some (made [arraslaw10_O ()]) := CopyTree_eq _ (show List.length _ < _ by rw [made_O]; decide) (show List.length _ < _ by show (ens [] [arraslaw10_O ()]).length < _; rw [ens_len]; decide) (ok_deps (l := []) ho.t)
    simp only [CopyShape_eq _ hs0, Option.bind_some, hk, cond_true, rApply0, hct]
    rfl
  unfold arraslaw18_wakes
  rw [show ((([], []), []) : Shape) = ((([], []), []) : Tree × List Lk) from rfl, hD]
  simp only [Option.bind_some, Boxes_eq g hS (shpB_iff.2 ⟨_, ho, rfl⟩)]
  have hk : kidsC (shp ([arraslaw10_O ()], [])).1.1 ((0, 0) : Sp) = [(((1 : Int), (0 : Int)), ((0 : Int), (0 : Int)), (ByteArray.mk ([107]).toArray))] := by
    show kidsC (made [arraslaw10_O ()]).1 ((0, 0) : Sp) = _
    rw [made_O]; simp [kidsC, insK, posK]
  have hb : boxN (shp ([arraslaw10_O ()], [])).1.1 (shp ([arraslaw10_O ()], [])).2 12 (0, 0) tab = .mk ((0, 0), tab) [boxN (shp ([arraslaw10_O ()], [])).1.1 (shp ([arraslaw10_O ()], [])).2 11 (1, 0) (stepF [] tab)] := by
    rw [boxN]
    simp only [vis, hk]
    rfl
  rw [hb]
  rfl
end Go.Tr
set_option linter.unusedVariables false
set_option linter.unusedSimpArgs false
namespace Go.Tr
open Go Go.Dv Go.Ky
theorem num18_eq (e : Int) : arraslaw18_num e = e := rfl
end Go.Tr
set_option linter.unusedVariables false
set_option linter.unusedSimpArgs false
namespace Go.Tr
open Go Go.Dv Go.Ky
def valQ (lk : List Lk) (p : Nat) (q : Sp) : Option Int := if q = (0, 0) then none else (glook rk (regsAt lk q) (p : Int)).map (·.2.1)
def valC (lk : List Lk) (p : Nat) : List Sp → Option Int
  | [] => none
  | q :: r => match valQ lk p q with
    | some v => some v
    | none => valC lk p r
theorem valC_root (lk : List Lk) (p : Nat) : ∀ c : List Sp, valC lk p (c ++ [(0, 0)]) = valC lk p c
  | [] => by simp [valC, valQ]
  | q :: c => by
    rw [List.cons_append, valC, valC, valC_root lk p c]
theorem valF_C {lk : List Lk} {p : Nat} (hg : prGo (p : Int) = true) : ∀ {c : List Sp}, (∀ q ∈ c, q ≠ (0, 0)) → valF lk p c = (valC lk p c).getD (prDef (p : Int))
  | [], _ => rfl
  | q :: c, h => by
    have hq : q ≠ (0, 0) := h q (by simp)
    have ih := valF_C (lk := lk) hg (c := c) (fun r hr => h r (by simp [hr]))
    rw [valF, valC, valQ, if_neg hq]
    cases glook rk (regsAt lk q) (p : Int) with
    | some r => rfl
    | none => simp only [hg, if_true, Option.map_none, ih]
theorem valF_1 {lk : List Lk} {p : Nat} (hg : prGo (p : Int) = false) {q : Sp} {c : List Sp} (hq : q ≠ (0, 0)) : valF lk p (q :: c) = (valC lk p [q]).getD (prDef (p : Int)) := by
  rw [valF, valC, valQ, if_neg hq]
  cases glook rk (regsAt lk q) (p : Int) with
  | some r => rfl
  | none => simp [hg, valC]
theorem chn_mem {l : List Nd} {id : Sp} : ∀ {c : List Sp} {m : Sp}, Chn l m c id → ∀ q ∈ c, ∃ p, par l q = some p
  | a :: c, m, ⟨e, p, hp, h⟩, q, hq => by
    subst e
    rcases List.mem_cons.1 hq with rfl | hq
    · exact ⟨p, hp⟩
    · exact chn_mem h q hq
theorem chain_loop {σ ρ : Type} {lk : List Lk} {p : Nat} {C : List Sp} {d : Int} {f : σ → Option (σ ⊕ ρ)} (inv : Int → Bool → Nat → σ) (out : Int → ρ)
    (h1 : ∀ k, k < C.length → f (inv d false k) = some (.inl (inv ((valQ lk p (C.getD k default)).getD d) (valQ lk p (C.getD k default)).isSome (k + 1))))
    (h2 : ∀ v k, f (inv v true k) = some (.inr (out v))) (h3 : f (inv d false C.length) = some (.inr (out d))) : ∀ (n k : Nat), C.length - k = n → k ≤ C.length → iter f (inv d false k) = some (out ((valC lk p (C.drop k)).getD d))
  | 0, k, hn, hk => by
    obtain rfl : k = C.length := by omega
    rw [iter_inr h3, List.drop_length]; rfl
  | n + 1, k, hn, hk => by
    have hk' : k < C.length := by omega
    rw [iter_inl (h1 k hk'), List.drop_eq_getElem_cons hk', valC]
    have e : C.getD k default = C[k] := by rw [List.getD_eq_getElem?_getD, List.getElem?_eq_getElem hk']; rfl
    rw [e]
    cases hv : valQ lk p C[k] with
    | some v => simp only [Option.getD_some, Option.isSome_some]; exact iter_inr (h2 v (k + 1))
    | none =>
      simp only [Option.getD_none, Option.isSome_none]
      exact chain_loop inv out h1 h2 h3 n (k + 1) (by omega) (by omega)
theorem glook_snoc {R : List Rg} {r : Rg} {p : Int} : glook rk (R ++ [r]) p = match glook rk R p with
  | some q => some q
  | none => if rk r = p then some r else none := by
  induction R with
  | nil => rfl
  | cons q R ih =>
    rw [List.cons_append, glook, glook, ih]
    by_cases h : rk q = p <;> simp [h]
theorem glook_uniq {R : List Rg} {r q : Rg} {p : Int} (hs : GS rk ilt (R ++ [r])) (h : glook rk R p = some q) : r.1 ≠ p := by
  have h1 := glook_id h
  have h2 := (List.pairwise_append.1 hs).2.2 q h1.2 r (by simp)
  have h3 : q.1 = p := h1.1
  have h4 : q.1 < r.1 := h2
  omega
theorem pure_LookGoes (y : El sScript_arraslaw17) (h : Bnd sScript_arraslaw17 y) : arraslaw18_LookGoes y = some true := by
  obtain ⟨b, hb, hb2⟩ := Heavy17_eq y h
  unfold arraslaw18_LookGoes
  rw [hb]
  simp only [Option.bind_some]
  cases b with
  | true => rfl
  | false =>
    have L := hb2 rfl
    obtain ⟨s, l, ids⟩ := y
    have hS : SmS s := L.s
    have hn : s.1.1.length ≤ 3000 := L.n
    simp only [cond_false, ref_Shape_eq s hS, Option.bind_some]
    cases hB : shpB s with
    | false => rfl
    | true =>
      obtain ⟨st, hst, rfl⟩ := shpB_iff.1 hB
      have g := gd_of hst hS
      generalize shp st = s at *
      simp only [Bool.not_true, cond_false]
      rw [iter_run' (inv := fun i : Nat => ((i : Int), ((s, (l, ids)) : Script_arraslaw17))) (k := s.1.1.length) (r := .inl (s, (l, ids)))]
      · simp only [Option.bind_some, wakes18_eq]
      · intro i hi
        have e1 : (i : Int) < (s.1.1.length : Int) := by omega
        have hmem := getD_mem hi
        have hlk := look_mem g.srt hmem
        simp only [e1, decide_true, cond_true, getI_D s.1.1 i hi, Option.bind_some]
        generalize (s.1.1.getD i default) = nd at *
        rw [Style_eq g hS hB nd.1]
        cases hl : liveC s.1.1 nd.1 with
        | false =>
          simp only [Bool.false_eq_true, if_false, Option.bind_some, num18_eq, show ((3 : Int) != 0) = true from rfl, cond_true, rLive_C nd.1 g.srt g.len g.acy, hl, cond_false, wrap_nat (show i < 9223372036854775807 by omega)]
        | true =>
          obtain ⟨c, hc⟩ := (live_chn g.acy g.root).1 hl
          obtain ⟨hw, hu, hul⟩ := way_of g.root hc
          have hc0 : ∀ q ∈ c, q ≠ (0, 0) := fun q hq e => by
            obtain ⟨p, hp⟩ := chn_mem hc q hq
            rw [e, par, g.root] at hp; cases hp
          have hid : nd.1 ≠ (0, 0) := fun e => by rw [e, g.root] at hlk; cases hlk
          obtain ⟨t, rfl⟩ : ∃ t, c = nd.1 :: t := by
            cases c with
            | nil => exact absurd hc hid
            | cons a t => exact ⟨t, by rw [hc.1]⟩
          have hu : upC s.1.1 nd.1 = t ++ [(0, 0)] := hu
          have hulen := upC_len nd.1 g.acy
          simp only [if_true, Option.bind_some, num18_eq, bne_self_eq_false, cond_false, rAbove_C nd.1 g.srt g.len g.acy, hlk, Option.isSome_some]
          rw [hw, hu]
          rw [hu] at hulen
          have hslen := styL_len s.2 (nd.1 :: t)
          have hget := fun p hp => styL_get s.2 p hp (nd.1 :: t)
          generalize styL s.2 (nd.1 :: t) = sty at *
          rw [iter_run' (inv := fun p : Nat => ((i : Int), (t ++ [((0, 0) : Sp)], ((p : Int), (((s, (l, ids)) : Script_arraslaw17), (nd.1, sty)))))) (k := 19) (r := .inl ((i : Int), (((s, (l, ids)) : Script_arraslaw17), (nd.1, sty))))]
          · simp only [Option.bind_some, wrap_nat (show i < 9223372036854775807 by omega)]
          · intro p hp
            have f1 : (p : Int) < 19 := by omega
            have hroom : room (List.length ([nd.1] ++ (t ++ [((0, 0) : Sp)]))) 16 = true := room_small (by simp only [List.length_append, List.length_cons, List.length_nil] at hulen ⊢; omega) (by decide)
            have hch : ∃ C : List Sp, (valC s.2 p C).getD (prDef (p : Int)) = valF s.2 p (nd.1 :: t) ∧ C.length ≤ 4000 ∧ (bif (Bool.not (arrasref8_Goes (p : Int))) then (bif ((decide ((0 ≤ 1))) && (decide (((1 : Int) ≤ ((List.length ([nd.1] ++ (t ++ [((0, 0) : Sp)]))) : Int))))) then some ((i : Int), (t ++ [((0, 0) : Sp)], ((p : Int), ((List.take (Int.toNat 1) ([nd.1] ++ (t ++ [((0, 0) : Sp)]))), (((s, (l, ids)) : Script_arraslaw17), (nd.1, sty)))))) else
                    none) else
                  some ((i : Int), (t ++ [((0, 0) : Sp)], ((p : Int), (([nd.1] ++ (t ++ [((0, 0) : Sp)])), (((s, (l, ids)) : Script_arraslaw17), (nd.1, sty))))))) = some ((i : Int), (t ++ [((0, 0) : Sp)], ((p : Int), (C, (((s, (l, ids)) : Script_arraslaw17), (nd.1, sty)))))) := by
              rw [rGoes_eq]
              cases hg : prGo (p : Int) with
              | true =>
                refine ⟨[nd.1] ++ (t ++ [((0, 0) : Sp)]), ?_, by simp only [List.length_append, List.length_cons, List.length_nil] at hulen ⊢; omega, rfl⟩
                rw [valF_C hg hc0]
                have := valC_root s.2 p (nd.1 :: t)
                rw [← this]; rfl
              | false =>
                refine ⟨[nd.1], ?_, by simp, ?_⟩
                · rw [valF_1 hg hid]
                · have f2 : (1 : Int) ≤ ((List.length ([nd.1] ++ (t ++ [((0, 0) : Sp)]))) : Int) := by simp only [List.length_append, List.length_cons, List.length_nil]; omega
                  simp only [Bool.not_false, cond_true, f2, decide_true, Bool.and_true]
                  rfl
            obtain ⟨C, hC1, hC2, hC3⟩ := hch
            simp only [f1, decide_true, cond_true, hroom, hC3, Option.bind_some, rDefault_eq (prIs_nat hp)]
            have hmid := chain_loop (lk := s.2) (p := p) (C := C) (d := prDef (p : Int)) (f := fun s2 : (Int × ((List (Int × Int)) × (Int × ((List (Int × Int)) × (Int × (Bool × (Int × (Script_arraslaw17 × ((Int × Int) × (List Int)))))))))) =>
                    bif (bif (decide ((s2.2.2.2.2.2.2.1 < ((List.length s2.2.2.2.1) : Int)))) then (Bool.not s2.2.2.2.2.2.1) else false) then (((getI s2.2.2.2.1 s2.2.2.2.2.2.2.1)).bind fun x7 =>
                      ((arrasref16_Look (s2.2.2.2.2.2.2.2.1.1, x7))).bind fun x8 =>
                      (iter (σ := (Int × ((List (Int × Int)) × (Int × ((List (Int × Int)) × (Int × (Bool × (Int × ((List Go.Dv.Reg) × (Int × (Script_arraslaw17 × ((Int × Int) × (List Int))))))))))))) (ρ := (Int × ((List (Int × Int)) × (Int × ((List (Int × Int)) × (Int × (Bool × (Int × (Script_arraslaw17 × ((Int × Int) × (List Int))))))))))) (fun s3 =>
                          bif (decide ((s3.2.2.2.2.2.2.2.2.1 < ((List.length s3.2.2.2.2.2.2.2.1) : Int)))) then ((((getI s3.2.2.2.2.2.2.2.1 s3.2.2.2.2.2.2.2.2.1)).bind fun x9 =>
                              bif (x9.1 == s3.2.2.1) then (((getI s3.2.2.2.1 s3.2.2.2.2.2.2.1)).bind fun x10 =>
                                some (Bool.not ((x10.1 == 0) && (x10.2 == 0)))) else
                              some false).bind fun x9 =>
                            bif x9 then (((getI s3.2.2.2.2.2.2.2.1 s3.2.2.2.2.2.2.2.2.1)).bind fun x10 =>
                              some (.inl (s3.1, (s3.2.1, (s3.2.2.1, (s3.2.2.2.1, (x10.2.1, (true, (s3.2.2.2.2.2.2.1, (s3.2.2.2.2.2.2.2.1, ((IntKind.wrap .i64 (s3.2.2.2.2.2.2.2.2.1 + 1)), s3.2.2.2.2.2.2.2.2.2))))))))))) else
                            some (.inl (s3.1, (s3.2.1, (s3.2.2.1, (s3.2.2.2.1, (s3.2.2.2.2.1, (s3.2.2.2.2.2.1, (s3.2.2.2.2.2.2.1, (s3.2.2.2.2.2.2.2.1, ((IntKind.wrap .i64 (s3.2.2.2.2.2.2.2.2.1 + 1)), s3.2.2.2.2.2.2.2.2.2))))))))))) else
                          some (.inr (s3.1, (s3.2.1, (s3.2.2.1, (s3.2.2.2.1, (s3.2.2.2.2.1, (s3.2.2.2.2.2.1, (s3.2.2.2.2.2.2.1, s3.2.2.2.2.2.2.2.2.2))))))))) (s2.1, (s2.2.1, (s2.2.2.1, (s2.2.2.2.1, (s2.2.2.2.2.1, (s2.2.2.2.2.2.1, (s2.2.2.2.2.2.2.1, (x8, ((0 : Int), s2.2.2.2.2.2.2.2)))))))))).bind fun x9 =>
                      some (.inl (x9.1, (x9.2.1, (x9.2.2.1, (x9.2.2.2.1, (x9.2.2.2.2.1, (x9.2.2.2.2.2.1, ((IntKind.wrap .i64 (x9.2.2.2.2.2.2.1 + 1)), x9.2.2.2.2.2.2.2))))))))) else
                    some (.inr (s2.1, (s2.2.1, (s2.2.2.1, (s2.2.2.2.2.1, s2.2.2.2.2.2.2.2))))))
              (fun w f k => ((i : Int), (t ++ [((0, 0) : Sp)], ((p : Int), (C, (w, (f, ((k : Int), (((s, (l, ids)) : Script_arraslaw17), (nd.1, sty)))))))))) (fun w => ((i : Int), (t ++ [((0, 0) : Sp)], ((p : Int), (w, (((s, (l, ids)) : Script_arraslaw17), (nd.1, sty)))))))
              (by
                intro k hk
                have k1 : (k : Int) < (C.length : Int) := by omega
                simp only [k1, decide_true, cond_true, Bool.not_false, getI_D C k hk, Option.bind_some, refLook_eq s _ g.l]
                have hR := (regsAt_ok g.ok (C.getD k default)).1
                have hRl := g.r (C.getD k default)
                have hq0 : ∀ q : Sp, ((q.1 == 0) && (q.2 == 0)) = decide (q = (0, 0)) := fun q => two_eq q (0, 0)
                unfold valQ
                generalize hRe : regsAt s.2 (C.getD k default) = R at *
                rw [iter_run' (inv := fun j : Nat => ((i : Int), (t ++ [((0, 0) : Sp)], ((p : Int), (C, ((if C.getD k default = (0, 0) then none else (glook rk (R.take j) (p : Int)).map (·.2.1)).getD (prDef (p : Int)), ((if C.getD k default = (0, 0) then none else (glook rk (R.take j) (p : Int)).map (·.2.1)).isSome, ((k : Int), (R, ((j : Int), (((s, (l, ids)) : Script_arraslaw17), (nd.1, sty)))))))))))) (k := R.length) (r := ((i : Int), (t ++ [((0, 0) : Sp)], ((p : Int), (C, ((if C.getD k default = (0, 0) then none else (glook rk R (p : Int)).map (·.2.1)).getD (prDef (p : Int)), ((if C.getD k default = (0, 0) then none else (glook rk R (p : Int)).map (·.2.1)).isSome, ((k : Int), (((s, (l, ids)) : Script_arraslaw17), (nd.1, sty)))))))))) ?_ ?_ (by by_cases hroot : C.getD k default = (0, 0) <;> simp [hroot, glook])]
                · simp only [Option.bind_some, wrap_nat (show k < 9223372036854775807 by omega)]
                · intro j hj
                  have j1 : (j : Int) < (R.length : Int) := by omega
                  have hS1 : GS rk ilt (R.take j ++ [R.getD j default]) := by rw [← take_snoc hj]; exact List.Pairwise.sublist (List.take_sublist _ _) hR
                  simp only [j1, decide_true, cond_true, getI_D R j hj, getI_D C k hk, Option.bind_some, hq0, wrap_nat (show j < 9223372036854775807 by omega), take_snoc hj, glook_snoc]
                  by_cases hr : (R.getD j default).1 = (p : Int)
                  · have hr' : rk (R.getD j default) = (p : Int) := hr
                    have hr2 : ((R.getD j default).1 == (p : Int)) = true := by rw [hr]; exact beq_self_eq_true _
                    by_cases hroot : C.getD k default = (0, 0)
                    · simp only [hr2, hroot, cond_true, decide_true, Bool.not_true, Option.bind_some, cond_false, if_true]
                    · have hnone : glook rk (R.take j) (p : Int) = none := by
                        cases hq : glook rk (R.take j) (p : Int) with
                        | none => rfl
                        | some q => exact absurd hr (glook_uniq hS1 hq)
                      simp only [hr2, hroot, cond_true, decide_false, Bool.not_false, Option.bind_some, if_false, hnone, hr', if_true, Option.map_some, Option.getD_some, Option.isSome_some]
                  · have hr' : ¬ rk (R.getD j default) = (p : Int) := hr
                    have hr2 : ((R.getD j default).1 == (p : Int)) = false := beq_eq_false_iff_ne.2 hr
                    simp only [hr2, cond_false, Option.bind_some, hr', if_false]
                    cases glook rk (R.take j) (p : Int) <;> rfl
                · simp only [Int.lt_irrefl, decide_false, cond_false, List.take_length])
              (by
                intro v k
                cases hlt : decide ((k : Int) < (C.length : Int)) <;> simp only [hlt, Bool.not_true, cond_true, cond_false])
              (by simp only [Int.lt_irrefl, decide_false, cond_false]) C.length 0 (by omega) (by omega)
            rw [show ((i : Int), (t ++ [((0, 0) : Sp)], ((p : Int), (C, (prDef (p : Int), (false, ((0 : Int), (((s, (l, ids)) : Script_arraslaw17), (nd.1, sty))))))))) = ((i : Int), (t ++ [((0, 0) : Sp)], ((p : Int), (C, (prDef (p : Int), (false, (((0 : Nat) : Int), (((s, (l, ids)) : Script_arraslaw17), (nd.1, sty))))))))) from rfl, hmid, List.drop_zero, hC1]
            have hsp := hget p hp
            have hlen : (((List.length sty) : Int) != 19) = false := by rw [hslen]; rfl
            have hsg : getI sty (p : Int) = some (valF s.2 p (nd.1 :: t)) := by rw [getI_nat]; exact hsp
            simp only [Option.bind_some, hlen, cond_false, hsg, bne_self_eq_false, wrap_nat (show p < 9223372036854775807 by omega)]
          · simp only [show decide (((19 : Nat) : Int) < 19) = false from rfl, cond_false]
      · simp only [Int.lt_irrefl, decide_false, cond_false]
end Go.Tr
