/- A part of the proof: LkA, LkB, LkO, LkW, LkStyles, LkChecks. -/
import Derived.Test.YtlfkabehppdohaaGreatLsC
set_option linter.unusedVariables false
set_option linter.unusedSimpArgs false
namespace Go.Tr
open Go Go.Dv Go.Ky
def tab : List Int := (List.range 19).map fun p : Nat => prDef (p : Int)
def belF (x : List Int) : List Int := (List.range 19).map fun p : Nat => if prGo (p : Int) = true then x.getD p 0 else prDef (p : Int)
def stepF (l : List Rg) (x : List Int) : List Int := (List.range 19).map fun p : Nat => match glook rk l (p : Int) with
  | some r => r.2.1
  | none => if prGo (p : Int) = true then x.getD p 0 else prDef (p : Int)
theorem tab_len : tab.length = 19 := rfl
theorem belF_len (x : List Int) : (belF x).length = 19 := by simp [belF]
theorem stepF_len (l : List Rg) (x : List Int) : (stepF l x).length = 19 := by simp [stepF]
def setsF (l : List Rg) (x : List Int) : List Int := l.foldl (fun x r => x.set r.1.toNat r.2.1) x
theorem setsF_len : ∀ (l : List Rg) (x : List Int), (setsF l x).length = x.length
  | [], _ => rfl
  | r :: l, x => by rw [setsF, List.foldl_cons]; exact (setsF_len l _).trans (List.length_set ..)
theorem setsF_get : ∀ (l : List Rg) (x : List Int) (p : Nat), GS rk ilt l → (∀ r ∈ l, 0 ≤ r.1) → p < x.length → (setsF l x)[p]? = some (match glook rk l (p : Int) with
  | some r => r.2.1
  | none => x.getD p 0)
  | [], x, p, _, _, hp => by
    show x[p]? = some (x.getD p 0)
    rw [List.getElem?_eq_getElem hp, List.getD_eq_getElem?_getD, List.getElem?_eq_getElem hp]; rfl
  | r :: l, x, p, hs, h0, hp => by
    have hs' := List.pairwise_cons.1 hs
    rw [setsF, List.foldl_cons]
    have := setsF_get l (x.set r.1.toNat r.2.1) p hs'.2 (fun q hq => h0 q (by simp [hq])) (by simpa using hp)
    rw [setsF] at this
    rw [this, glook]
    have hr0 := h0 r (by simp)
    by_cases e : rk r = (p : Int)
    · have e' : r.1 = (p : Int) := e
      rw [if_pos e]
      have hn : glook rk l (p : Int) = none := by
        cases h : glook rk l (p : Int) with
        | none => rfl
        | some q =>
          have := glook_id h
          have hlt : ilt (rk r) (rk q) := hs'.1 q this.2
          rw [e, this.1] at hlt
          exact absurd hlt (by unfold ilt; omega)
      rw [hn]
      simp [e', List.getD_eq_getElem?_getD, hp]
    · rw [if_neg e]
      have e' : r.1.toNat ≠ p := by
        intro h
        have : r.1 = (p : Int) := by omega
        exact e this
      cases glook rk l (p : Int) with
      | some q => rfl
      | none => simp only [List.getD_eq_getElem?_getD, List.getElem?_set_ne e']
theorem setsF_bel {l : List Rg} (x : List Int) (hs : GS rk ilt l) (h0 : ∀ r ∈ l, 0 ≤ r.1) : setsF l (belF x) = stepF l x := by
  apply List.ext_getElem?
  intro p
  by_cases hp : p < 19
  · rw [setsF_get l _ p hs h0 (by rw [belF_len]; exact hp)]
    have e1 : (belF x).getD p 0 = if prGo (p : Int) = true then x.getD p 0 else prDef (p : Int) := by
      rw [List.getD_eq_getElem?_getD]
      simp only [belF, List.getElem?_map, List.getElem?_range hp, Option.map_some, Option.getD_some]
    rw [e1]
    simp only [stepF, List.getElem?_map, List.getElem?_range hp, Option.map_some]
  · rw [List.getElem?_eq_none (by rw [setsF_len, belF_len]; omega), List.getElem?_eq_none (by rw [stepF_len]; omega)]
theorem prIs_nat {i : Nat} (h : i < 19) : prIs (i : Int) = true := by simp [prIs]; omega
theorem snoc_range {α : Type} (f : Nat → α) (i : Nat) : (List.range i).map f ++ [f i] = (List.range (i + 1)).map f := by rw [List.range_succ, List.map_append]; rfl
theorem room19 {α : Type} {l : List α} {i : Nat} (h : l.length = i) (hi : i ≤ 1000) : room l.length 8 = true := room_small (by omega) (by decide)
theorem Plain_eq : prop_Plain () = some tab := by
  unfold prop_Plain
  rw [iter_run' (inv := fun i : Nat => ((i : Int), (List.range i).map fun p : Nat => prDef (p : Int))) (k := 19) (r := tab)]
  · rfl
  · intro i hi
    have e1 : (i : Int) < 19 := by omega
    simp only [e1, decide_true, cond_true, prop_ruleOf_eq (prIs_nat hi), Option.bind_some, snoc_range (fun p : Nat => prDef (p : Int)), wrap_nat (show i < 9223372036854775807 by omega)]
    rw [room19 (i := i + 1) (by simp) (by omega)]; rfl
  · rfl
def belI (x : List Int) (i : Nat) : List Int := (List.range 19).map fun p : Nat => if p < i ∧ prGo (p : Int) = true then x.getD p 0 else prDef (p : Int)
theorem belI_len (x : List Int) (i : Nat) : (belI x i).length = 19 := by simp [belI]
theorem belI_get (x : List Int) (i p : Nat) (h : p < 19) : (belI x i)[p]? = some (if p < i ∧ prGo (p : Int) = true then x.getD p 0 else prDef (p : Int)) := by
  simp only [belI, List.getElem?_map, List.getElem?_range h, Option.map_some]
theorem belI_succ (x : List Int) (i : Nat) (h : i < 19) : belI x (i + 1) = if prGo (i : Int) = true then (belI x i).set i (x.getD i 0) else belI x i := by
  apply List.ext_getElem?
  intro p
  by_cases hp : p < 19
  · rw [belI_get x _ p hp]
    by_cases hg : prGo (i : Int) = true
    · rw [if_pos hg]
      by_cases e : p = i
      · subst e
        rw [List.getElem?_set_self (by rw [belI_len]; exact hp), if_pos ⟨by omega, hg⟩]
      · rw [List.getElem?_set_ne (Ne.symm e), belI_get x _ p hp]
        have : (p < i + 1 ∧ prGo (p : Int) = true) ↔ (p < i ∧ prGo (p : Int) = true) := by constructor <;> rintro ⟨a, b⟩ <;> exact ⟨by omega, b⟩
        simp only [this]
    · rw [if_neg hg, belI_get x _ p hp]
      have : (p < i + 1 ∧ prGo (p : Int) = true) ↔ (p < i ∧ prGo (p : Int) = true) := by
        constructor
        · rintro ⟨a, b⟩
          refine ⟨?_, b⟩
          have : p ≠ i := by rintro rfl; exact hg b
          omega
        · rintro ⟨a, b⟩; exact ⟨by omega, b⟩
      simp only [this]
  · have h1 : ∀ l : List Int, l.length = 19 → l[p]? = none := fun l hl => List.getElem?_eq_none (by omega)
    rw [h1 _ (belI_len _ _)]
    by_cases hg : prGo (i : Int) = true
    · rw [if_pos hg, h1 _ (by rw [List.length_set, belI_len])]
    · rw [if_neg hg, h1 _ (belI_len _ _)]
theorem belI_end (x : List Int) : belI x 19 = belF x := by
  unfold belI belF
  apply List.map_congr_left
  intro p hp
  have hp := List.mem_range.1 hp
  by_cases h : prGo (p : Int) = true <;> simp [h, hp]
theorem belI_nil (x : List Int) : belI x 0 = tab := by
  unfold belI tab
  apply List.map_congr_left
  intro p hp
  simp
theorem Below_eq (x : List Int) (hx : x.length = 19) : prop_Below x = some (belF x) := by
  unfold prop_Below
  simp only [Plain_eq, Option.bind_some, tab_len]
  rw [iter_run' (inv := fun i : Nat => (((19 : Nat) : Int), ((i : Int), (x, belI x i)))) (k := 19) (r := (x, belF x)) ?_ ?_ (by simp only [belI_nil]; rfl)]
  · rfl
  · intro i hi
    have e1 : (i : Int) < ((19 : Nat) : Int) := by omega
    simp only [e1, decide_true, cond_true, prop_ruleOf_eq (prIs_nat hi), Option.bind_some]
    rw [belI_succ x i hi]
    cases hg : prGo (i : Int) with
    | true =>
      have hxi : getI x (i : Int) = some (x.getD i 0) := by rw [getI_lt x i (by omega), List.getD_eq_getElem?_getD, List.getElem?_eq_getElem (by omega)]; rfl
      simp only [cond_true, hxi, getI_lt (belI x i) i (by rw [belI_len]; exact hi), Option.bind_some, Int.toNat_natCast, if_true, wrap_nat (show i < 9223372036854775807 by omega)]
    | false =>
      simp only [cond_false, Bool.false_eq_true, if_false, wrap_nat (show i < 9223372036854775807 by omega)]
  · rw [belI_end]
    simp only [Int.lt_irrefl, decide_false, cond_false]
structure Gd (s : Tree × List Lk) : Prop where
  srt : Srt s.1.1
  acy : Acy s.1.1
  len : s.1.1.length < 999000
  root : look s.1.1 (0, 0) = none
  ok : OkL s.2
  l : s.2.length < 999000
  r : ∀ id, (regsAt s.2 id).length < 999000
theorem gd_of {st : St} (h : OkS st) (hS : SmS (shp st)) : Gd (shp st) := by
  have n0 := nds0 st.1
  refine ⟨n0.1, n0.2.1, hS.n, root_none h.t, h.l, hS.l, fun id => ?_⟩
  unfold regsAt
  split
  · decide
  · rename_i q hq; exact hS.r q (glook_id hq).2
theorem prOk_is {p v : Int} (h : prOk p v = true) : ∃ i : Nat, p = (i : Int) ∧ i < 19 := by
  simp only [prOk, prIs, Bool.and_eq_true, decide_eq_true_eq] at h
  exact ⟨p.toNat, by omega, by omega⟩
theorem style_eq {s : Tree × List Lk} (g : Gd s) (id : Sp) (x : List Int) (hx : x.length = 19) : look_style (s, (id, x)) = some (stepF (regsAt s.2 id) x) := by
  obtain ⟨h1, h2⟩ := regsAt_ok g.ok id
  have hr := g.r id
  unfold look_style
  simp only [Below_eq x hx, Option.bind_some, Regs_eq id g.ok.srt (show s.2.length < 1000000 by have := g.l; omega)]
  generalize regsAt s.2 id = R at *
  rw [iter_run' (inv := fun i : Nat => (R, (((R.length : Nat) : Int), ((i : Int), (s, (id, (x, setsF (R.take i) (belF x)))))))) (k := R.length) (r := (s, (id, (x, setsF R (belF x)))))]
  · simp only [Option.bind_some]
    rw [setsF_bel x h1 fun r hr => ?_]
    obtain ⟨i, e, _⟩ := prOk_is (h2 r hr).1
    omega
  · intro i hi
    have e1 : (i : Int) < ((R.length : Nat) : Int) := by omega
    obtain ⟨k, e2, e3⟩ := prOk_is (h2 _ (getD_mem hi)).1
    have e4 : getI (setsF (R.take i) (belF x)) ((k : Nat) : Int) = some ((setsF (R.take i) (belF x))[k]'(by rw [setsF_len, belF_len]; exact e3)) := getI_lt _ _ _
    simp only [e1, decide_true, cond_true, getI_D R i hi, Option.bind_some, e2, e4, Int.toNat_natCast, wrap_nat (show i < 9223372036854775807 by omega), take_snoc hi]
    unfold setsF
    rw [List.foldl_append]
    simp only [List.foldl_cons, List.foldl_nil, e2, Int.toNat_natCast]
  · simp only [Int.lt_irrefl, decide_false, cond_false, List.take_length]
end Go.Tr
set_option linter.unusedVariables false
set_option linter.unusedSimpArgs false
namespace Go.Tr
open Go Go.Dv Go.Ky
def styL (lk : List Lk) : List Sp → List Int
  | [] => tab
  | w :: r => stepF (regsAt lk w) (styL lk r)
def wayC (l : List Nd) (id : Sp) : List Sp := (id :: upC l id).dropLast
def valF (lk : List Lk) (p : Nat) : List Sp → Int
  | [] => prDef (p : Int)
  | w :: r => match glook rk (regsAt lk w) (p : Int) with
    | some x => x.2.1
    | none => if prGo (p : Int) = true then valF lk p r else prDef (p : Int)
end Go.Tr
set_option linter.unusedVariables false
set_option linter.unusedSimpArgs false
namespace Go.Tr
open Go Go.Dv Go.Ky
def shownK (lk : List Lk) (x : List Int) (k : Nd) : Bool := (stepF (regsAt lk k.1) x).getD 0 0 != 2
def vis (l : List Nd) (lk : List Lk) (id : Sp) (x : List Int) : List Nd := (kidsC l id).filter (shownK lk x)
def boxN (l : List Nd) (lk : List Lk) : Nat → Sp → List Int → Rose (Sp × List Int)
  | 0, id, x => .mk (id, x) []
  | n + 1, id, x => .mk (id, x) ((vis l lk id x).map fun k => boxN l lk n k.1 (stepF (regsAt lk k.1) x))
def preN (l : List Nd) (lk : List Lk) : Nat → Sp → List Int → List Sp
  | 0, id, x => [id]
  | n + 1, id, x => id :: (vis l lk id x).flatMap fun k => preN l lk n k.1 (stepF (regsAt lk k.1) x)
def Chn (l : List Nd) : Sp → List Sp → Sp → Prop
  | m, [], id => m = id
  | m, a :: c, id => a = m ∧ ∃ p, par l m = some p ∧ Chn l p c id
def Sh (lk : List Lk) (w : List Sp) : List Sp → Prop
  | [] => True
  | a :: c => (styL lk (a :: c ++ w)).getD 0 0 ≠ 2 ∧ Sh lk w c
end Go.Tr
set_option linter.unusedVariables false
set_option linter.unusedSimpArgs false
namespace Go.Tr
open Go Go.Dv Go.Ky
theorem style_v : look_style_v = look_style := rfl
theorem plain_v : prop_Plain_v = prop_Plain := rfl
theorem rose_eta {α : Type} (r : Rose α) : Rose.mk (Rose.val r) (Rose.kids r) = r := by cases r; rfl
theorem mono_box : Mono look_box_b := by
  intro F F' hF x
  unfold look_box_b
  exact up_cond (up_refl _) (up_bind (up_refl _) fun _ => up_bind (up_iter (fun s => up_cond (up_bind (up_refl _) fun _ => up_bind (up_refl _) fun _ => up_bind (up_refl _) fun _ => up_cond (up_bind (hF _) fun _ => up_refl _) (up_refl _)) (up_refl _)) _) fun _ => up_refl _)
theorem box_fix {s : Tree × List Lk} (g : Gd s) : ∀ (n : Nat) (id : Sp) (x : List Int), n < 1000 → x.length = 19 → fixN look_box_b (n + 1) (s, (id, (x, ((n + 1 : Nat) : Int)))) = some (boxN s.1.1 s.2 n id x)
  | 0, id, x, _, hx => by
    rw [fixN, look_box_b]
    simp only [show ((((0 + 1 : Nat) : Int)) == 1) = true from rfl, cond_true, boxN]
  | n + 1, id, x, hn, hx => by
    have hsm : Sm s.1.1 := show s.1.1.length < 1000000 by have := g.len; omega
    have hkl := kids_len s.1.1 id
    have hl := g.len
    have ih := fun k y hy => box_fix g n k y (by omega) hy
    have e0 : ((((n + 1 + 1 : Nat) : Int)) == 1) = false := by rw [beq_eq_false_iff_ne]; omega
    rw [fixN, look_box_b]
    simp only [e0, cond_false, Children_eq s.1 id hsm, Option.bind_some, kidsC_eq id g.srt, style_v]
    rw [kidsC_eq id g.srt] at hkl
    simp only [boxN, vis]
    generalize kidsC s.1.1 id = K at *
    let A : Nat → List (Rose (Sp × List Int)) := fun i => ((K.take i).filter (shownK s.2 x)).map fun k => boxN s.1.1 s.2 n k.1 (stepF (regsAt s.2 k.1) x)
    rw [iter_run' (inv := fun i : Nat => (((n + 1 + 1 : Nat) : Int), (K, (((K.length : Nat) : Int), ((i : Int), (s, (id, (x, ((0 : Int), ((0 : Int), (id.1, (id.2, (x, A i))))))))))))) (k := K.length) (r := (s, (id, (x, ((0 : Int), ((0 : Int), (id.1, (id.2, (x, A K.length))))))))) ?_ ?_ (by simp [A])]
    · simp only [Option.bind_some, A, List.take_length]
    · intro i hi
      have e1 : (i : Int) < ((K.length : Nat) : Int) := by omega
      have e2 : IntKind.wrap .i64 (((n + 1 + 1 : Nat) : Int) - 1) = ((n + 1 : Nat) : Int) := by rw [Go.Dv.wrap_small] <;> omega
      have hy := stepF_len (regsAt s.2 (K.getD i default).1) x
      have e3 : getI (stepF (regsAt s.2 (K.getD i default).1) x) 0 = some ((stepF (regsAt s.2 (K.getD i default).1) x).getD 0 0) := by
        rw [show (0 : Int) = ((0 : Nat) : Int) from rfl, getI_lt _ 0 (by omega), List.getD_eq_getElem?_getD, List.getElem?_eq_getElem (by omega)]; rfl
      have hA : A (i + 1) = if shownK s.2 x (K.getD i default) = true then A i ++ [boxN s.1.1 s.2 n (K.getD i default).1 (stepF (regsAt s.2 (K.getD i default).1) x)] else A i := by
        simp only [A, take_snoc hi, List.filter_append, List.map_append]
        generalize K.getD i default = q
        by_cases h : shownK s.2 x q = true
        · rw [if_pos h, List.filter_cons_of_pos h]; rfl
        · rw [if_neg h, List.filter_cons_of_neg h]; simp
      have hAl : (A i).length ≤ i := by
        simp only [A, List.length_map]
        exact Nat.le_trans (List.length_filter_le _ _) (by simp; omega)
      simp only [e1, decide_true, cond_true, getI_D K i hi, Option.bind_some, style_eq g _ x hx, e3, e2, hA, wrap_nat (show i < 9223372036854775807 by omega), rose_eta]
      have hsh : ((stepF (regsAt s.2 (K.getD i default).1) x).getD 0 0 != 2) = shownK s.2 x (K.getD i default) := rfl
      rw [hsh]
      cases shownK s.2 x (K.getD i default) with
      | false => rfl
      | true =>
        simp only [cond_true, ih _ _ hy, Option.bind_some, if_true, rose_eta]
        rw [show room (List.length (A i ++ [boxN s.1.1 s.2 n (K.getD i default).1 (stepF (regsAt s.2 (K.getD i default).1) x)])) 64 = true from room_small (by simp only [List.length_append, List.length_cons, List.length_nil]; omega) (by decide)]
        rfl
    · simp only [Int.lt_irrefl, decide_false, cond_false]
theorem All_eq {s : Tree × List Lk} (g : Gd s) : look_All s = some (boxN s.1.1 s.2 12 (0, 0) tab) := by
  unfold look_All
  have h := fixO_is mono_box (box_fix g 12 (0, 0) tab (by decide) tab_len)
  have e : look_box (s, ((stamp_Root ()), (tab, (13 : Int)))) = some (boxN s.1.1 s.2 12 (0, 0) tab) := h
  rw [plain_v, Plain_eq]
  simp only [Option.bind_some, e, rose_eta]
theorem Boxes_eq {s : Tree × List Lk} (g : Gd s) (hS : SmS s) (hB : shpB s = true) : look_Boxes s = some (boxN s.1.1 s.2 12 (0, 0) tab, 0) := by
  unfold look_Boxes
  simp only [IsShape_eq s hS, hB, Option.bind_some, Bool.not_true, cond_false, All_eq g, rose_eta]
theorem rApply0 : arrasref16_Apply ((([], []) : Tree), arraslaw10_O ()) = some (made [arraslaw10_O ()], true) := by
  unfold arrasref16_Apply
  rw [Moves_eq _ (by decide)]
  simp only [Option.bind_some, List.map_nil]
  rw [iter_inr (r := .inl ([], (false, (([], []), (arraslaw10_O (), ([], [])))))) (by rfl)]
  simp only [Option.bind_some, Bool.not_false, cond_true, List.nil_append]
  rw [Made_eq _ (by decide) (by intro o ho; rw [List.mem_singleton.1 ho]; show List.length _ < _; simp [arraslaw10_O])]
  rfl
theorem wakes18_eq : arraslaw18_wakes () = some true := by
  have ho : OkS ([arraslaw10_O ()], []) := by
    have := putS_ok oks_nil O_op (show clash ([], []) (arraslaw10_O ()) = false from rfl)
    exact this
  have hS := sms_shp ho (by decide) (by decide)
  have g := gd_of ho hS
  have hs0 : SmS ((([], []), []) : Tree × List Lk) := ⟨by decide, by decide, by simp, by decide, by simp⟩
  have hD : arrasref16_Does ((([], []), []) , arraslaw10_O ()) = some (shp ([arraslaw10_O ()], []), true) := by
    unfold arrasref16_Does
    have hk : ((arraslaw10_O ()).2.2.2.1 == 1) = true := rfl
    have hct : arrasref0_CopyTree (made [arraslaw10_O ()]) = some (made [arraslaw10_O ()]) := CopyTree_eq _ (show List.length _ < _ by rw [made_O]; decide) (show List.length _ < _ by show (ens [] [arraslaw10_O ()]).length < _; rw [ens_len]; decide) (ok_deps (l := []) ho.t)
    simp only [CopyShape_eq _ hs0, Option.bind_some, hk, cond_true, rApply0, hct]
    rfl
  unfold arraslaw18_wakes
  rw [show ((([], []), []) : Shape) = ((([], []), []) : Tree × List Lk) from rfl, hD]
  simp only [Option.bind_some, Boxes_eq g hS (shpB_iff.2 ⟨_, ho, rfl⟩)]
  have hk : kidsC (shp ([arraslaw10_O ()], [])).1.1 ((0, 0) : Sp) = [(((1 : Int), (0 : Int)), ((0 : Int), (0 : Int)), (ByteArray.mk ([107]).toArray))] := by
    show kidsC (made [arraslaw10_O ()]).1 ((0, 0) : Sp) = _
    rw [made_O]; simp [kidsC, insK, posK]
  have hb : boxN (shp ([arraslaw10_O ()], [])).1.1 (shp ([arraslaw10_O ()], [])).2 12 (0, 0) tab = .mk ((0, 0), tab) [boxN (shp ([arraslaw10_O ()], [])).1.1 (shp ([arraslaw10_O ()], [])).2 11 (1, 0) (stepF [] tab)] := by
    rw [boxN]
    simp only [vis, hk]
    rfl
  rw [hb]
  rfl
end Go.Tr
set_option linter.unusedVariables false
set_option linter.unusedSimpArgs false
namespace Go.Tr
open Go Go.Dv Go.Ky
theorem num18_eq (e : Int) : arraslaw18_num e = e := rfl
end Go.Tr
set_option linter.unusedVariables false
set_option linter.unusedSimpArgs false
namespace Go.Tr
open Go Go.Dv Go.Ky
abbrev Bo : Type := Rose (Sp × List Int)
instance inhBo : Inhabited Bo := ⟨.mk default []⟩
abbrev Rb (b : Bo) : Prop := RAll (fun a : Sp × List Int => a.2.length ≤ 140737488355328) b
theorem rall_mono {α : Type} {p q : α → Prop} (h : ∀ a, p a → q a) {b : Rose α} (hb : RAll p b) : RAll q b := by
  induction hb with
  | mk h1 hl _ ih => exact .mk (h _ h1) hl ih
theorem rall_parts {α : Type} {p : α → Prop} {b : Rose α} (h : RAll p b) : p (Rose.val b) ∧ (Rose.kids b).length ≤ 140737488355328 ∧ ∀ k ∈ Rose.kids b, RAll p k := by
  cases h with
  | mk h1 hl hk => exact ⟨h1, hl, hk⟩
theorem alln_loop {σ ρ : Type} {n : Nat} {P : Nat → Bool} {f : σ → Option (σ ⊕ ρ)} (inv : Nat → σ) (yes no : ρ)
    (h1 : ∀ k, k < n → P k = true → f (inv k) = some (.inl (inv (k + 1)))) (h2 : ∀ k, k < n → P k = false → f (inv k) = some (.inr no)) (h3 : f (inv n) = some (.inr yes)) : ∀ (d k : Nat), n - k = d → k ≤ n → iter f (inv k) = some (if (∀ m, m < n → k ≤ m → P m = true) then yes else no)
  | 0, k, hd, hk => by
    obtain rfl : k = n := by omega
    rw [iter_inr h3, if_pos (fun m (h1 : m < k) h2 => by omega)]
  | d + 1, k, hd, hk => by
    have hk' : k < n := by omega
    cases hP : P k with
    | false => rw [iter_inr (h2 k hk' hP), if_neg (fun h => by rw [h k hk' (Nat.le_refl _)] at hP; cases hP)]
    | true =>
      rw [iter_inl (h1 k hk' hP), alln_loop inv yes no h1 h2 h3 d (k + 1) (by omega) (by omega)]
      have : (∀ m, m < n → k + 1 ≤ m → P m = true) ↔ (∀ m, m < n → k ≤ m → P m = true) := by
        constructor
        · intro h m hmn hm
          by_cases e : m = k
          · rw [e]; exact hP
          · exact h m hmn (by omega)
        · intro h m hmn hm
          exact h m hmn (by omega)
      simp only [this]
def whB (x : List Int) : Bool := decide (x.length = 19) && (List.range 19).all fun m : Nat => prOk (m : Int) (x.getD m 0)
theorem allR {n : Nat} {P : Nat → Bool} : (∀ m, m < n → 0 ≤ m → P m = true) ↔ (List.range n).all P = true := by
  rw [List.all_eq_true]
  exact ⟨fun h m hm => h m (List.mem_range.1 hm) (Nat.zero_le _), fun h m hm _ => h m (List.mem_range.2 hm)⟩
theorem getD0 {x : List Int} {i : Nat} (h : i < x.length) : getI x (i : Int) = some (x.getD i 0) := by
  rw [getI_lt x i h, List.getD_eq_getElem?_getD, List.getElem?_eq_getElem h]; rfl
theorem Whole_eq (x : List Int) (h : x.length ≤ 140737488355328) : prop_Whole x = some (whB x) := by
  unfold prop_Whole
  rw [show (((0 : Int), x) : Int × List Int) = (((0 : Nat) : Int), x) from rfl, alln_loop (n := x.length) (P := fun m => prOk ((m : Nat) : Int) (x.getD m 0)) (inv := fun i : Nat => ((i : Int), x)) (yes := (((x.length : Nat) : Int) == 19)) (no := false) ?_ ?_ ?_ x.length 0 (by omega) (by omega)]
  · simp only [Option.bind_some]
    congr 1
    unfold whB
    by_cases hl : x.length = 19
    · rw [hl]
      simp only [allR]
      cases (List.range 19).all fun m : Nat => prOk (m : Int) (x.getD m 0) <;> rfl
    · have e : (((x.length : Nat) : Int) == 19) = false := beq_eq_false_iff_ne.2 (by omega)
      rw [e, decide_eq_false hl]
      split <;> rfl
  · intro k hk hp
    have e : (((k : Nat) : Int) == ((x.length : Nat) : Int)) = false := beq_eq_false_iff_ne.2 (by omega)
    simp only [e, cond_false, getD0 hk, Option.bind_some, prop_May_eq, hp, cond_true, wrap_nat (show k < 9223372036854775807 by omega)]
  · intro k hk hp
    have e : (((k : Nat) : Int) == ((x.length : Nat) : Int)) = false := beq_eq_false_iff_ne.2 (by omega)
    simp only [e, cond_false, getD0 hk, Option.bind_some, prop_May_eq, hp]
  · simp only [beq_self_eq_true, cond_true]
theorem rAll_eq (x : List Int) : arrasref8_All x = some (whB x) := by
  unfold arrasref8_All whB
  by_cases hl : x.length = 19
  · have e : (((x.length : Nat) : Int) != 19) = false := by rw [hl]; rfl
    simp only [e, cond_false]
    rw [show (((0 : Int), x) : Int × List Int) = (((0 : Nat) : Int), x) from rfl, alln_loop (n := 19) (P := fun m => prOk ((m : Nat) : Int) (x.getD m 0)) (inv := fun i : Nat => ((i : Int), x)) (yes := .inl x) (no := .inr false) ?_ ?_ ?_ 19 0 (by omega) (by omega)]
    · rw [decide_eq_true hl]
      simp only [allR]
      cases (List.range 19).all fun m : Nat => prOk (m : Int) (x.getD m 0) <;> rfl
    · intro k hk hp
      have e1 : ((k : Nat) : Int) < 19 := by omega
      have e2 : (ckP ((k : Nat) : Int) (x.getD k 0) != 0) = false := by rw [bne, ckP_ok, hp]; rfl
      simp only [e1, decide_true, cond_true, getD0 (show k < x.length by omega), Option.bind_some, ref_Check_eq, e2, cond_false, wrap_nat (show k < 9223372036854775807 by omega)]
    · intro k hk hp
      have e1 : ((k : Nat) : Int) < 19 := by omega
      have e2 : (ckP ((k : Nat) : Int) (x.getD k 0) != 0) = true := by rw [bne, ckP_ok, hp]; rfl
      simp only [e1, decide_true, cond_true, getD0 (show k < x.length by omega), Option.bind_some, ref_Check_eq, e2]
    · rfl
  · have e : (((x.length : Nat) : Int) != 19) = true := by rw [bne, beq_eq_false_iff_ne.2 (by omega)]; rfl
    simp only [e, cond_true, decide_eq_false hl, Bool.false_and]
def okN : Nat → Bo → Bool
  | 0, _ => false
  | n + 1, b => whB (Rose.val b).2 && (Rose.kids b).all (okN n)
def cntN : Nat → Bo → Nat
  | 0, _ => 0
  | n + 1, b => 1 + ((Rose.kids b).map (cntN n)).sum
theorem mono_count : Mono look_count_b := by
  intro F F' hF x
  unfold look_count_b
  exact up_bind (up_refl _) fun _ => up_cond (up_refl _) (up_bind (up_iter (fun s => up_cond (up_bind (up_refl _) fun _ => up_bind (hF _) fun _ => up_refl _) (up_refl _)) _) fun _ => up_refl _)
theorem mono_fine : Mono arrasref18_fine_b := by
  intro F F' hF x
  unfold arrasref18_fine_b
  exact up_bind (up_refl _) fun _ => up_cond (up_refl _) (up_bind (up_iter (fun s => up_cond (up_bind (up_refl _) fun _ => up_bind (hF _) fun _ => up_refl _) (up_refl _)) _) fun _ => up_refl _)
theorem mono_rcount : Mono arrasref18_Count_b := by
  intro F F' hF x
  unfold arrasref18_Count_b
  exact up_bind (up_iter (fun s => up_cond (up_bind (up_refl _) fun _ => up_bind (hF _) fun _ => up_refl _) (up_refl _)) _) fun _ => up_refl _
theorem mono_weight : Mono arraslaw0_BoxWeight_b := by
  intro F F' hF x
  unfold arraslaw0_BoxWeight_b
  exact up_bind (up_iter (fun s => up_cond (up_bind (up_refl _) fun _ => up_bind (hF _) fun _ => up_refl _) (up_refl _)) _) fun _ => up_refl _
theorem sum_loop {σ ρ : Type} {K : List Bo} {ok : Bo → Bool} {cnt : Bo → Nat} {L : Int} {f : σ → Option (σ ⊕ ρ)} (inv : Nat → Nat → σ) (yes : Nat → ρ) (no : ρ)
    (h1 : ∀ a i : Nat, i < K.length → (a : Int) ≤ L → ok (K.getD i default) = true → ((a + cnt (K.getD i default) : Nat) : Int) ≤ L → f (inv a i) = some (.inl (inv (a + cnt (K.getD i default)) (i + 1))))
    (h2 : ∀ a i : Nat, i < K.length → (a : Int) ≤ L → ¬ (ok (K.getD i default) = true ∧ ((a + cnt (K.getD i default) : Nat) : Int) ≤ L) → f (inv a i) = some (.inr no))
    (h3 : ∀ a : Nat, (a : Int) ≤ L → f (inv a K.length) = some (.inr (yes a))) : ∀ (d a i : Nat), K.length - i = d → i ≤ K.length → (a : Int) ≤ L → iter f (inv a i) = some (if (K.drop i).all ok = true ∧ ((a + ((K.drop i).map cnt).sum : Nat) : Int) ≤ L then yes (a + ((K.drop i).map cnt).sum) else no)
  | 0, a, i, hd, hi, ha => by
    obtain rfl : i = K.length := by omega
    rw [iter_inr (h3 a ha), List.drop_length]
    simp [ha]
  | d + 1, a, i, hd, hi, ha => by
    have hi' : i < K.length := by omega
    have e : K.drop i = K.getD i default :: K.drop (i + 1) := by
      rw [List.drop_eq_getElem_cons hi', List.getD_eq_getElem?_getD, List.getElem?_eq_getElem hi']; rfl
    rw [e, List.all_cons, List.map_cons, List.sum_cons]
    by_cases hc : ok (K.getD i default) = true ∧ ((a + cnt (K.getD i default) : Nat) : Int) ≤ L
    · rw [iter_inl (h1 a i hi' ha hc.1 hc.2), sum_loop inv yes no h1 h2 h3 d _ (i + 1) (by omega) (by omega) hc.2, hc.1, Bool.true_and, Nat.add_assoc]
    · rw [iter_inr (h2 a i hi' ha hc), if_neg]
      rintro ⟨g1, g2⟩
      rw [Bool.and_eq_true] at g1
      exact hc ⟨g1.1, by omega⟩
theorem count_fix : ∀ (n : Nat) (b : Bo) (L : Int), n ≤ 13 → L ≤ 1000 → -1000 ≤ L → Rb b → fixN look_count_b (n + 1) (b, ((n : Int), L)) = some (if okN n b = true ∧ ((cntN n b : Nat) : Int) ≤ L then ((cntN n b : Nat) : Int) else -1)
  | 0, b, L, _, _, _, _ => by
    rw [fixN, look_count_b]
    simp only [show ((((0 : Nat) : Int)) == 0) = true from rfl, cond_true, Option.bind_some, okN, Bool.false_eq_true, false_and, if_false]
  | n + 1, b, L, hn, hL, hL2, hR => by
    obtain ⟨r1, r2, r3⟩ := rall_parts hR
    have e0 : ((((n + 1 : Nat) : Int)) == 0) = false := beq_eq_false_iff_ne.2 (by omega)
    rw [fixN, look_count_b]
    simp only [e0, cond_false, rose_eta]
    by_cases hlt : L < 1
    · have : ¬ (okN (n + 1) b = true ∧ ((cntN (n + 1) b : Nat) : Int) ≤ L) := by rintro ⟨_, h⟩; simp only [cntN] at h; omega
      simp only [hlt, decide_true, cond_true, Option.bind_some, if_neg this]
    · simp only [hlt, decide_false, cond_false, Whole_eq _ r1, Option.bind_some]
      cases hw : whB (Rose.val b).2 with
      | false => simp [okN, hw]
      | true =>
        simp only [Bool.not_true, cond_false]
        have ih := fun k hk L' h1 h2 => count_fix n k L' (by omega) h1 h2 (r3 k hk)
        rw [show ((b, ((((n + 1 : Nat) : Int)), (L, ((1 : Int), (((List.length (Rose.kids b)) : Int), (0 : Int)))))) : Bo × (Int × Go.Dv.Reg)) = (b, ((((n + 1 : Nat) : Int)), (L, (((1 : Nat) : Int), (((List.length (Rose.kids b)) : Int), ((0 : Nat) : Int)))))) from rfl,
          sum_loop (K := Rose.kids b) (ok := okN n) (cnt := cntN n) (L := L) (inv := fun a i => ((b, ((((n + 1 : Nat) : Int)), (L, ((a : Int), (((List.length (Rose.kids b)) : Int), ((i : Nat) : Int)))))) : Bo × (Int × Go.Dv.Reg))) (yes := fun a => .inl (a : Int)) (no := .inr (-1)) ?_ ?_ ?_ (Rose.kids b).length 1 0 (by omega) (by omega) (by omega)]
        · simp only [List.drop_zero, Option.bind_some]
          have : (okN (n + 1) b = true ∧ ((cntN (n + 1) b : Nat) : Int) ≤ L) ↔ ((Rose.kids b).all (okN n) = true ∧ ((1 + ((Rose.kids b).map (cntN n)).sum : Nat) : Int) ≤ L) := by simp only [okN, hw, Bool.true_and, cntN]
          by_cases hc : (Rose.kids b).all (okN n) = true ∧ ((1 + ((Rose.kids b).map (cntN n)).sum : Nat) : Int) ≤ L
          · rw [if_pos hc, if_pos (this.2 hc)]; rfl
          · rw [if_neg hc, if_neg (fun h => hc (this.1 h))]
        · intro a i hi ha hok hle
          have e1 : ((i : Nat) : Int) < (((List.length (Rose.kids b)) : Nat) : Int) := by omega
          have e2 : IntKind.wrap .i64 (((n + 1 : Nat) : Int) - 1) = ((n : Nat) : Int) := by rw [Go.Dv.wrap_small] <;> omega
          have e3 : IntKind.wrap .i64 (L - (a : Int)) = L - (a : Int) := by rw [Go.Dv.wrap_small] <;> omega
          have e4 := ih _ (getD_mem hi) (L - (a : Int)) (by omega) (by omega)
          rw [if_pos ⟨hok, by omega⟩] at e4
          have e5 : ¬ ((cntN n ((Rose.kids b).getD i default) : Nat) : Int) < 0 := by omega
          have e6 : IntKind.wrap .i64 ((a : Int) + ((cntN n ((Rose.kids b).getD i default) : Nat) : Int)) = ((a + cntN n ((Rose.kids b).getD i default) : Nat) : Int) := by rw [Go.Dv.wrap_small] <;> omega
          simp only [e1, decide_true, cond_true, getI_D _ i hi, Option.bind_some, rose_eta, e2, e3, e4, e5, decide_false, cond_false, e6, wrap_nat (show i < 9223372036854775807 by omega)]
        · intro a i hi ha hc
          have e1 : ((i : Nat) : Int) < (((List.length (Rose.kids b)) : Nat) : Int) := by omega
          have e2 : IntKind.wrap .i64 (((n + 1 : Nat) : Int) - 1) = ((n : Nat) : Int) := by rw [Go.Dv.wrap_small] <;> omega
          have e3 : IntKind.wrap .i64 (L - (a : Int)) = L - (a : Int) := by rw [Go.Dv.wrap_small] <;> omega
          have e4 := ih _ (getD_mem hi) (L - (a : Int)) (by omega) (by omega)
          rw [if_neg (fun h => hc ⟨h.1, by omega⟩)] at e4
          simp only [e1, decide_true, cond_true, getI_D _ i hi, Option.bind_some, rose_eta, e2, e3, e4, show decide ((-1 : Int) < 0) = true from rfl]
        · intro a ha
          simp only [Int.lt_irrefl, decide_false, cond_false]
theorem fine_fix : ∀ (n : Nat) (b : Bo), n ≤ 13 → Rb b → fixN arrasref18_fine_b (n + 1) (b, ((13 - n : Nat) : Int)) = some (okN n b)
  | 0, b, _, hR => by
    rw [fixN, arrasref18_fine_b]
    simp only [rAll_eq, Option.bind_some, okN]
    cases whB (Rose.val b).2 <;> rfl
  | n + 1, b, hn, hR => by
    obtain ⟨r1, r2, r3⟩ := rall_parts hR
    have e0 : ¬ (12 : Int) < ((13 - (n + 1) : Nat) : Int) := by omega
    rw [fixN, arrasref18_fine_b]
    simp only [rAll_eq, Option.bind_some, okN, rose_eta]
    cases hw : whB (Rose.val b).2 with
    | false => rfl
    | true =>
      have ih := fun k hk => fine_fix n k (by omega) (r3 k hk)
      simp only [Bool.not_true, cond_false, e0, decide_false, Option.bind_some, Bool.true_and]
      rw [show ((((13 - (n + 1) : Nat) : Int), ((0 : Int), b)) : Int × (Int × Bo)) = (((13 - (n + 1) : Nat) : Int), (((0 : Nat) : Int), b)) from rfl,
        alln_loop (n := (Rose.kids b).length) (P := fun m => okN n ((Rose.kids b).getD m default)) (inv := fun i : Nat => ((((13 - (n + 1) : Nat) : Int), ((i : Int), b)) : Int × (Int × Bo))) (yes := .inl b) (no := .inr false) ?_ ?_ ?_ (Rose.kids b).length 0 (by omega) (by omega)]
      · simp only [Option.bind_some]
        have : (∀ m, m < (Rose.kids b).length → 0 ≤ m → okN n ((Rose.kids b).getD m default) = true) ↔ (Rose.kids b).all (okN n) = true := by
          rw [List.all_eq_true]
          constructor
          · intro h k hk
            obtain ⟨m, hm, rfl⟩ := List.mem_iff_getElem.1 hk
            have := h m hm (Nat.zero_le _)
            rwa [List.getD_eq_getElem?_getD, List.getElem?_eq_getElem hm] at this
          · intro h m hm _
            exact h _ (getD_mem hm)
        simp only [this]
        cases (Rose.kids b).all (okN n) <;> rfl
      · intro i hi hp
        have e1 : ((i : Nat) : Int) < (((List.length (Rose.kids b)) : Nat) : Int) := by omega
        have e2 : IntKind.wrap .i64 (((13 - (n + 1) : Nat) : Int) + 1) = ((13 - n : Nat) : Int) := by rw [Go.Dv.wrap_small] <;> omega
        simp only [e1, decide_true, cond_true, getI_D _ i hi, Option.bind_some, rose_eta, e2, ih _ (getD_mem hi), hp, Bool.not_true, cond_false, wrap_nat (show i < 9223372036854775807 by omega)]
      · intro i hi hp
        have e1 : ((i : Nat) : Int) < (((List.length (Rose.kids b)) : Nat) : Int) := by omega
        have e2 : IntKind.wrap .i64 (((13 - (n + 1) : Nat) : Int) + 1) = ((13 - n : Nat) : Int) := by rw [Go.Dv.wrap_small] <;> omega
        simp only [e1, decide_true, cond_true, getI_D _ i hi, Option.bind_some, rose_eta, e2, ih _ (getD_mem hi), hp, Bool.not_false]
      · simp only [Int.lt_irrefl, decide_false, cond_false, rose_eta]
theorem sum_take {K : List Bo} {g : Bo → Nat} {i : Nat} (h : i < K.length) : ((K.take (i + 1)).map g).sum = ((K.take i).map g).sum + g (K.getD i default) := by
  rw [take_snoc h, List.map_append, List.sum_append]; simp
theorem sum_take_le {K : List Bo} {g : Bo → Nat} (i : Nat) : ((K.take i).map g).sum ≤ (K.map g).sum := by
  have : (K.map g).sum = ((K.take i).map g).sum + ((K.drop i).map g).sum := by rw [← List.sum_append, ← List.map_append, List.take_append_drop]
  omega
theorem rcount_fix : ∀ (n : Nat) (b : Bo), Rb b → okN n b = true → cntN n b ≤ 1000000 → fixN arrasref18_Count_b n b = some ((cntN n b : Nat) : Int)
  | 0, b, _, h, _ => by simp [okN] at h
  | n + 1, b, hR, hok, hc => by
    obtain ⟨r1, r2, r3⟩ := rall_parts hR
    rw [okN, Bool.and_eq_true, List.all_eq_true] at hok
    rw [cntN] at hc
    have ih := fun k hk h => rcount_fix n k (r3 k hk) (hok.2 k hk) h
    rw [fixN, arrasref18_Count_b, cntN]
    simp only [rose_eta]
    rw [iter_run' (inv := fun i : Nat => (((1 + (((Rose.kids b).take i).map (cntN n)).sum : Nat) : Int), ((i : Int), b))) (k := (Rose.kids b).length) (r := (((1 + ((Rose.kids b).map (cntN n)).sum : Nat) : Int), b))]
    · rfl
    · intro i hi
      have e1 : ((i : Nat) : Int) < (((List.length (Rose.kids b)) : Nat) : Int) := by omega
      have e2 := sum_take (g := cntN n) hi
      have e3 := sum_take_le (K := Rose.kids b) (g := cntN n) (i + 1)
      have e4 : IntKind.wrap .i64 (((1 + (((Rose.kids b).take i).map (cntN n)).sum : Nat) : Int) + ((cntN n ((Rose.kids b).getD i default) : Nat) : Int)) = ((1 + (((Rose.kids b).take (i + 1)).map (cntN n)).sum : Nat) : Int) := by rw [Go.Dv.wrap_small] <;> omega
      simp only [e1, decide_true, cond_true, getI_D _ i hi, Option.bind_some, rose_eta, ih _ (getD_mem hi) (by omega), e4, wrap_nat (show i < 9223372036854775807 by omega)]
    · simp only [Int.lt_irrefl, decide_false, cond_false, List.take_length, rose_eta]
theorem weight_some {b : Bo} (h : Rb b) : ∃ n v, fixN arraslaw0_BoxWeight_b n b = some v := by
  induction h with
  | @mk a l h1 hl hk ih =>
    have hN : ∀ K : List Bo, (∀ k ∈ K, ∃ n v, fixN arraslaw0_BoxWeight_b n k = some v) → ∃ N, ∀ k ∈ K, ∃ v, fixN arraslaw0_BoxWeight_b N k = some v := by
      intro K
      induction K with
      | nil => intro _; exact ⟨0, by simp⟩
      | cons q K ihK =>
        intro hq
        obtain ⟨N, hN⟩ := ihK fun k hk => hq k (by simp [hk])
        obtain ⟨m, v, hm⟩ := hq q (by simp)
        refine ⟨max N m, fun k hk => ?_⟩
        rcases List.mem_cons.1 hk with rfl | hk
        · exact ⟨v, fixN_up mono_weight (Nat.le_max_right N m) _ _ hm⟩
        · obtain ⟨u, hu⟩ := hN k hk
          exact ⟨u, fixN_up mono_weight (Nat.le_max_left N m) _ _ hu⟩
    obtain ⟨N, hN⟩ := hN l ih
    refine ⟨N + 1, ?_⟩
    rw [fixN, arraslaw0_BoxWeight_b]
    simp only [rose_eta]
    have loop : ∀ (d i : Nat) (acc : Int), l.length - i = d → i ≤ l.length → ∃ r : Int × Bo, iter (σ := (Int × (Int × (Rose ((Int × Int) × (List Int)))))) (ρ := (Int × (Rose ((Int × Int) × (List Int))))) (fun s =>
      bif (bif (decide ((s.2.1 < ((List.length (Go.Dv.Rose.kids s.2.2)) : Int)))) then (decide ((s.1 < 1048576))) else false) then (((getI (Go.Dv.Rose.kids s.2.2) s.2.1)).bind fun x1 =>
        ((fixN arraslaw0_BoxWeight_b N x1)).bind fun x2 =>
        some (.inl ((IntKind.wrap .i64 (s.1 + x2)), ((IntKind.wrap .i64 (s.2.1 + 1)), s.2.2)))) else
      some (.inr (s.1, s.2.2))) (acc, ((i : Int), Rose.mk a l)) = some r := by
      intro d
      induction d with
      | zero =>
        intro i acc hd hi
        refine ⟨(acc, Rose.mk a l), iter_inr ?_⟩
        have : ¬ ((i : Nat) : Int) < (((List.length (Rose.kids (Rose.mk a l))) : Nat) : Int) := by show ¬ ((i : Nat) : Int) < ((l.length : Nat) : Int); omega
        simp only [this, decide_false, cond_false]
      | succ d ihd =>
        intro i acc hd hi
        have hi' : i < l.length := by omega
        by_cases hacc : acc < 1048576
        · obtain ⟨v, hv⟩ := hN _ (getD_mem hi')
          obtain ⟨r, hr⟩ := ihd (i + 1) (IntKind.wrap .i64 (acc + v)) (by omega) (by omega)
          refine ⟨r, ?_⟩
          rw [← hr]
          refine iter_inl ?_
          have e1 : ((i : Nat) : Int) < (((List.length (Rose.kids (Rose.mk a l))) : Nat) : Int) := by show ((i : Nat) : Int) < ((l.length : Nat) : Int); omega
          have e2 : getI (Rose.kids (Rose.mk a l)) (i : Int) = some (l.getD i default) := getI_D l i hi'
          simp only [e1, hacc, decide_true, cond_true, e2, Option.bind_some, hv, wrap_nat (show i < 9223372036854775807 by omega)]
        · refine ⟨(acc, Rose.mk a l), iter_inr ?_⟩
          simp only [hacc, decide_false]
          cases decide (((i : Nat) : Int) < (((List.length (Rose.kids (Rose.mk a l))) : Nat) : Int)) <;> rfl
    obtain ⟨r, hr⟩ := loop l.length 0 (IntKind.wrap .i64 (1 + ((List.length (Go.Dv.Rose.val (Rose.mk a l)).2) : Int))) (by omega) (by omega)
    refine ⟨r.1, ?_⟩
    have hr' := hr
    rw [show ((IntKind.wrap .i64 (1 + ((List.length (Go.Dv.Rose.val (Rose.mk a l)).2) : Int)), ((((0 : Nat) : Int)), Rose.mk a l)) : Int × (Int × Bo)) = (IntKind.wrap .i64 (1 + ((List.length (Go.Dv.Rose.val (Rose.mk a l)).2) : Int)), ((0 : Int), Rose.mk a l)) from rfl] at hr'
    rw [hr']; rfl
theorem weight_ok : ∀ (n : Nat) (b : Bo), n ≤ 13 → Rb b → okN n b = true → ∃ v : Nat, fixN arraslaw0_BoxWeight_b n b = some (v : Int) ∧ v ≤ 1048576 * n + 20 ∧ (v < 1048576 → cntN n b ≤ v)
  | 0, b, _, _, h => by simp [okN] at h
  | n + 1, b, hn, hR, hok => by
    obtain ⟨r1, r2, r3⟩ := rall_parts hR
    rw [okN, Bool.and_eq_true, List.all_eq_true] at hok
    have hlen : (Rose.val b).2.length = 19 := by
      have := hok.1
      rw [whB, Bool.and_eq_true, decide_eq_true_eq] at this
      exact this.1
    have ih := fun k hk => weight_ok n k (by omega) (r3 k hk) (hok.2 k hk)
    rw [fixN, arraslaw0_BoxWeight_b, cntN]
    simp only [rose_eta]
    have loop : ∀ (d i acc : Nat), (Rose.kids b).length - i = d → i ≤ (Rose.kids b).length → acc ≤ 1048576 * (n + 1) + 20 → ∃ v : Nat, iter (σ := (Int × (Int × (Rose ((Int × Int) × (List Int)))))) (ρ := (Int × (Rose ((Int × Int) × (List Int))))) (fun s =>
      bif (bif (decide ((s.2.1 < ((List.length (Go.Dv.Rose.kids s.2.2)) : Int)))) then (decide ((s.1 < 1048576))) else false) then (((getI (Go.Dv.Rose.kids s.2.2) s.2.1)).bind fun x1 =>
        ((fixN arraslaw0_BoxWeight_b n x1)).bind fun x2 =>
        some (.inl ((IntKind.wrap .i64 (s.1 + x2)), ((IntKind.wrap .i64 (s.2.1 + 1)), s.2.2)))) else
      some (.inr (s.1, s.2.2))) ((acc : Int), ((i : Int), b)) = some ((v : Int), b) ∧ v ≤ 1048576 * (n + 1) + 20 ∧ (v < 1048576 → acc + (((Rose.kids b).drop i).map (cntN n)).sum ≤ v) := by
      intro d
      induction d with
      | zero =>
        intro i acc hd hi hacc
        obtain rfl : i = (Rose.kids b).length := by omega
        refine ⟨acc, iter_inr ?_, hacc, fun _ => by rw [List.drop_length]; simp⟩
        simp only [Int.lt_irrefl, decide_false, cond_false]
      | succ d ihd =>
        intro i acc hd hi hacc
        have hi' : i < (Rose.kids b).length := by omega
        by_cases hlt : acc < 1048576
        · obtain ⟨w, hw1, hw2, hw3⟩ := ih _ (getD_mem hi')
          obtain ⟨v, g1, g2, g3⟩ := ihd (i + 1) (acc + w) (by omega) (by omega) (by omega)
          refine ⟨v, ?_, g2, fun hv => ?_⟩
          · rw [← g1]
            refine iter_inl ?_
            have e1 : ((i : Nat) : Int) < (((List.length (Rose.kids b)) : Nat) : Int) := by omega
            have e2 : ((acc : Nat) : Int) < 1048576 := by omega
            have e3 : IntKind.wrap .i64 ((acc : Int) + (w : Int)) = ((acc + w : Nat) : Int) := by rw [Go.Dv.wrap_small] <;> omega
            simp only [e1, e2, decide_true, cond_true, getI_D _ i hi', Option.bind_some, hw1, e3, wrap_nat (show i < 9223372036854775807 by omega)]
          · have h3 := g3 hv
            have hsum : (((Rose.kids b).drop i).map (cntN n)).sum = cntN n ((Rose.kids b).getD i default) + (((Rose.kids b).drop (i + 1)).map (cntN n)).sum := by
              rw [List.drop_eq_getElem_cons hi', List.map_cons, List.sum_cons, List.getD_eq_getElem?_getD, List.getElem?_eq_getElem hi']; rfl
            have h4 := hw3 (by omega)
            rw [hsum]; omega
        · refine ⟨acc, iter_inr ?_, hacc, fun h => absurd h hlt⟩
          have e2 : ¬ ((acc : Nat) : Int) < 1048576 := by omega
          simp only [e2, decide_false]
          cases decide (((i : Nat) : Int) < (((List.length (Rose.kids b)) : Nat) : Int)) <;> rfl
    obtain ⟨v, g1, g2, g3⟩ := loop (Rose.kids b).length 0 20 (by omega) (by omega) (by omega)
    have hw : IntKind.wrap .i64 (1 + ((List.length (Go.Dv.Rose.val b).2) : Int)) = ((20 : Nat) : Int) := by rw [hlen]; rfl
    refine ⟨v, ?_, g2, fun h => by have := g3 h; rw [List.drop_zero] at this; omega⟩
    rw [hw, show ((((20 : Nat) : Int), ((0 : Int), b)) : Int × (Int × Bo)) = (((20 : Nat) : Int), (((0 : Nat) : Int), b)) from rfl, g1]; rfl
theorem Many_eq {b : Bo} (h : Rb b) : look_Many b = some (if okN 13 b = true ∧ ((cntN 13 b : Nat) : Int) ≤ 1000 then ((cntN 13 b : Nat) : Int) else -1) := by
  unfold look_Many
  have := fixO_is mono_count (count_fix 13 b 1000 (by omega) (by omega) (by omega) h)
  have e : look_count (b, ((13 : Int), (1000 : Int))) = some (if okN 13 b = true ∧ ((cntN 13 b : Nat) : Int) ≤ 1000 then ((cntN 13 b : Nat) : Int) else -1) := this
  simp only [rose_eta, e, Option.bind_some]
theorem fine_eq {b : Bo} (h : Rb b) : arrasref18_fine (b, (0 : Int)) = some (okN 13 b) := fixO_is mono_fine (fine_fix 13 b (by omega) h)
theorem pure_LookChecks (y : El (.list sBox)) (h : Bnd (.list sBox) y) : arraslaw18_LookChecks y = some true := by
  have hlen : y.length ≤ 140737488355328 := h.1
  have hR : ∀ b ∈ y, Rb b := fun b hb => rall_mono (fun a ha => ha.2.1) (h.2 b hb)
  unfold arraslaw18_LookChecks
  have hstep : ∀ i : Nat, i < y.length → i < 8 → ∃ r, ((fun s : List (Rose ((Int × Int) × (List Int))) × Int =>
      bif (bif (decide ((s.2 < ((List.length s.1) : Int)))) then (decide ((s.2 < 8))) else false) then (((getI s.1 s.2)).bind fun x1 =>
        ((arraslaw0_BoxWeight x1)).bind fun x2 =>
        bif (decide ((10000 < x2))) then some (.inr (.inr true)) else
        ((getI s.1 s.2)).bind fun x3 =>
        ((look_Check x3)).bind fun x4 =>
        ((getI s.1 s.2)).bind fun x5 =>
        ((look_Count x5)).bind fun x6 =>
        ((getI s.1 s.2)).bind fun x7 =>
        ((arrasref18_Box x7)).bind fun x8 =>
        bif (Bool.not x8) then (bif (bif ((arraslaw18_num x4) != 1) then true else (bif ((arraslaw18_num x6.2) != 1) then true else (x6.1 != 0))) then some (.inr (.inr false)) else
          some (.inl (s.1, (IntKind.wrap .i64 (s.2 + 1))))) else
        (bif ((arraslaw18_num x4) != 0) then some true else
          bif ((arraslaw18_num x6.2) != 0) then some true else
          ((getI s.1 s.2)).bind fun x9 =>
          ((arrasref18_Count x9)).bind fun x10 =>
          some (x6.1 != x10)).bind fun x9 =>
        bif x9 then some (.inr (.inr false)) else
        some (.inl (s.1, (IntKind.wrap .i64 (s.2 + 1))))) else
      some (.inr (.inl ())) : List (Rose ((Int × Int) × (List Int))) × Int → Option ((List (Rose ((Int × Int) × (List Int))) × Int) ⊕ (Unit ⊕ Bool))) (y, (i : Int))) = some r ∧ (r = .inl (y, ((i + 1 : Nat) : Int)) ∨ r = .inr (.inr true)) := by
    intro i hi h8
    have e1 : (i : Int) < ((List.length y) : Int) := by omega
    have e2 : (i : Int) < 8 := by omega
    have hg : getI y (i : Int) = some (y.getD i default) := getI_D y i hi
    have hb := hR _ (getD_mem hi)
    generalize y.getD i default = b at *
    obtain ⟨N, v, hv⟩ := weight_some hb
    have hv : arraslaw0_BoxWeight b = some v := fixO_is mono_weight hv
    simp only [e1, e2, decide_true, cond_true, hg, Option.bind_some, hv]
    by_cases hw : (10000 : Int) < v
    · simp only [hw, decide_true, cond_true]
      exact ⟨_, rfl, .inr rfl⟩
    · simp only [hw, decide_false, cond_false]
      refine ⟨_, ?_, .inl rfl⟩
      have hM := Many_eq hb
      unfold look_Check look_Count arrasref18_Box
      simp only [rose_eta, hM, Option.bind_some, fine_eq hb]
      cases hok : okN 13 b with
      | false =>
        simp only [Bool.false_eq_true, false_and, if_false, show decide ((-1 : Int) < 0) = true from rfl, cond_true, cond_false, Option.bind_some, Bool.not_false, num18_eq, bne_self_eq_false, wrap_nat (show i < 9223372036854775807 by omega)]
      | true =>
        obtain ⟨u, hu1, hu2, hu3⟩ := weight_ok 13 b (by omega) hb hok
        have hu1 := fixO_is mono_weight hu1
        have : (u : Int) = v := by
          have h2 : arraslaw0_BoxWeight b = some (u : Int) := hu1
          rw [hv] at h2
          exact (Option.some.inj h2).symm
        have hcnt := hu3 (by omega)
        have hC : arrasref18_Count b = some ((cntN 13 b : Nat) : Int) := fixO_is mono_rcount (rcount_fix 13 b hb hok (by omega))
        simp only [true_and, cond_true, hC, Option.bind_some]
        by_cases hc : ((cntN 13 b : Nat) : Int) ≤ 1000
        · have e3 : ¬ ((cntN 13 b : Nat) : Int) < 0 := by omega
          simp only [hc, if_true, e3, decide_true, decide_false, cond_false, Option.bind_some, Bool.not_true, num18_eq, bne_self_eq_false, wrap_nat (show i < 9223372036854775807 by omega)]
        · simp only [hc, if_false, show decide ((-1 : Int) < 0) = true from rfl, cond_true, decide_false, Option.bind_some, Bool.not_false, num18_eq, bne_self_eq_false, cond_false, wrap_nat (show i < 9223372036854775807 by omega)]
  simp only [rose_eta]
  generalize hf : (fun s : List (Rose ((Int × Int) × (List Int))) × Int =>
      bif (bif (decide ((s.2 < ((List.length s.1) : Int)))) then (decide ((s.2 < 8))) else false) then (((getI s.1 s.2)).bind fun x1 =>
        ((arraslaw0_BoxWeight x1)).bind fun x2 =>
        bif (decide ((10000 < x2))) then some (.inr (.inr true)) else
        ((getI s.1 s.2)).bind fun x3 =>
        ((look_Check x3)).bind fun x4 =>
        ((getI s.1 s.2)).bind fun x5 =>
        ((look_Count x5)).bind fun x6 =>
        ((getI s.1 s.2)).bind fun x7 =>
        ((arrasref18_Box x7)).bind fun x8 =>
        bif (Bool.not x8) then (bif (bif ((arraslaw18_num x4) != 1) then true else (bif ((arraslaw18_num x6.2) != 1) then true else (x6.1 != 0))) then some (.inr (.inr false)) else
          some (.inl (s.1, (IntKind.wrap .i64 (s.2 + 1))))) else
        (bif ((arraslaw18_num x4) != 0) then some true else
          bif ((arraslaw18_num x6.2) != 0) then some true else
          ((getI s.1 s.2)).bind fun x9 =>
          ((arrasref18_Count x9)).bind fun x10 =>
          some (x6.1 != x10)).bind fun x9 =>
        bif x9 then some (.inr (.inr false)) else
        some (.inl (s.1, (IntKind.wrap .i64 (s.2 + 1))))) else
      some (.inr (.inl ())) : List (Rose ((Int × Int) × (List Int))) × Int → Option ((List (Rose ((Int × Int) × (List Int))) × Int) ⊕ (Unit ⊕ Bool))) = f at hstep ⊢
  have hend : ∀ i : Nat, ¬ (i < y.length ∧ i < 8) → f (y, (i : Int)) = some (.inr (.inl ())) := by
    intro i hi
    rw [← hf]
    by_cases h1 : i < y.length
    · have e1 : (i : Int) < ((List.length y) : Int) := by omega
      have e2 : ¬ (i : Int) < 8 := by omega
      simp only [e1, e2, decide_true, decide_false, cond_true, cond_false]
    · have e1 : ¬ (i : Int) < ((List.length y) : Int) := by omega
      simp only [e1, decide_false, cond_false]
  have loop : ∀ (d i : Nat), 8 - i = d → iter f (y, (i : Int)) = some (.inl ()) ∨ iter f (y, (i : Int)) = some (.inr true) := by
    intro d
    induction d with
    | zero => intro i hd; exact .inl (iter_inr (hend i (by omega)))
    | succ d ih =>
      intro i hd
      by_cases hi : i < y.length
      · obtain ⟨r, h1, h2 | h2⟩ := hstep i hi (by omega)
        · subst h2
          rw [iter_inl h1]
          exact ih (i + 1) (by omega)
        · subst h2
          exact .inr (iter_inr h1)
      · exact .inl (iter_inr (hend i (by omega)))
  rw [show ((y, (0 : Int)) : List Bo × Int) = (y, ((0 : Nat) : Int)) from rfl]
  rcases loop 8 0 rfl with h1 | h1
  · rw [h1]; simp only [Option.bind_some, wakes18_eq]
  · rw [h1]; rfl
end Go.Tr
