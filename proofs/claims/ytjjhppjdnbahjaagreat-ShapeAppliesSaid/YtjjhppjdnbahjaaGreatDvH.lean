/- The engine, second storey: what code comes to by types, it comes to (sym_ok). -/
import Derived.Test.YtjjhppjdnbahjaaGreatDvG
import Derived.Test.YtjjhppjdnbahjaaGreatDvD
set_option linter.unusedVariables false
set_option linter.unusedSimpArgs false
namespace Go.Dv

def DC.wf : DC → Prop
  | .seq a b => a.wf ∧ b.wf
  | .cond _ a b => a.wf ∧ b.wf
  | .block _ a => a.wf
  | .fblock _ a => a.wf
  | .loop a => a.wf
  | .scope d cur => cur = d ∧ d.wf
  | _ => True
theorem DC.wf_after {m : Nat} : ∀ {d r : DC}, d.wf → d.after m = some r → r.wf := by
  intro d
  induction d with
  | seq a b iha ihb =>
    intro r h e
    simp only [DC.after] at e
    split at e
    · rename_i r' ha; cases e; exact ⟨iha h.1 ha, h.2⟩
    · exact ihb h.2 e
  | label l =>
    intro r h e
    simp only [DC.after] at e
    split at e
    · cases e; trivial
    · cases e
  | _ => intro r h e; simp [DC.after] at e
theorem DC.wf_before {m : Nat} : ∀ {d : DC}, d.wf → (before m d).wf := by
  intro d
  induction d with
  | seq a b iha ihb =>
    intro h
    simp only [before]
    split
    · exact iha h.1
    · exact ⟨h.1, ihb h.2⟩
  | _ => intro h; simp only [before]; trivial
theorem trCode_wf {P : Program} {esc quiet : List Nat} : ∀ {c : Code} {d : DC}, u0l P esc quiet c = some d → d.wf := by
  intro c
  induction c with
  | seq a b iha ihb =>
    intro d h
    simp only [u0l] at h
    split at h
    · rename_i x y hx hy; cases h; exact ⟨iha hx, ihb hy⟩
    · cases h
  | cond c a b iha ihb =>
    intro d h
    simp only [u0l] at h
    split at h
    · rename_i c' x y hc hx hy; cases h; exact ⟨iha hx, ihb hy⟩
    · cases h
  | block id a ih =>
    intro d h
    simp only [u0l] at h
    split at h <;> (rw [Option.map_eq_some_iff] at h; obtain ⟨x, hx, rfl⟩ := h; exact (ih hx : x.wf))
  | loop a ih => intro d h; simp only [u0l, Option.map_eq_some_iff] at h; obtain ⟨x, hx, rfl⟩ := h; exact (ih hx : x.wf)
  | scope a ih => intro d h; simp only [u0l, Option.map_eq_some_iff] at h; obtain ⟨x, hx, rfl⟩ := h; exact ⟨rfl, ih hx⟩
  | region id ops draw =>
    intro d h
    simp only [u0l] at h
    split at h <;> (rw [Option.map_eq_some_iff] at h; obtain ⟨x, hx, rfl⟩ := h; trivial)
  | rangeFunc _ _ _ _ => intro d h; simp [u0l] at h
  | refuse _ => intro d h; simp [u0l] at h
  | _ => intro d h; simp only [u0l, Option.some.injEq] at h; subst h; trivial

variable {tbl : Table}
theorem before_ok {m : Nat} : ∀ {d a : DC}, d.after m = some a → ∀ l h, ex tbl d l h = match ex tbl (before m d) l h with
    | some (.normal, l', h') => ex tbl a l' h'
    | r => r := by
  intro d
  induction d with
  | seq x y ihx ihy =>
    intro a e l h
    simp only [DC.after] at e
    split at e
    · rename_i r hr
      cases e
      have hb : before m (.seq x y) = before m x := by simp only [before, hr]
      rw [hb, u0z, ihx hr]
      cases hq : ex tbl (before m x) l h with
      | none => rfl
      | some q =>
        obtain ⟨e, l', h'⟩ := q
        cases e with
        | normal => simp only [u0z]
        | _ => rfl
    · rename_i hr
      have hb : before m (.seq x y) = .seq x (before m y) := by simp only [before, hr]
      rw [hb, u0z, u0z]
      cases hq : ex tbl x l h with
      | none => rfl
      | some q =>
        obtain ⟨e', l', h'⟩ := q
        cases e' with
        | normal => exact ihy e l' h'
        | _ => rfl
  | label l' =>
    intro a e l h
    simp only [DC.after] at e
    split at e
    · cases e
      simp only [before, ex_label, u1C]
    · cases e
  | _ => intro a e; simp [DC.after] at e

theorem Ex.same_eq {a b : Ex} (h : Ex.same a b = true) : a = b := by
  cases a <;> cases b <;> simp [Ex.same] at h <;> first
    | rfl
    | (subst h; rfl)
theorem layS_len : ∀ (slots : List (Nat × SG)) (vs l : List SV), (layS slots vs l).length = l.length
  | [], vs, l => by cases vs <;> rfl
  | (n, _) :: r, [], l => rfl
  | (n, _) :: r, v :: vs, l => by simp only [layS]; rw [layS_len r]; simp
theorem enc_len (n : Nat) (t : Tm) (x : St t) : (enc n t x).1.length = n := by
  simp only [enc]; rw [layS_len]; simp

def StepN (n0 : Nat) (X : RX) (h : SH) (dh : Hp) (X' : RX) (h' : SH) (dh' : Hp) : Prop :=
  Step X h dh X' h' dh' ∧ (n0 ≤ X.nb → n0 ≤ X'.nb ∧ ∀ i, i < n0 → X'.bi i = X.bi i ∧ X'.bm i = X.bm i)
theorem StepN.refl (n0 : Nat) (X : RX) (h : SH) (dh : Hp) : StepN n0 X h dh X h dh := ⟨Step.refl X h dh, fun hn => ⟨hn, fun _ _ => ⟨rfl, rfl⟩⟩⟩
theorem StepN.trans {n0 : Nat} {X Y Z : RX} {h k l : SH} {dh dk dl : Hp} (a : StepN n0 X h dh Y k dk) (b : StepN n0 Y k dk Z l dl) : StepN n0 X h dh Z l dl :=
  ⟨a.1.trans b.1, fun hn => ⟨(b.2 (a.2 hn).1).1, fun i hi => ⟨((b.2 (a.2 hn).1).2 i hi).1.trans ((a.2 hn).2 i hi).1, ((b.2 (a.2 hn).1).2 i hi).2.trans ((a.2 hn).2 i hi).2⟩⟩⟩
theorem StepN.of {n0 : Nat} {X Y : RX} {h k : SH} {dh dk : Hp} (a : Step X h dh Y k dk) (b : X.le Y) : StepN n0 X h dh Y k dk :=
  ⟨a, fun hn => ⟨Nat.le_trans hn b.nb, fun i hi => b.b i (Nat.lt_of_lt_of_le hi hn)⟩⟩
structure Rel (n0 : Nat) where
  R : RX → SH → Hp → RX → SH → Hp → Prop
  refl : ∀ X h dh, R X h dh X h dh
  trans : ∀ {X Y Z : RX} {h k l : SH} {dh dk dl : Hp}, R X h dh Y k dk → R Y k dk Z l dl → R X h dh Z l dl
  of : ∀ {X Y : RX} {h k : SH} {dh dk : Hp}, Step X h dh Y k dk → X.le Y → R X h dh Y k dk
  dec : ∀ {X Y : RX} {h k : SH} {dh dk : Hp}, Step X h dh Y k dk → n0 ≤ Y.nb → (∀ i, Y.bi i = X.bi i ∧ Y.bm i = X.bm i) → R X h dh Y k dk
  scr : Bool
  any : scr = true → ∀ X h dh Y k dk, R X h dh Y k dk
def Rel.step (n0 : Nat) : Rel n0 where
  R := StepN n0
  refl := StepN.refl n0
  trans := StepN.trans
  of := StepN.of
  dec a b c := ⟨a, fun _ => ⟨b, fun i _ => c i⟩⟩
  scr := false
  any := fun h => nomatch h
def Rel.all : Rel 0 where
  R := fun _ _ _ _ _ _ => True
  refl := fun _ _ _ => trivial
  trans := fun _ _ => trivial
  of := fun _ _ => trivial
  dec := fun _ _ _ => trivial
  scr := true
  any := fun _ _ _ _ _ _ _ => trivial
def waysN (n0 : Nat) (ws : Ways) : Bool := ws.all fun w => decide (n0 ≤ w.2.boxes.length)
def Ann.holds (n0 : Nat) : Ann → Bool
  | .loop t ws => decide (n0 ≤ t.boxes.length) && waysN n0 ws
  | .cut ws => waysN n0 ws
  | .join _ => true
  | .thaw => true
  | .lab _ t ws => decide (n0 ≤ t.boxes.length) && waysN n0 ws
def AnnsN (n0 : Nat) (an : Anns) : Prop := ∀ p a, an p = some a → a.holds n0 = true
theorem AnnsN.zero {an : Anns} : AnnsN 0 an := by
  intro p a _
  have hw : ∀ ws : Ways, waysN 0 ws = true := fun ws => by simp [waysN]
  cases a <;> simp [Ann.holds, hw]

theorem u5i {n0 : Nat} (Q : Rel n0) {X : RX} {h : SH} {dh : Hp} {l : List SV} {dl : List DV} {t : Tm} {x : St t} (hn : n0 ≤ t.boxes.length) (I : Inv X h dh) (L : RVs X l dl) (e : decT t l h = some x) :
    ∃ Y, Inv Y (enc l.length t x).2 dh ∧ RVs Y (enc l.length t x).1 dl ∧ Q.R X h dh Y (enc l.length t x).2 dh := by
  obtain ⟨Y, y1, y2, y3, y4, y5, y6⟩ := decT_ok I L e
  exact ⟨Y, y1, y2, Q.dec y3 (by rw [y4]; exact hn) fun i => by rw [y5, y6]; exact ⟨rfl, rfl⟩⟩

theorem outW_inW {n0 : Nat} (Q : Rel n0) {n : Nat} {ρ : Type} {k : Ex → List SV → SH → T ρ} {r : ρ} : ∀ {ws : Ways} {e : Ex} {l : List SV} {h : SH} {w : WTy ws} {X : RX} {dh : Hp} {dl : List DV}, waysN n0 ws = true → outW ws e l h = some w → Inv X h dh → RVs X l dl → l.length = n → (inW n k ws w).sem = some r →
    ∃ Y l2 h2, Inv Y h2 dh ∧ RVs Y l2 dl ∧ l2.length = n ∧ Q.R X h dh Y h2 dh ∧ (k e l2 h2).sem = some r
  | [], e, l, h, w, X, dh, dl, _, ho, _, _, _, _ => by simp [outW] at ho
  | w0 :: ws, e, l, h, w, X, dh, dl, hw, ho, I, L, hl, hs => by
    simp only [waysN, List.all_cons, Bool.and_eq_true, decide_eq_true_eq] at hw
    simp only [outW] at ho
    split at ho
    · rename_i hsame
      have := Ex.same_eq hsame
      rw [Option.map_eq_some_iff] at ho
      obtain ⟨x, hx, rfl⟩ := ho
      obtain ⟨Y, y1, y2, y3⟩ := u5i Q hw.1 I L hx
      rw [hl] at y1 y2 y3
      refine ⟨Y, _, _, y1, y2, enc_len _ _ _, y3, ?_⟩
      rw [← this]
      cases ws with
      | nil => exact hs
      | cons w1 ws => exact hs
    · rw [Option.map_eq_some_iff] at ho
      obtain ⟨x, hx, rfl⟩ := ho
      cases ws with
      | nil => exact nomatch x
      | cons w1 ws => exact outW_inW Q hw.2 hx I L hl hs

theorem iter_some {σ ρ : Type} {f : σ → Option (σ ⊕ ρ)} {s : σ} {r : ρ} (h : iter f s = some r) : ∃ m, iterN f m s = some r := by
  unfold iter at h
  split at h
  · rename_i e
    rw [← h]
    exact ⟨_, e.choose_spec.choose_spec⟩
  · cases h

def Comes {n0 : Nat} (Q : Rel n0) (tbl : Table) (n : Nat) (X : RX) (h : SH) (dh : Hp) (dl : List DV) (c : DC) (P : Ex → List SV → SH → Prop) : Prop :=
  ∃ e l' h' dl' dh' X', ex tbl c dl dh = some (e, dl', dh') ∧ Inv X' h' dh' ∧ RVs X' l' dl' ∧ l'.length = n ∧ Q.R X h dh X' h' dh' ∧ P e l' h'

theorem loop_ok {n0 : Nat} (Q : Rel n0) {n : Nat} {a : DC} {t : Tm} (hn : n0 ≤ t.boxes.length) {ws : Ways} {body : St t → Option (St t ⊕ WTy ws)}
    (hb : ∀ s q, body s = some q → ∀ X dh dl, Inv X (enc n t s).2 dh → RVs X (enc n t s).1 dl → Comes Q tbl n X (enc n t s).2 dh dl a fun e l h => (match e with
      | .normal => (decT t l h).map Sum.inl
      | e => (outW ws e l h).map Sum.inr) = some q) :
    ∀ (m : Nat) (s : St t) (w : WTy ws), iterN body m s = some w → ∀ X dh dl, Inv X (enc n t s).2 dh → RVs X (enc n t s).1 dl → Comes Q tbl n X (enc n t s).2 dh dl (.loop a) fun e l h => outW ws e l h = some w
  | 0, s, w, h, _, _, _, _, _ => by simp [iterN] at h
  | m + 1, s, w, h, X, dh, dl, I, L => by
    simp only [iterN] at h
    cases hq : body s with
    | none => rw [hq] at h; cases h
    | some q =>
      rw [hq] at h
      obtain ⟨e, l', h', dl', dh', X', c1, c2, c3, c4, c5, c6⟩ := hb s q hq X dh dl I L
      cases q with
      | inl s' =>
        simp only at h
        have he : e = .normal ∧ decT t l' h' = some s' := by
          cases e with
          | normal =>
            simp only [Option.map_eq_some_iff] at c6
            obtain ⟨y, y1, y2⟩ := c6
            cases y2
            exact ⟨rfl, y1⟩
          | _ =>
            simp only [Option.map_eq_some_iff] at c6
            obtain ⟨y, _, y2⟩ := c6
            cases y2
        obtain ⟨rfl, hd⟩ := he
        obtain ⟨Y, y1, y2, y3⟩ := u5i Q hn c2 c3 hd
        rw [c4] at y1 y2 y3
        obtain ⟨e2, l2, h2, dl2, dh2, X2, d1, d2, d3, d4, d5, d6⟩   := loop_ok Q hn hb m s' w h Y dh' dl' y1 y2
        exact ⟨e2, l2, h2, dl2, dh2, X2, by rw [u2V, c1]; exact d1, d2, d3, d4, Q.trans (Q.trans c5 y3) d5, d6⟩
      | inr w' =>
        simp only [Option.some.injEq] at h
        subst h
        have he : e ≠ .normal ∧ outW ws e l' h' = some w' := by
          cases e with
          | normal =>
            simp only [Option.map_eq_some_iff] at c6
            obtain ⟨y, _, y2⟩ := c6
            cases y2
          | _ =>
            simp only [Option.map_eq_some_iff] at c6
            obtain ⟨y, y1, y2⟩ := c6
            cases y2
            exact ⟨by simp, y1⟩
        refine ⟨e, l', h', dl', dh', X', ?_, c2, c3, c4, c5, he.2⟩
        rw [u2V, c1]
        cases e with
        | normal => exact absurd rfl he.1
        | _ => rfl

noncomputable def Fin (tbl : Table) (d : DC) (e : Ex) (dl : List DV) (dh : Hp) : Option (Ex × List DV × Hp) :=
  match e with
  | .goto m => match d.after m with
    | some r => ex tbl (.scope d r) dl dh
    | none => some (.goto m, dl, dh)
  | e => some (e, dl, dh)
theorem u4U {d cur : DC} {dl dl' : List DV} {dh dh' : Hp} {e : Ex} (h : ex tbl cur dl dh = some (e, dl', dh')) : ex tbl (.scope d cur) dl dh = Fin tbl d e dl' dh' := by
  rw [ex_scope, h]
  cases e <;> rfl

theorem lab_ok {n0 : Nat} (Q : Rel n0) {n m : Nat} {d a : DC} (ha : d.after m = some a) {t : Tm} (hn : n0 ≤ t.boxes.length) {ws : Ways} {body : St t → Option (St t ⊕ WTy ws)}
    (hb : ∀ s q, body s = some q → ∀ X dh dl, Inv X (enc n t s).2 dh → RVs X (enc n t s).1 dl → Comes Q tbl n X (enc n t s).2 dh dl a fun e l h => (match e with
      | .goto m' => if m' = m then (decT t l h).map Sum.inl else (outW ws (.goto m') l h).map Sum.inr
      | e => (outW ws e l h).map Sum.inr) = some q) :
    ∀ (j : Nat) (s : St t) (w : WTy ws), iterN body j s = some w → ∀ X dh dl, Inv X (enc n t s).2 dh → RVs X (enc n t s).1 dl →
      ∃ e l' h' dl' dh' X', ex tbl (.scope d a) dl dh = Fin tbl d e dl' dh' ∧ Inv X' h' dh' ∧ RVs X' l' dl' ∧ l'.length = n ∧ Q.R X (enc n t s).2 dh X' h' dh' ∧ outW ws e l' h' = some w
  | 0, s, w, h, _, _, _, _, _ => by simp [iterN] at h
  | j + 1, s, w, h, X, dh, dl, I, L => by
    simp only [iterN] at h
    cases hq : body s with
    | none => rw [hq] at h; cases h
    | some q =>
      rw [hq] at h
      obtain ⟨e, l', h', dl', dh', X', c1, c2, c3, c4, c5, c6⟩ := hb s q hq X dh dl I L
      have cases' : (e = .goto m ∧ (decT t l' h').map Sum.inl = some q) ∨ (outW ws e l' h').map Sum.inr = some q := by
        cases e with
        | goto m' =>
          simp only at c6
          by_cases hm : m' = m
          · subst hm; rw [if_pos rfl] at c6; exact .inl ⟨rfl, c6⟩
          · rw [if_neg hm] at c6; exact .inr c6
        | _ => exact .inr c6
      rcases cases' with ⟨rfl, hd⟩ | ho
      · rw [Option.map_eq_some_iff] at hd
        obtain ⟨s', hd, rfl⟩ := hd
        simp only at h
        obtain ⟨Y, y1, y2, y3⟩ := u5i Q hn c2 c3 hd
        rw [c4] at y1 y2 y3
        obtain ⟨e2, l2, h2, dl2, dh2, X2, d1, d2, d3, d4, d5, d6⟩ := lab_ok Q ha hn hb j s' w h Y dh' dl' y1 y2
        refine ⟨e2, l2, h2, dl2, dh2, X2, ?_, d2, d3, d4, Q.trans (Q.trans c5 y3) d5, d6⟩
        rw [u4U c1]
        simp only [Fin, ha]
        exact d1
      · rw [Option.map_eq_some_iff] at ho
        obtain ⟨w', ho, rfl⟩ := ho
        simp only [Option.some.injEq] at h
        subst h
        exact ⟨e, l', h', dl', dh', X', u4U c1, c2, c3, c4, c5, ho⟩

def u5Z (ag : Option DC) (c : DC) : DC := match ag with
  | none => c
  | some d => .scope d c
theorem Comes.now {n0 : Nat} {Q : Rel n0} {n : Nat} {X : RX} {h : SH} {dh : Hp} {l : List SV} {dl : List DV} {c : DC} {e : Ex} {P : Ex → List SV → SH → Prop} (I : Inv X h dh) (L : RVs X l dl) (hl : l.length = n) (hc : ex tbl c dl dh = some (e, dl, dh)) (hp : P e l h) : Comes Q tbl n X h dh dl c P :=
  ⟨e, l, h, dl, dh, X, hc, I, L, hl, Q.refl X h dh, hp⟩

def Thawed (b b' : RB) : Prop := b' = b ∨ ∃ z s l, b = .live false z (.typed true (.mark s) l) ∧ (l.all fun x => x.1) = true ∧ b' = .live false z (.typed true s (l.map fun x => x.2))
theorem thawR_sem : ∀ {R R' : List RB}, (thawR R).sem = some R' → R'.length = R.length ∧ ∀ (j : Nat) (b' : RB), R'[j]? = some b' → ∃ b, R[j]? = some b ∧ Thawed b b'
  | [], R', h => by
    simp only [thawR] at h
    rw [T.sem_ret h]
    exact ⟨rfl, fun j b' e => by simp at e⟩
  | b :: r, R', h => by
    have gen : ∀ {c : RB}, Thawed b c → ((thawR r).bind fun r => .ret (c :: r)).sem = some R' → R'.length = (b :: r).length ∧ ∀ (j : Nat) (b' : RB), R'[j]? = some b' → ∃ b0, (b :: r)[j]? = some b0 ∧ Thawed b0 b' := by
      intro c hc h
      obtain ⟨r', h1, h2⟩ := T.sem_bind h
      rw [T.sem_ret h2]
      obtain ⟨g1, g2⟩ := thawR_sem h1
      refine ⟨by simp [g1], fun j b' e => ?_⟩
      cases j with
      | zero => simp only [List.getElem?_cons_zero, Option.some.injEq] at e; subst e; exact ⟨b, rfl, hc⟩
      | succ j => simpa using g2 j b' (by simpa using e)
    unfold thawR at h
    split at h
    · rename_i heq; cases heq
    · rename_i z s l r0 heq
      cases heq
      rcases T.sem_br h with ⟨ha, h⟩ | ⟨_, h⟩
      · exact gen (.inr ⟨z, s, l, rfl, ha, rfl⟩) h
      · exact (T.sem_fail h).elim
    · rename_i b0 r0 _ heq
      cases heq
      exact gen (.inl rfl) h
theorem thaw_ok {X : RX} {h : SH} {dh : Hp} {R : List RB} (I : Inv X h dh) (hs : (thawR h.R).sem = some R) : Inv X { h with R := R } dh ∧ Step X h dh X { h with R := R } dh := by
  obtain ⟨hl, hj⟩ := thawR_sem hs
  have live : ∀ {j : Nat} {fz : Bool} {z : Nat} {c : RC}, R[j]? = some (.live fz z c) → ∃ c0, h.R[j]? = some (.live fz z c0) ∧ c.len = c0.len ∧ ∀ rows, RCon X z c0 rows → RCon X z c rows := by
    intro j fz z c e
    obtain ⟨b, h1, h2⟩ := hj j _ e
    rcases h2 with rfl | ⟨z', s, l, rfl, ha, h2⟩
    · exact ⟨c, h1, rfl, fun _ k => k⟩
    · cases h2
      refine ⟨_, h1, by simp [RC.len], fun rows k => ⟨k.1, ?_⟩⟩
      have go : ∀ (m : List (Bool × El s)) (rows : List (List DV)), (m.all fun x => x.1) = true → RRows (RP X true (.mark s)) m rows → RRows (RP X true s) (m.map fun x => x.2) rows := by
        intro m
        induction m with
        | nil => intro rows _ hm; cases rows with
          | nil => trivial
          | cons _ _ => exact hm.elim
        | cons a m ih => intro rows hall hm; cases rows with
          | nil => exact hm.elim
          | cons r rows =>
            obtain ⟨b, a⟩ := a
            simp only [List.all_cons, Bool.and_eq_true] at hall
            obtain ⟨rfl, hall⟩ := hall
            exact ⟨hm.1, ih rows hall hm.2⟩
      exact go l rows ha k.2
  refine ⟨⟨hl.trans I.c, I.nb, I.box, I.bdist, I.z, fun j fz z c e => ?_, fun j j' z c z' c' i m m' e1 e2 r1 r2 => ?_⟩, ⟨fun _ _ _ => rfl, Nat.le_refl _, fun _ _ _ => rfl, Nat.le_refl _, fun i w => ?_, fun i hi => .inl ⟨i, hi, rfl⟩, fun _ _ e => .inl e⟩⟩
  · obtain ⟨c0, h1, h2, h3⟩ := live e
    have RO := I.row _ _ _ _ h1
    unfold RowOk at RO ⊢
    refine ⟨h2.trans RO.1, ?_⟩
    cases ej : (X.R j).1 with
    | none => rw [ej] at RO; exact h3 _ RO.2
    | some p =>
      obtain ⟨i, m⟩ := p
      rw [ej] at RO
      obtain ⟨_, k, k1, k2, k3, k4, k5, k6⟩ := RO
      exact ⟨k, k1, k2, k3, by rw [h2]; exact k4, by rw [h2]; exact h3 _ k5, by rw [h2]; exact k6⟩
  · obtain ⟨c0, h1, _, _⟩ := live e1
    obtain ⟨c1, h2, _, _⟩ := live e2
    exact I.dist _ _ _ _ _ _ _ _ _ h1 h2 r1 r2
  · obtain ⟨j, z, c, m, e1, e2⟩ := w
    obtain ⟨c0, h1, _, _⟩ := live e1
    exact .inl ⟨j, z, c0, m, h1, e2⟩

def RX.wipe (X : RX) : RX := { X with z := fun _ => none }
theorem wipe1 {X : RX} : ∀ {n : Nat} {v : SV} {d : DV}, RV X v d → RV X.wipe (v.wipe n) d
  | 0, v, d, _ => by simp [SV.wipe, RV]
  | n + 1, v, d, h => by
    have many : ∀ {vs : List SV} {ds : List DV}, RVs X vs ds → RVs X.wipe (vs.map (SV.wipe n)) ds := by
      intro vs
      induction vs with
      | nil => intro ds h; cases ds with
        | nil => trivial
        | cons _ _ => exact h.elim
      | cons v vs ih => intro ds h; cases ds with
        | nil => exact h.elim
        | cons d ds => exact ⟨wipe1 h.1, ih h.2⟩
    cases v <;> simp only [SV.wipe]
    case agg cs => simp only [RV] at h ⊢; obtain ⟨ds, rfl, h⟩ := h; exact ⟨ds, rfl, many h⟩
    case tup cs => simp only [RV] at h ⊢; obtain ⟨ds, rfl, h⟩ := h; exact ⟨ds, rfl, many h⟩
    case fn f cs => simp only [RV] at h ⊢; obtain ⟨ds, rfl, h⟩ := h; exact ⟨ds, rfl, many h⟩
    case vw => simp [RV]
    case own => simp [RV]
    case ep => simp [RV]
    case fp => simp [RV]
    case ptr i o => simp only [RV] at h ⊢; exact h
    all_goals first | (simp only [RV]; done) | (simp only [RV] at h ⊢; exact h)
theorem wipes_ok {X : RX} {n : Nat} : ∀ {vs : List SV} {ds : List DV}, RVs X vs ds → RVs X.wipe (vs.map (SV.wipe n)) ds
  | [], [], _ => trivial
  | v :: vs, d :: ds, h => ⟨wipe1 h.1, wipes_ok h.2⟩
  | [], _ :: _, h => h.elim
  | _ :: _, [], h => h.elim
theorem wipe_ok {X : RX} {h : SH} {dh dh' : Hp} (I : Inv X h dh) (hb : ∀ q, q < dh.B.length → dh'.B[q]? = dh.B[q]?) : Inv X.wipe h.wipe dh' ∧ True := by
  have dead : ∀ {j : Nat} {fz : Bool} {z : Nat} {c : RC}, (h.R.map fun _ => RB.dead)[j]? = some (.live fz z c) → False := by
    intro j fz z c e
    rw [List.getElem?_map, Option.map_eq_some_iff] at e
    obtain ⟨_, _, e⟩ := e
    cases e
  refine ⟨⟨by simp only [SH.wipe, List.length_map]; exact I.c, by simp only [SH.wipe, List.length_map]; exact I.nb, fun i cs hi => ?_, I.bdist, fun i k e => (by cases e), fun j fz z c e => (dead e).elim, fun j j' z c z' c' i m m' e1 => (dead e1).elim⟩, trivial⟩
  simp only [SH.wipe, List.getElem?_map, Option.map_eq_some_iff] at hi
  obtain ⟨cs0, h1, rfl⟩ := hi
  obtain ⟨z, ds, h2, h3⟩ := I.box i cs0 h1
  exact ⟨z, ds, (hb (X.bi i) (u02 h2)).trans h2, wipes_ok h3⟩
theorem scr_ok {K : Oracle} {X : RX} {h : SH} {dh : Hp} {f : FuncId} {s : Sh} {v : SV} {d : DV} {y : El s} (W : WOk K f s) (I : Inv X h dh) (hv : RV X v d) (hd : decW s h v = some y) (hsm : small s y = true) :
    ∃ dh', K.k (.fn f []) [d] dh = some (.tup [], dh') ∧ ∀ q, q < dh.B.length → dh'.B[q]? = dh.B[q]? := by
  unfold decW at hd
  split at hd
  case isFalse => cases hd
  rename_i hc
  obtain ⟨ha, hdef⟩ := hc
  split at hd
  case h_2 => cases hd
  rename_i x hx
  have hxy := Option.some.inj hd
  subst hxy
  have hne : v ≠ .undef := by intro e; rw [e] at hdef; cases hdef
  let Y := overF id X h dh [] (u0m v.cells) 0
  obtain ⟨us, ds, dr, g1, g2, g3, g4⟩ := u4H (Y := Y) I (t := .deep) (by simp) (overF_z I) hx (hv.cellsOf hne)
  cases dr with
  | cons _ _ => simp [RVs] at g4
  | nil =>
    rw [List.append_nil] at g2
    refine W Y dh d x (fun i k e => (u4f I e).1) (by rw [g2]; exact g3) (fun h => ?_) (fun h => ?_) hsm
    · rcases u2x hne hv with ⟨_, _, ds, e⟩ | ⟨e, _⟩
      · exact ⟨ds, e⟩
      · rw [← ha, h] at e; cases e
    · rcases u2x hne hv with ⟨_, e, _⟩ | ⟨_, e⟩
      · subst e; rw [h] at ha; cases ha
      · exact e
theorem scrOf_ok {sp : Specs} : ∀ {os : List DOper} {w : Scr}, scrOf sp os = some w → os = w.os ++ [⟨w.dst, .call (.val (.fn w.g [])) [w.x] [], none⟩] ∧ sp w.g = some (.w w.s)
  | [], w, h => by simp [scrOf] at h
  | o :: [], w, h => by
    simp only [scrOf] at h
    split at h
    · rename_i g x ho
      split at h
      · rename_i hg
        split at h
        · rename_i s hs
          cases h
          obtain ⟨dst, op, guard⟩ := o
          simp only at ho hg
          subst ho hg
          exact ⟨rfl, hs⟩
        · cases h
      · cases h
    · cases h
  | o :: o' :: r, w, h => by
    have h' : (scrOf sp (o' :: r)).map (fun w => { w with os := o :: w.os }) = some w := h
    rw [Option.map_eq_some_iff] at h'
    obtain ⟨w0, h1, rfl⟩ := h'
    obtain ⟨e1, e2⟩ := scrOf_ok h1
    exact ⟨by simp only [List.cons_append]; rw [← e1], e2⟩
theorem ops_app {K : Oracle} : ∀ (a b : List DOper) (l : List DV) (h : Hp), ops K (a ++ b) l h = match ops K a l h with
    | some (l', h') => ops K b l' h'
    | none => none
  | [], b, l, h => rfl
  | o :: a, b, l, h => by
    simp only [List.cons_append, ops]
    split
    · split
      · exact ops_app a b _ _
      · rfl
    · exact ops_app a b _ _
    · rfl

theorem sym_okN {n0 : Nat} (Q : Rel n0) {sp : Specs} (SO : u0F (calls tbl (ex tbl)) sp) (SW : Q.scr = true ∨ ∀ f s, sp f ≠ some (.w s)) {n : Nat} : ∀ (f : Nat) {ρ : Type} (an : Anns) (_ : AnnsN n0 an) (p : Nat) (ag : Option DC) (c : DC) (l : List SV) (h : SH) (k : Ex → List SV → SH → T ρ) (r : ρ), c.wf → (∀ d, ag = some d → d.wf) →
    ∀ X dh dl, Inv X h dh → RVs X l dl → l.length = n → (sym sp n f an p ag c l h k).sem = some r → Comes Q tbl n X h dh dl (u5Z ag c) fun e l' h' => (k e l' h').sem = some r := by
  intro f
  induction f with
  | zero => intro ρ an _ p ag c l h k r _ _ X dh dl _ _ _ hs; simp only [sym] at hs; exact (T.sem_fail hs).elim
  | succ f ih =>
    intro ρ an AN p ag c l h k r wc wd X dh dl I L hl hs
    -- how a scope goes on
    have again : ∀ (d : DC), d.wf → ∀ (e : Ex) (l1 : List SV) (h1 : SH) (dl1 : List DV) (dh1 : Hp) (X1 : RX), Inv X1 h1 dh1 → RVs X1 l1 dl1 → l1.length = n →
        (match e with
          | .goto m => match d.after m with
            | some r => sym sp n f an (p + 1000003) (some d) r l1 h1 k
            | none => k (.goto m) l1 h1
          | e => k e l1 h1).sem = some r →
        ∃ e2 l2 h2 dl2 dh2 X2, Fin tbl d e dl1 dh1 = some (e2, dl2, dh2) ∧ Inv X2 h2 dh2 ∧ RVs X2 l2 dl2 ∧ l2.length = n ∧ Q.R X1 h1 dh1 X2 h2 dh2 ∧ (k e2 l2 h2).sem = some r := by
      intro d hd e l1 h1 dl1 dh1 X1 I1 L1 hl1 hs
      cases e with
      | goto m =>
        simp only at hs
        simp only [Fin]
        cases ha : d.after m with
        | none => rw [ha] at hs; exact ⟨_, l1, h1, dl1, dh1, X1, rfl, I1, L1, hl1, Q.refl _ _ _, hs⟩
        | some r1 =>
          rw [ha] at hs
          exact ih an AN (p + 1000003) (some d) r1 l1 h1 k r (DC.wf_after hd ha) (fun d' e => by cases e; exact hd) X1 dh1 dl1 I1 L1 hl1 hs
      | _ => exact ⟨_, l1, h1, dl1, dh1, X1, rfl, I1, L1, hl1, Q.refl _ _ _, hs⟩
    cases ag with
    | some d =>
      simp only [sym] at hs
      obtain ⟨e, l1, h1, dl1, dh1, X1, c1, c2, c3, c4, c5, c6⟩ := ih an AN (2 * p + 1) none c l h _ r wc (fun _ e => nomatch e) X dh dl I L hl hs
      obtain ⟨e2, l2, h2, dl2, dh2, X2, d1, d2, d3, d4, d5, d6⟩ := again d (wd d rfl) e l1 h1 dl1 dh1 X1 c2 c3 c4 c6
      exact ⟨e2, l2, h2, dl2, dh2, X2, by simp only [u5Z]; rw [u4U (show ex tbl c dl dh = _ from c1)]; exact d1, d2, d3, d4, Q.trans c5 d5, d6⟩
    | none =>
      simp only [u5Z]
      simp only [sym] at hs
      -- a way out of a typed piece
      have out : ∀ {ws : Ways} {w : WTy ws} {kk : Ex → List SV → SH → T ρ}, waysN n0 ws = true → ∀ {e : Ex} {l1 : List SV} {h1 : SH} {dl1 : List DV} {dh1 : Hp} {X1 : RX}, outW ws e l1 h1 = some w → Inv X1 h1 dh1 → RVs X1 l1 dl1 → l1.length = n → (inW n kk ws w).sem = some r →
          ∃ Y l2 h2, Inv Y h2 dh1 ∧ RVs Y l2 dl1 ∧ l2.length = n ∧ Q.R X1 h1 dh1 Y h2 dh1 ∧ (kk e l2 h2).sem = some r := fun hw => fun a b c d e => outW_inW Q hw a b c d e
      split at hs
      · -- cut
        rename_i ws han
        obtain ⟨w, h1, h2⟩ := T.sem_ask hs
        obtain ⟨e, l1, h1', dl1, dh1, X1, c1, c2, c3, c4, c5, c6⟩ := ih _ (by intro q a hq; simp only at hq; split at hq <;> first | (cases hq; done) | exact AN q a hq) p none c l h _ w wc (fun _ e => nomatch e) X dh dl I L hl h1
        obtain ⟨Y, l2, h2', y1, y2, y3, y4, y5⟩ := out (AN _ _ han) (T.sem_ofO c6) c2 c3 c4 h2
        exact ⟨e, l2, h2', dl1, dh1, Y, c1, y1, y2, y3, Q.trans c5 y4, y5⟩
      · -- thaw
        rename_i han
        obtain ⟨R, h1, h2⟩ := T.sem_bind hs
        obtain ⟨t1, t2⟩ := thaw_ok I h1
        obtain ⟨e, l1, h1', dl1, dh1, X1, c1, c2, c3, c4, c5, c6⟩ := ih _ (by intro q a hq; simp only at hq; split at hq <;> first | (cases hq; done) | exact AN q a hq) p none c l _ _ r wc (fun _ e => nomatch e) X dh dl t1 L hl h2
        exact ⟨e, l1, h1', dl1, dh1, X1, c1, c2, c3, c4, Q.trans (Q.of t2 (RX.le.refl X)) c5, c6⟩
      · -- loop
        rename_i t ws han
        have hAN := AN _ _ han
        simp only [Ann.holds, Bool.and_eq_true, decide_eq_true_eq] at hAN
        split at hs
        case h_2 => exact (T.sem_fail hs).elim
        rename_i a
        obtain ⟨s, h1, h2⟩ := T.sem_bind hs
        obtain ⟨w, h3, h4⟩ := T.sem_ask h2
        obtain ⟨m, hm⟩ := iter_some h3
        obtain ⟨Y, y1, y2, y3⟩ := u5i Q hAN.1 I L (T.sem_ofO h1)
        rw [hl] at y1 y2 y3
        obtain ⟨e, l1, h1', dl1, dh1, X1, c1, c2, c3, c4, c5, c6⟩ := loop_ok Q (tbl := tbl) (a := a) hAN.1 (fun s q hq X dh dl I L => by
          obtain ⟨e, l', h', dl', dh', X', c1, c2, c3, c4, c5, c6⟩ := ih an AN (2 * p + 1) none a _ _ _ q wc (fun _ e => nomatch e) X dh dl I L (enc_len _ _ _) hq
          refine ⟨e, l', h', dl', dh', X', c1, c2, c3, c4, c5, ?_⟩
          cases e <;> exact T.sem_ofO c6) m s w hm Y dh dl y1 y2
        obtain ⟨Z, l2, h2', z1, z2, z3, z4, z5⟩ := out hAN.2 c6 c2 c3 c4 h4
        exact ⟨e, l2, h2', dl1, dh1, Z, c1, z1, z2, z3, Q.trans (Q.trans y3 c5) z4, z5⟩
      · -- a label that is come back to
        rename_i m t ws han
        have hAN := AN _ _ han
        simp only [Ann.holds, Bool.and_eq_true, decide_eq_true_eq] at hAN
        split at hs
        case h_2 => exact (T.sem_fail hs).elim
        rename_i d cur
        obtain ⟨rfl, wd'⟩ := wc
        split at hs
        case h_2 => exact (T.sem_fail hs).elim
        rename_i a ha
        obtain ⟨e, l1, h1, dl1, dh1, X1, c1, c2, c3, c4, c5, c6⟩ := ih an AN (2 * p + 1) none (before m cur) l h _ r (DC.wf_before wd') (fun _ e => nomatch e) X dh dl I L hl hs
        have hb := before_ok (tbl := tbl) ha dl dh
        rw [show ex tbl (before m cur) dl dh = some (e, dl1, dh1) from c1] at hb
        by_cases he : e = .normal
        · subst he
          simp only at hb c6
          obtain ⟨s, h1', h2⟩ := T.sem_bind c6
          obtain ⟨w, h3, h4⟩ := T.sem_ask h2
          obtain ⟨j, hm⟩ := iter_some h3
          obtain ⟨Y, y1, y2, y3⟩ := u5i Q hAN.1 c2 c3 (T.sem_ofO h1')
          rw [c4] at y1 y2 y3
          obtain ⟨e2, l2, h2', dl2, dh2, X2, d1, d2, d3, d4, d5, d6⟩ := lab_ok Q (tbl := tbl) ha hAN.1 (fun s q hq X dh dl I L => by
            obtain ⟨e, l', h', dl', dh', X', c1, c2, c3, c4, c5, c6⟩ := ih an AN (2 * p + 2) none a _ _ _ q (DC.wf_after wd' ha) (fun _ e => nomatch e) X dh dl I L (enc_len _ _ _) hq
            refine ⟨e, l', h', dl', dh', X', c1, c2, c3, c4, c5, ?_⟩
            cases e with
            | goto m' =>
              simp only at c6 ⊢
              by_cases hmm : m' = m
              · rw [if_pos hmm] at c6 ⊢; exact T.sem_ofO c6
              · rw [if_neg hmm] at c6 ⊢; exact T.sem_ofO c6
            | _ => exact T.sem_ofO c6) j s w hm Y dh1 dl1 y1 y2
          obtain ⟨Z, l3, h3', z1, z2, z3, z4, z5⟩ := out hAN.2 d6 d2 d3 d4 h4
          obtain ⟨e4, l4, h4', dl4, dh4, X4, f1, f2, f3, f4, f5, f6⟩ := again cur wd' e2 l3 h3' dl2 dh2 Z z1 z2 z3 z5
          refine ⟨e4, l4, h4', dl4, dh4, X4, ?_, f2, f3, f4, Q.trans (Q.trans (Q.trans c5 y3) d5) (Q.trans z4 f5), f6⟩
          rw [← f1, ← d1, ex_scope, ex_scope, hb]
        · have hb' : ex tbl cur dl dh = some (e, dl1, dh1) := by
            cases e <;> first
              | exact absurd rfl he
              | exact hb
          have c6' : (match e with
            | .goto m => match cur.after m with
              | some r => sym sp n f an (p + 1000003) (some cur) r l1 h1 k
              | none => k (.goto m) l1 h1
            | e => k e l1 h1).sem = some r := by
            cases e <;> first
              | exact absurd rfl he
              | exact c6
          obtain ⟨e4, l4, h4', dl4, dh4, X4, f1, f2, f3, f4, f5, f6⟩ := again cur wd' e l1 h1 dl1 dh1 X1 c2 c3 c4 c6'
          exact ⟨e4, l4, h4', dl4, dh4, X4, by rw [u4U hb']; exact f1, f2, f3, f4, Q.trans c5 f5, f6⟩
      · -- join
        rename_i gs' han
        split at hs
        · rename_i os
          obtain ⟨l1, x, j1, j2, j3⟩ := joined_sem hs
          obtain ⟨dl1, g1, g2⟩ := opsQ_ok SO I os L j1
          obtain ⟨q1, q2⟩ := u55 os g1
          have L2 := join_ok I gs' j2 g2 (wiped L q1 q2)
          exact ⟨.normal, _, h, dl1, dh, X, by rw [u0M, g1], I, L2, by rw [L2.length, q1, ← L.length, hl], Q.refl _ _ _, j3⟩
        · rename_i os
          obtain ⟨l1, x, j1, j2, j3⟩ := joined_sem hs
          obtain ⟨dl1, g1, g2⟩ := drawsQ_ok SO I os [] L j1
          obtain ⟨q1, q2⟩ := u4n os g1
          have L2 := join_ok I gs' j2 g2 (wiped L q1 q2)
          exact ⟨.normal, _, h, dl1, dh, X, by rw [ex_draw, g1], I, L2, by rw [L2.length, q1, ← L.length, hl], Q.refl _ _ _, j3⟩
        · exact (T.sem_fail hs).elim
      · -- plain
        rename_i han
        cases c with
        | skip => exact Comes.now I L hl (u1C _ _ _) hs
        | label m => exact Comes.now I L hl (ex_label _ _ _ m) hs
        | goto m => exact Comes.now I L hl (ex_goto _ _ _ m) hs
        | exit m => exact Comes.now I L hl (u3c _ _ _ m) hs
        | ret => exact Comes.now I L hl (ex_ret _ _ _) hs
        | ops os =>
          simp only at hs
          split at hs
          · rename_i w hw
            obtain ⟨e1, e2⟩ := scrOf_ok hw
            have hscr : Q.scr = true := SW.resolve_right fun h => h _ _ e2
            obtain ⟨q, h1, h2⟩ := T.sem_bind hs
            obtain ⟨y, h3, h4⟩ := T.sem_bind h2
            rcases T.sem_br h4 with ⟨hsm, h4⟩ | ⟨_, h4⟩
            · obtain ⟨dl1, dh1, X1, g1, g2, g3, g4, g5⟩ := opsS_ok SO w.os I L h1
              obtain ⟨q1, _⟩ := u55 w.os g1
              obtain ⟨dh2, r1, r2⟩ := scr_ok (SO _ _ e2) g3 (sv_ok g4 w.x) (T.sem_ofO h3) hsm
              obtain ⟨i1, i2⟩ := wipe_ok g3 r2
              have L2 := wipes_ok (X := X1) (n := 4) g4
              refine ⟨.normal, _, _, putT dl1 w.dst (.tup []), dh2, X1.wipe, ?_, i1, ?_, ?_, Q.any hscr _ _ _ _ _ _, h4⟩
              · rw [u0M, e1, ops_app, g1]
                have hs : step (calls tbl (ex tbl)) dl1 dh1 (.call (.val (.fn w.g [])) [w.x] []) = some (.tup [], dh2) := by
                  show (match (calls tbl (ex tbl)).k (.fn w.g []) [Opd.ev dl1 w.x] dh1 with | some (v, h') => if ([] : List (Nat × Opd)).all (fun q => true) then some (v, h') else none | none => none) = _
                  rw [r1]; rfl
                simp only [ops, wants, hs]
              · cases hd : w.dst with
                | none => exact L2
                | some d => exact L2.set (by simp only [RV]; exact ⟨[], rfl, trivial⟩) d
              · have : (q.1.map (SV.wipe 4)).length = n := by rw [List.length_map, g4.length, q1, ← L.length, hl]
                cases hd : w.dst with
                | none => exact this
                | some d => simpa [putS] using this
            · exact (T.sem_fail h4).elim
          · obtain ⟨q, h1, h2⟩ := T.sem_bind hs
            obtain ⟨dl1, dh1, X1, g1, g2, g3, g4, g5⟩ := opsS_ok SO os I L h1
            obtain ⟨q1, _⟩ := u55 os g1
            exact ⟨.normal, q.1, q.2, dl1, dh1, X1, by rw [u0M, g1], g3, g4, by rw [g4.length, q1, ← L.length, hl], Q.of g5 g2, h2⟩
        | draw os =>
          simp only at hs
          obtain ⟨q, h1, h2⟩ := T.sem_bind hs
          obtain ⟨dl1, dh1, X1, g1, g2, g3, g4, g5⟩ := drawsS_ok SO os I L (g := []) (g' := []) trivial h1
          obtain ⟨q1, _⟩ := u4n os g1
          exact ⟨.normal, q.1, q.2, dl1, dh1, X1, by rw [ex_draw, g1], g3, g4, by rw [g4.length, q1, ← L.length, hl], Q.of g5 g2, h2⟩
        | seq a b =>
          simp only at hs
          obtain ⟨e, l1, h1, dl1, dh1, X1, c1, c2, c3, c4, c5, c6⟩ := ih an AN (2 * p + 1) none a l h _ r wc.1 (fun _ e => nomatch e) X dh dl I L hl hs
          simp only [u5Z] at c1
          by_cases he : e = .normal
          · subst he
            simp only at c6
            obtain ⟨e2, l2, h2, dl2, dh2, X2, d1, d2, d3, d4, d5, d6⟩ := ih an AN (2 * p + 2) none b l1 h1 k r wc.2 (fun _ e => nomatch e) X1 dh1 dl1 c2 c3 c4 c6
            exact ⟨e2, l2, h2, dl2, dh2, X2, by rw [u0z, c1]; exact d1, d2, d3, d4, Q.trans c5 d5, d6⟩
          · refine ⟨e, l1, h1, dl1, dh1, X1, ?_, c2, c3, c4, c5, ?_⟩
            · rw [u0z, c1]
              cases e <;> first
                | exact absurd rfl he
                | rfl
            · cases e <;> first
                | exact absurd rfl he
                | exact c6
        | cond c a b =>
          simp only at hs
          have goA : ∀ {l1 : List SV}, RVs X l1 dl → l1.length = n → c.ev dl = .bool true → (sym sp n f an (2 * p + 1) none a l1 h k).sem = some r → Comes Q tbl n X h dh dl (.cond c a b) fun e l' h' => (k e l' h').sem = some r := by
            intro l1 L1 hl1 hc hs
            obtain ⟨e, l2, h2, dl2, dh2, X2, c1, c2⟩ := ih an AN (2 * p + 1) none a l1 h k r wc.1 (fun _ e => nomatch e) X dh dl I L1 hl1 hs
            exact ⟨e, l2, h2, dl2, dh2, X2, by rw [u15, hc]; exact c1, c2⟩
          have goB : ∀ {l1 : List SV}, RVs X l1 dl → l1.length = n → c.ev dl = .bool false → (sym sp n f an (2 * p + 2) none b l1 h k).sem = some r → Comes Q tbl n X h dh dl (.cond c a b) fun e l' h' => (k e l' h').sem = some r := by
            intro l1 L1 hl1 hc hs
            obtain ⟨e, l2, h2, dl2, dh2, X2, c1, c2⟩ := ih an AN (2 * p + 2) none b l1 h k r wc.2 (fun _ e => nomatch e) X dh dl I L1 hl1 hs
            exact ⟨e, l2, h2, dl2, dh2, X2, by rw [u15, hc]; exact c1, c2⟩
          split at hs
          · rename_i t
            have q := L.gs t
            split at hs
            · rename_i e; rw [e] at q; simp only [RV] at q; exact goA L hl q hs
            · rename_i e; rw [e] at q; simp only [RV] at q; exact goB L hl q hs
            · rename_i x e
              rw [e] at q
              simp only [RV] at q
              rcases T.sem_br hs with ⟨rfl, hs⟩ | ⟨rfl, hs⟩
              · exact goA (L.retell (v := .tt) (by simpa [RV] using q)) (by simpa using hl) q hs
              · exact goB (L.retell (v := .ff) (by simpa [RV] using q)) (by simpa using hl) q hs
            · exact (T.sem_fail hs).elim
          · exact goA L hl rfl hs
          · exact goB L hl rfl hs
          · exact (T.sem_fail hs).elim
        | block id a =>
          simp only at hs
          obtain ⟨e, l1, h1, dl1, dh1, X1, c1, c2, c3, c4, c5, c6⟩ := ih an AN (2 * p + 1) none a l h _ r wc (fun _ e => nomatch e) X dh dl I L hl hs
          simp only [u5Z] at c1
          cases e with
          | exit id' =>
            simp only at c6
            by_cases hid : id' = id
            · rw [if_pos hid] at c6
              exact ⟨.normal, l1, h1, dl1, dh1, X1, by rw [u0w, c1]; simp only [if_pos hid], c2, c3, c4, c5, c6⟩
            · rw [if_neg hid] at c6
              exact ⟨.exit id', l1, h1, dl1, dh1, X1, by rw [u0w, c1]; simp only [if_neg hid], c2, c3, c4, c5, c6⟩
          | _ => exact ⟨_, l1, h1, dl1, dh1, X1, by rw [u0w, c1], c2, c3, c4, c5, c6⟩
        | fblock id a => simp only [sym] at hs; exact (T.sem_fail hs).elim
        | loop a => exact (T.sem_fail hs).elim
        | scope d cur =>
          obtain ⟨rfl, wd'⟩ := wc
          exact ih an AN p (some cur) cur l h k r wd' (fun d' e => by cases e; exact wd') X dh dl I L hl hs

theorem sym_ok {sp : Specs} (SO : u0F (calls tbl (ex tbl)) sp) {n : Nat} (f : Nat) {ρ : Type} (an : Anns) (p : Nat) (ag : Option DC) (c : DC) (l : List SV) (h : SH) (k : Ex → List SV → SH → T ρ) (r : ρ) (wc : c.wf) (wd : ∀ d, ag = some d → d.wf)
    (X : RX) (dh : Hp) (dl : List DV) (I : Inv X h dh) (L : RVs X l dl) (hl : l.length = n) (hs : (sym sp n f an p ag c l h k).sem = some r) : ∃ e l' h' dl' dh' X', ex tbl (u5Z ag c) dl dh = some (e, dl', dh') ∧ Inv X' h' dh' ∧ RVs X' l' dl' ∧ l'.length = n ∧ True ∧ (k e l' h').sem = some r := by
  obtain ⟨e, l', h', dl', dh', X', c1, c2, c3, c4, c5, c6⟩ := sym_okN Rel.all SO (.inl rfl) f an .zero p ag c l h k r wc wd X dh dl I L hl hs
  exact ⟨e, l', h', dl', dh', X', c1, c2, c3, c4, trivial, c6⟩

end Go.Dv
/- The engine, second storey: functions that need no memory. -/
set_option linter.unusedVariables false
set_option linter.unusedSimpArgs false
namespace Go.Dv

def u3j : Nat → List (Nat × SG) → Bool
  | _, [] => true
  | i, (n, .one _) :: r => n == i && u3j (i + 1) r
  | _, _ => false
def u3h (fl : Bool) : List G → Bool
  | [] => true
  | .kd (.val s) :: gs => decide (s.depth ≤ 6) && u3h fl gs
  | .kd (.at_ s) :: gs => fl && decide (s.depth ≤ 6) && u3h fl gs
  | .kd (.clo _ s) :: gs => fl && decide (s.depth ≤ 5) && u3h fl gs
  | .fix (.fn _ []) :: gs => u3h fl gs
  | _ => false

inductive Rsd (dh : Hp) : List DV → List DV → Prop where
  | nil : Rsd dh [] []
  | cons {a : DV} {as rs : List DV} (n : Nat) (hn : n = 7 ∨ n = 6) (h : Rsd dh as rs) : Rsd dh (a :: as) (res dh (n + 1) a :: rs)
theorem Rsd.of7 {dh : Hp} : ∀ (as : List DV), Rsd dh as (as.map (res dh 7))
  | [] => .nil
  | a :: as => .cons 6 (.inr rfl) (Rsd.of7 as)
theorem Rsd.of {dh : Hp} (bs : List DV) : ∀ (as : List DV), Rsd dh (as ++ bs) (as.map (res dh 8) ++ bs.map (res dh 7))
  | [] => Rsd.of7 bs
  | a :: as => .cons 7 (.inl rfl) (Rsd.of bs as)

theorem arg_val {X Y : RX} {h : SH} {dh : Hp} (I : Inv X h dh) {st : Lv} (hst : st = .all ∨ st = .no) {s : Sh} (hd : s.depth ≤ 6) {v : SV} {a : DV} {y : El s} (hf : G.fits (.kd (.val s)) v = true) (e : decE st h s v.cells = some (y, [])) (k : RV X v a) {n : Nat} (hn : n = 7 ∨ n = 6) :
    RV Y (valE s y) (res dh (n + 1) a) ∧ u0e dh (n + 1) a = true ∧ (st = .no → a.still2 = true ∧ res dh (n + 1) a = a) := by
  simp only [G.fits, Bool.and_eq_true, beq_iff_eq] at hf
  obtain ⟨hf, hdef⟩ := hf
  have hf : s.isAgg = v.isAgg := hf
  have hne : v ≠ .undef := by rintro rfl; cases hdef
  have kc := k.cellsOf hne
  have both : ∀ m, 6 ≤ m → RE s y (a.cells.map (res dh m)) ∧ a.cells.all (u0e dh m) = true := by
    intro m hm
    rcases hst with rfl | rfl
    · obtain ⟨us, ds, dr, g1, g2, g3, g4⟩ := decE_res I (n := m) (by omega) e kc
      cases dr with
      | nil => rw [List.append_nil] at g2; subst g2; exact g3
      | cons _ _ => simp [RVs] at g4
    · have q : RE s y a.cells := decE0 (Y := X) I (by simp) (u4D (fun _ _ e => e) _) e kc
      exact ⟨by rw [q.res.1]; exact q, q.res.2⟩
  have still : st = .no → (∀ d ∈ a.cells, d.still1 = true) := by
    rintro rfl d hd
    have q : RE s y a.cells := decE0 (Y := X) I (by simp) (u4D (fun _ _ e => e) _) e kc
    exact (q.still d hd).1
  rcases u2x hne k with ⟨cs, e1, ds, rfl⟩ | ⟨e1, e2⟩
  · obtain ⟨b1, b2⟩ := both n (by omega)
    simp only [DV.cells] at b1 b2 still
    refine ⟨?_, by simp only [u0e]; exact b2, fun hs => ⟨?_, ?_⟩⟩
    · simp only [res]
      refine valE_ok b1 rfl (fun _ => ⟨_, rfl⟩) (fun ha => ?_)
      rw [hf, e1] at ha; cases ha
    · simp only [DV.still2]; exact List.all_eq_true.2 (still hs)
    · simp only [res]; rw [(u6N (still hs)).1]
  · obtain ⟨b1, b2⟩ := both (n + 1) (by omega)
    rw [e2] at b1 b2 still
    simp only [List.map_cons, List.map_nil] at b1
    have hsz := b1.length
    refine ⟨?_, by simpa using b2, fun hs => ?_⟩
    · have hag : s.isAgg = false := hf.trans e1
      refine valE_ok b1 ?_ (fun ha => by rw [hag] at ha; cases ha) (fun _ => ?_)
      · have := (b1.still (res dh (n + 1) a) (by simp)).2
        cases hq : res dh (n + 1) a <;> rw [hq] at this <;> first | rfl | cases this
      · have := (b1.still (res dh (n + 1) a) (by simp)).2
        cases hq : res dh (n + 1) a <;> rw [hq] at this <;> first | rfl | cases this
    · have h1 := still hs a (by simp)
      exact ⟨by cases a <;> first | exact h1 | (simp [DV.still1] at h1), (u5p h1).1⟩

theorem argsFit_nil {g : G} {gs : List G} : u2A (g :: gs) [] = false := by
  cases g with
  | kd k => rfl
  | fix v => cases v <;> first | rfl | (rename_i a b; cases b <;> rfl)
theorem arg_at {X Y : RX} {h : SH} {dh : Hp} (I : Inv X h dh) {s : Sh} {v : SV} {a : DV} {y : El s} (e : decAt .all h s [v] = some y) (k : RV X v a) {n : Nat} (hd : s.depth ≤ n) :
    RV Y (.fp (u0f s y [])) (res dh (n + 1) a) ∧ u0e dh (n + 1) a = true := by
  have fin : ∀ {ds : List DV}, RE s y ds → RV Y (.fp (u0f s y [])) (.fp ds) := by
    intro ds q
    exact .inl ⟨ds, rfl, by simpa using q.cells (X := Y) (r := []) (dr := []) (by simp [RVs])⟩
  unfold decAt at e
  split at e
  · rename_i cs hv
    simp only [List.cons.injEq, and_true] at hv
    subst hv
    split at e
    · rename_i y' hy
      cases e
      simp only [RV] at k
      rcases k with ⟨ds, rfl, k⟩ | ⟨i, m, e', o, b, r, rfl, w1, w2, w3, w4⟩
      · have q : RE s y ds := decE0 (Y := X) I (by simp) (u4D (fun _ _ e => e) _) hy k
        exact ⟨by simp only [res]; exact fin q, rfl⟩
      · have q : RE s y (r.drop o) := decE0 (Y := X) I (by simp) (u4D (fun _ _ e => e) _) hy w4
        have hb := u0x (I.z _ _ w1) w2
        simp only [res, u0e, hb, w3]
        rw [q.res.1]
        exact ⟨fin q, q.res.2⟩
    · cases e
  · rename_i i o hv
    simp only [List.cons.injEq, and_true] at hv
    subst hv
    split at e
    case isFalse => cases e
    split at e
    · rename_i cs hB
      split at e
      · rename_i y' hy
        cases e
        simp only [RV] at k
        obtain ⟨_, rfl⟩ := k
        obtain ⟨z, ds, b1, b2⟩ := I.box _ _ hB
        obtain ⟨us, ds', dr, g1, g2, g3, g4⟩ := decE_res I (n := n) hd hy (b2.drop o)
        cases dr with
        | cons _ _ => simp [RVs] at g4
        | nil =>
          rw [List.append_nil] at g2
          simp only [res, u0e, Hp.blk, Hp.heap, Bool.false_eq_true, if_false, b1, if_true, List.getElem?_cons_zero]
          rw [g2]
          exact ⟨fin g3.1, g3.2⟩
      · cases e
    · cases e
  · cases e

theorem args_q {X Y : RX} {h : SH} {dh : Hp} (I : Inv X h dh) {fl : Bool} : ∀ {gs : List G} {as : List SV} {A RA : List DV} {used seen : List Nat} {x : KTy (kinds gs)}, u3h fl gs = true → u2A gs as = true →
    decG (match fl with | true => .all | false => .no) h gs (as.map SV.cells) used seen = some x → RVs X as A → Rsd dh A RA →
    ∃ vs, encG gs x [] = (vs, []) ∧ RVs Y vs RA ∧ (∀ a ∈ A, u0e dh 7 a = true ∧ u0e dh 8 a = true) ∧ (fl = false → ∀ a ∈ A, a.still2 = true ∧ res dh 7 a = a ∧ res dh 8 a = a) := by
  intro gs
  induction gs with
  | nil =>
    intro as A RA used seen x hq hf e k r
    cases as with
    | cons _ _ => simp [u2A] at hf
    | nil =>
      cases A with
      | cons _ _ => simp [RVs] at k
      | nil => cases r; exact ⟨[], rfl, by simp [RVs], by simp, by simp⟩
  | cons g gs ih =>
    intro as A RA used seen x hq hf e k r
    cases as with
    | nil => rw [argsFit_nil] at hf; cases hf
    | cons v as =>
    obtain ⟨a, A', rfl, k1, k2⟩ := u0A k
    cases r with
    | cons n hn r =>
    rename_i rs
    simp only [List.map_cons] at e
    cases g with
    | fix w =>
      have hw : ∃ fn, w = .fn fn [] := by
        cases w <;> first
          | (simp [u3h] at hq; done)
          | skip
        rename_i fn cap
        cases cap with
        | nil => exact ⟨fn, rfl⟩
        | cons _ _ => simp [u3h] at hq
      obtain ⟨fn, rfl⟩ := hw
      simp only [u3h] at hq
      simp only [u2A, Bool.and_eq_true, Bool.not_eq_true'] at hf
      obtain ⟨hna, hf⟩ := hf
      obtain ⟨c, css, hc, hfix⟩ := u5k e
      obtain ⟨v', hv'⟩ := hfix _ rfl
      cases hc
      rw [hv'] at e
      obtain ⟨hs, e'⟩ := u6j e
      have hv : v = .fn fn [] := by
        have e1 : v' = .fn fn [] := by
          cases v' <;> first
            | (simp [u1B] at hs; done)
            | skip
          rename_i g' cap'
          cases cap' with
          | cons _ _ => simp [u1B] at hs
          | nil => simp [u1B] at hs; rw [hs]
        have e2 : v.cells = [v] := by cases v <;> first | rfl | (simp [SV.isAgg] at hna)
        rw [e2] at hv'
        simp only [List.cons.injEq, and_true] at hv'
        rw [hv', e1]
      subst hv
      simp only [RV, RVs] at k1
      obtain ⟨ds, rfl, k1⟩ := k1
      cases ds with
      | cons _ _ => exact k1.elim
      | nil =>
        obtain ⟨vs, g1, g2, g3, g4⟩ := ih hq hf e' k2 r
        refine ⟨.fn fn [] :: vs, by simp only [encG]; rw [g1], ?_, ?_, ?_⟩
        · simp only [RVs]
          exact ⟨⟨[], by simp [res], by simp [RVs]⟩, g2⟩
        · intro a ha
          rcases List.mem_cons.1 ha with rfl | ha
          · exact ⟨rfl, rfl⟩
          · exact g3 a ha
        · intro hfl a ha
          rcases List.mem_cons.1 ha with rfl | ha
          · exact ⟨rfl, by simp [res], by simp [res]⟩
          · exact g4 hfl a ha
    | kd kk =>
      cases kk with
      | val s =>
        simp only [u3h, Bool.and_eq_true, decide_eq_true_eq] at hq
        simp only [u2A, Bool.and_eq_true] at hf
        obtain ⟨y, r0, hy, hr, rfl⟩ := u5j e
        obtain ⟨vs, g1, g2, g3, g4⟩ := ih hq.2 hf.2 hr k2 r
        have hst : (match fl with | true => Lv.all | false => .no) = .all ∨ (match fl with | true => Lv.all | false => .no) = .no := by cases fl <;> simp
        have q := arg_val (Y := Y) I hst hq.1 hf.1 hy k1 hn
        have q7 := arg_val (Y := Y) I hst hq.1 hf.1 hy k1 (n := 7) (.inl rfl)
        have q6 := arg_val (Y := Y) I hst hq.1 hf.1 hy k1 (n := 6) (.inr rfl)
        refine ⟨valE s y :: vs, by simp only [encG, KTy.hd_mk, KTy.tl_mk]; rw [g1], ?_, ?_, ?_⟩
        · simp only [RVs]; exact ⟨q.1, g2⟩
        · intro a ha
          rcases List.mem_cons.1 ha with rfl | ha
          · exact ⟨q6.2.1, q7.2.1⟩
          · exact g3 a ha
        · intro hfl a ha
          rcases List.mem_cons.1 ha with rfl | ha
          · subst hfl
            exact ⟨(q7.2.2 rfl).1, (q6.2.2 rfl).2, (q7.2.2 rfl).2⟩
          · exact g4 hfl a ha
      | at_ s =>
        simp only [u3h, Bool.and_eq_true, decide_eq_true_eq] at hq
        simp only [u2A, Bool.and_eq_true] at hf
        obtain ⟨⟨hfl, hd⟩, hq⟩ := hq
        subst hfl
        obtain ⟨y, r0, hy, hr, rfl⟩ := decG_at e
        obtain ⟨vs, g1, g2, g3, g4⟩ := ih hq hf.2 hr k2 r
        have hy : decAt .all h s [v] = some y := by
          have hf1 := hf.1
          simp only [G.fits, Bool.and_eq_true, beq_iff_eq] at hf1
          rw [show [v] = v.cells from by cases v <;> first | rfl | (cases hf1.1)]
          exact hy
        have q := arg_at (Y := Y) I hy k1 (n := n) (by omega)
        have q7 := arg_at (Y := Y) I hy k1 (n := 7) (by omega)
        have q6 := arg_at (Y := Y) I hy k1 (n := 6) (by omega)
        refine ⟨.fp (u0f s y []) :: vs, by simp only [encG, KTy.hd_mk, KTy.tl_mk]; rw [g1], ?_, ?_, fun h => nomatch h⟩
        · simp only [RVs]; exact ⟨q.1, g2⟩
        · intro a ha
          rcases List.mem_cons.1 ha with rfl | ha
          · exact ⟨q6.2, q7.2⟩
          · exact g3 a ha
      | clo f s =>
        simp only [u3h, Bool.and_eq_true, decide_eq_true_eq] at hq
        simp only [u2A, Bool.and_eq_true] at hf
        obtain ⟨⟨hfl, hd⟩, hq⟩ := hq
        subst hfl
        obtain ⟨y, r0, hy, hr, rfl⟩ := u6k e
        obtain ⟨vs, g1, g2, g3, g4⟩ := ih hq hf.2 hr k2 r
        have hf1 := hf.1
        simp only [G.fits, Bool.and_eq_true, beq_iff_eq] at hf1
        rw [show v.cells = [v] from by cases v <;> first | rfl | (cases hf1.1)] at hy
        obtain ⟨v1, e1, hv⟩ := decClo_is hy
        simp only [List.cons.injEq, and_true] at e1
        subst e1
        simp only [RV] at k1
        obtain ⟨ds, rfl, k1⟩ := k1
        obtain ⟨d, dr, rfl, k3, k4⟩ := u0A k1
        cases dr with
        | cons _ _ => simp [RVs] at k4
        | nil =>
          have at_ : ∀ m, 5 ≤ m → RV Y (.fn f [.fp (u0f s y [])]) (res dh (m + 1 + 1) (.fn f [d])) ∧ u0e dh (m + 1 + 1) (.fn f [d]) = true := by
            intro m hm
            have q := arg_at (Y := Y) I hv k3 (n := m) (by omega)
            simp only [res, u0e, List.map_cons, List.map_nil, RV, List.all_cons, List.all_nil, Bool.and_true]
            exact ⟨⟨_, rfl, by simp only [RVs, and_true]; exact q.1⟩, q.2⟩
          refine ⟨.fn f [.fp (u0f s y [])] :: vs, by simp only [encG, KTy.hd_mk, KTy.tl_mk]; rw [g1], ?_, ?_, fun h => nomatch h⟩
          · simp only [RVs]
            refine ⟨?_, g2⟩
            rcases hn with rfl | rfl
            · exact (at_ 6 (by omega)).1
            · exact (at_ 5 (by omega)).1
          · intro a ha
            rcases List.mem_cons.1 ha with rfl | ha
            · exact ⟨(at_ 5 (by omega)).2, (at_ 6 (by omega)).2⟩
            · exact g3 a ha
      | view v s => simp [u3h] at hq
      | own v z s => simp [u3h] at hq

theorem u6t : ∀ {slots : List (Nat × SG)} {i : Nat} {vs : List SV}, u3j i slots = true → vs.length = slots.length → u1l slots vs = (vs, [])
  | [], _, [], _, _ => rfl
  | [], _, _ :: _, _, h => by simp at h
  | (n, .one g) :: r, i, [], _, h => by simp at h
  | (n, .one g) :: r, i, v :: vs, he, h => by
    simp only [u3j, Bool.and_eq_true] at he
    simp only [u1l]
    rw [u6t he.2 (by simpa using h)]
  | (n, .agg g) :: r, i, _, he, _ => by simp [u3j] at he
theorem layS_enum : ∀ {slots : List (Nat × SG)} {pre : List SV} {vs : List SV} {m : Nat}, u3j pre.length slots = true → vs.length = slots.length → slots.length ≤ m →
    layS slots vs (pre ++ List.replicate m .undef) = pre ++ vs ++ List.replicate (m - slots.length) .undef
  | [], pre, [], m, _, _, _ => by simp [layS]
  | [], _, _ :: _, _, _, h, _ => by simp at h
  | (n, .one g) :: r, pre, [], m, _, h, _ => by simp at h
  | (n, .one g) :: r, pre, v :: vs, 0, _, _, h => by simp at h
  | (n, .one g) :: r, pre, v :: vs, m + 1, he, h, hm => by
    simp only [u3j, Bool.and_eq_true, beq_iff_eq] at he
    obtain ⟨rfl, he⟩ := he
    simp only [layS]
    have e1 : (pre ++ List.replicate (m + 1) SV.undef).set pre.length v = (pre ++ [v]) ++ List.replicate m .undef := by
      rw [List.set_append_right _ _ (Nat.le_refl _), Nat.sub_self, List.replicate_succ, List.set_cons_zero, List.append_assoc]; rfl
    rw [e1, layS_enum (pre := pre ++ [v]) (by simpa using he) (by simpa using h) (by simpa using hm)]
    simp
  | (n, .agg g) :: r, _, _, _, he, _, _ => by simp [u3j] at he

theorem sRes_ok {X : RX} {h : SH} {dh : Hp} (I : Inv X h dh) {l : List SV} {dl : List DV} (L : RVs X l dl) : ∀ {rs : List (Nat × Option (Option Nat))} {vs : List SV}, (sRes l h rs).sem = some vs → ∃ ds, u2k dl dh rs = some ds ∧ RVs X vs ds
  | [], vs, hs => by simp only [sRes] at hs; cases T.sem_ret hs; exact ⟨[], rfl, by simp [RVs]⟩
  | (t, none) :: rs, vs, hs => by
    simp only [sRes] at hs
    obtain ⟨vs', h1, h2⟩ := T.sem_bind hs
    cases T.sem_ret h2
    obtain ⟨ds, g1, g2⟩ := sRes_ok I L h1
    exact ⟨gt dl t :: ds, by simp only [u2k, u4t, g1], by simp only [RVs]; exact ⟨L.gs t, g2⟩⟩
  | (t, some z) :: rs, vs, hs => by
    simp only [sRes] at hs
    obtain ⟨v, h1, h2⟩ := T.sem_bind hs
    obtain ⟨vs', h3, h4⟩ := T.sem_bind h2
    cases T.sem_ret h4
    obtain ⟨d, k1, k2⟩ := load_ok (K := ⟨fun _ _ _ => none, fun _ _ => none⟩) I L h1
    obtain ⟨ds, g1, g2⟩ := sRes_ok I L h3
    exact ⟨d :: ds, by simp only [u2k, u4t, k1, g1], by simp only [RVs]; exact ⟨k2, g2⟩⟩

theorem resL_mk (k : K) (ks : List K) (x : k.Ty) (r : KTy ks) : resL (k :: ks) (KTy.mk k ks x r) = k.put x :: resL ks r := by
  cases ks <;> rfl
def qRes : List (Nat × SG) → Bool
  | [] => true
  | (_, .one (.kd (.val s))) :: r => decide (s.depth ≤ 6) && qRes r
  | _ => false
theorem u6A {X Y : RX} {h : SH} {dh : Hp} (I : Inv X h dh) {n : Nat} (hn : n = 7 ∨ n = 6) : ∀ {slots : List (Nat × SG)} {pre vs : List SV} {ds : List DV} {cs : List (List SV)} {used seen : List Nat} {y : KTy (kinds (u14 slots ++ []))}, qRes slots = true → u3j pre.length slots = true → vs.length = slots.length →
    u1S (pre ++ vs) slots = some cs → decG .all h (u14 slots ++ []) cs used seen = some y → RVs X vs ds → RVs Y (resL (kinds (u14 slots ++ [])) y) (ds.map (res dh (n + 1)))
  | [], pre, vs, ds, cs, used, seen, y, _, _, hl, _, _, k => by
    have : vs = [] := List.eq_nil_of_length_eq_zero hl
    subst this
    cases ds with
    | nil => show RVs Y (resL [] y) []; simp only [resL, RVs]
    | cons _ _ => simp [RVs] at k
  | (q, .one (.kd (.val s))) :: r, pre, vs, ds, cs, used, seen, y, hq, he, hl, hc, e, k => by
    simp only [qRes, Bool.and_eq_true, decide_eq_true_eq] at hq
    simp only [u3j, Bool.and_eq_true, beq_iff_eq] at he
    obtain ⟨rfl, he⟩ := he
    cases vs with
    | nil => simp at hl
    | cons v vs =>
    obtain ⟨a, ds', rfl, k1, k2⟩ := u0A k
    have hg : gs (pre ++ v :: vs) pre.length = v := by
      unfold gs
      rw [List.getD_eq_getElem?_getD, List.getElem?_append_right (Nat.le_refl _), Nat.sub_self]; rfl
    simp only [u1S, hg] at hc
    split at hc
    case isFalse => cases hc
    rename_i hf
    split at hc
    case h_2 => cases hc
    rename_i cs' hc'
    cases hc
    obtain ⟨y0, r0, hy, hr, rfl⟩ := u5j (gs := u14 r ++ []) e
    have ih := u6A (Y := Y) I hn (pre := pre ++ [v]) (vs := vs) hq.2 (by simpa using he) (by simpa using hl) (by simpa using hc') hr k2
    have q := arg_val (Y := Y) I (.inl rfl) hq.1 hf hy k1 hn
    show RVs Y (resL (.val s :: kinds (u14 r ++ [])) _) _
    rw [resL_mk]
    simp only [List.map_cons, RVs]
    exact ⟨q.1, ih⟩
  | (_, .one (.kd (.view _ _))) :: r, _, _, _, _, _, _, _, hq, _, _, _, _, _ => by simp [qRes] at hq
  | (_, .one (.kd (.own _ _ _))) :: r, _, _, _, _, _, _, _, hq, _, _, _, _, _ => by simp [qRes] at hq
  | (_, .one (.kd (.at_ _))) :: r, _, _, _, _, _, _, _, hq, _, _, _, _, _ => by simp [qRes] at hq
  | (_, .one (.kd (.clo _ _))) :: r, _, _, _, _, _, _, _, hq, _, _, _, _, _ => by simp [qRes] at hq
  | (_, .one (.fix _)) :: r, _, _, _, _, _, _, _, hq, _, _, _, _, _ => by simp [qRes] at hq
  | (_, .agg _) :: r, _, _, _, _, _, _, _, hq, _, _, _, _, _ => by simp [qRes] at hq

theorem u5N {X : RX} : ∀ {s : Sh} {x : El s} {r : List SV} {D : List DV}, s.flat = true → RVs X (u0f s x r) D → ∃ D1 D2, D = D1 ++ D2 ∧ D1.all DV.flat1 = true ∧ RVs X r D2
  | .int k, n, r, D, _, h => by
    obtain ⟨d, dr, rfl, h1, h2⟩ := u0A h
    exact ⟨[d], dr, rfl, by rw [h1.int]; rfl, h2⟩
  | .bool, b, r, D, _, h => by
    obtain ⟨d, dr, rfl, h1, h2⟩ := u0A h
    simp only [RV] at h1
    exact ⟨[d], dr, rfl, by rw [h1]; rfl, h2⟩
  | .str, b, r, D, _, h => by
    obtain ⟨d, dr, rfl, h1, h2⟩ := u0A h
    exact ⟨[d], dr, rfl, by rw [h1.str]; rfl, h2⟩
  | .list _, _, _, _, hf, _ => by simp [Sh.flat] at hf
  | .tree _, _, _, _, hf, _ => by simp [Sh.flat] at hf
  | .uno _, _, _, _, hf, _ => by simp [Sh.flat] at hf
  | .mark _, _, _, _, hf, _ => by simp [Sh.flat] at hf
  | .pair a b, x, r, D, hf, h => by
    simp only [Sh.flat, Bool.and_eq_true] at hf
    obtain ⟨D1, D2, rfl, h1, h2⟩ := u5N hf.1 h
    obtain ⟨D3, D4, rfl, h3, h4⟩ := u5N hf.2 h2
    exact ⟨D1 ++ D3, D4, by simp, by rw [List.all_append, h1, h3]; rfl, h4⟩
theorem flat_val {X : RX} {s : Sh} {x : El s} {d : DV} (hf : s.flat = true) (h : RV X (valE s x) d) : d.flat2 = true := by
  cases s with
  | int k => simp only [valE] at h; rw [h.int]; rfl
  | bool => simp only [valE, RV] at h; rw [h]; rfl
  | str => simp only [valE] at h; rw [h.str]; rfl
  | list _ => simp [Sh.flat] at hf
  | tree _ => simp [Sh.flat] at hf
  | uno _ => simp [Sh.flat] at hf
  | mark _ => simp [Sh.flat] at hf
  | pair a b =>
    simp only [valE, RV] at h
    obtain ⟨ds, rfl, h⟩ := h
    obtain ⟨D1, D2, rfl, h1, h2⟩ := u5N hf h
    cases D2 with
    | nil => simpa [DV.flat2] using h1
    | cons _ _ => simp [RVs] at h2
theorem flat_res {X : RX} : ∀ {ks : List K} {y : KTy ks} {ds : List DV}, u2b ks = true → RVs X (resL ks y) ds → ds.all DV.flat2 = true
  | [], _, [], _, _ => rfl
  | [], _, _ :: _, _, h => by simp [resL, RVs] at h
  | [.val s], y, ds, hf, h => by
    simp only [u2b, Bool.and_eq_true] at hf
    simp only [resL] at h
    obtain ⟨d, dr, rfl, h1, h2⟩ := u0A h
    cases dr with
    | cons _ _ => simp [RVs] at h2
    | nil => simp only [List.all_cons, flat_val hf.1 h1, List.all_nil, Bool.and_self]
  | .val s :: k :: ks, y, ds, hf, h => by
    simp only [u2b] at hf
    rw [Bool.and_eq_true] at hf
    simp only [resL] at h
    obtain ⟨d, dr, rfl, h1, h2⟩ := u0A h
    simp only [List.all_cons, flat_val hf.1 h1, flat_res (ks := k :: ks) hf.2 h2, Bool.and_self]
  | .view _ _ :: _, _, _, hf, _ => by simp [u2b] at hf
  | .own _ _ _ :: _, _, _, hf, _ => by simp [u2b] at hf
  | .at_ _ :: _, _, _, hf, _ => by simp [u2b] at hf
  | .clo _ _ :: _, _, _, hf, _ => by simp [u2b] at hf

theorem u3I : ∀ (gs : List G) (x : KTy (kinds gs)) (R : List RB), (encG gs x R).1.length = gs.length
  | [], _, _ => rfl
  | .fix v :: gs, x, R => by
    have := u3I gs x R
    simp only [encG]
    cases h : encG gs x R with
    | mk a b => rw [h] at this; simpa using this
  | .kd (.val s) :: gs, x, R => by
    have := u3I gs (KTy.tl _ _ x) R
    simp only [encG]
    cases h : encG gs (KTy.tl (.val s) _ x) R with
    | mk a b => rw [h] at this; simpa using this
  | .kd (.view v s) :: gs, x, R => by
    have := u3I gs (KTy.tl _ _ x) R
    simp only [encG]
    cases h : encG gs (KTy.tl (.view v s) _ x) R with
    | mk a b => rw [h] at this; simpa using this
  | .kd (.at_ s) :: gs, x, R => by
    have := u3I gs (KTy.tl _ _ x) R
    simp only [encG]
    cases h : encG gs (KTy.tl (.at_ s) _ x) R with
    | mk a b => rw [h] at this; simpa using this
  | .kd (.clo f s) :: gs, x, R => by
    have := u3I gs (KTy.tl _ _ x) R
    simp only [encG]
    cases h : encG gs (KTy.tl (.clo f s) _ x) R with
    | mk a b => rw [h] at this; simpa using this
  | .kd (.own v z s) :: gs, x, R => by
    simp only [encG]
    cases h : encG gs (KTy.tl (.own v z s) _ x) (R ++ [.live false z (.typed v s (KTy.hd (.own v z s) (kinds gs) x))]) with
    | mk a b =>
      have := u3I gs (KTy.tl (.own v z s) _ x) (R ++ [.live false z (.typed v s (KTy.hd (.own v z s) (kinds gs) x))])
      rw [h] at this; simpa using this
theorem slotGs_len : ∀ {slots : List (Nat × SG)} {i : Nat}, u3j i slots = true → (u14 slots).length = slots.length
  | [], _, _ => rfl
  | (n, .one g) :: r, i, h => by simp only [u3j, Bool.and_eq_true] at h; simp [u14, slotGs_len h.2]
  | (n, .agg g) :: r, i, h => by simp [u3j] at h

def RX.none : RX := ⟨fun _ => .none, 0, fun _ => (.none, 0), 0, fun _ => 0, fun _ => 0⟩
theorem Inv.none : Inv RX.none ⟨[], []⟩ ⟨[], [], 0⟩ :=
  ⟨rfl, rfl, fun i cs h => by simp at h, fun i i' h => absurd h (Nat.not_lt_zero _), fun i k h => (nomatch h), fun j fz z c h => by simp at h, fun j j' z c z' c' i m m' h => by simp at h⟩

structure QSig (ti to : Tm) : Prop where
  b1 : ti.boxes = []
  e1 : u3j 0 ti.slots = true
  q1 : u3h (u2b (kinds to.gs)) ti.gs = true
  b2 : to.boxes = []
  e2 : u3j 0 to.slots = true
  q2 : qRes to.slots = true

theorem u5t {l : List DV} {h : Hp} : ∀ {rs : List (Nat × Option (Option Nat))} {ds : List DV}, u2k l h rs = some ds → ds.length = rs.length
  | [], ds, e => by simp only [u2k, Option.some.injEq] at e; subst e; rfl
  | r :: rs, ds, e => by
    simp only [u2k] at e
    split at e
    · rename_i v vs h1 h2; cases e; simp [u5t h2]
    · cases e
theorem u4A {l : List DV} {h : Hp} {rs : List (Nat × Option (Option Nat))} {ds : List DV} (k : u2k l h rs = some ds) (hne : ∀ a, ds ≠ [a]) : u29 l h rs = some (.tup ds) := by
  unfold u29
  rw [k]
  split
  · rename_i v e; cases e; exact absurd rfl (hne v)
  · rename_i vs _ e; cases e; rfl
  · rename_i e; cases e
theorem resVal_one {l : List DV} {h : Hp} {rs : List (Nat × Option (Option Nat))} {a : DV} (k : u2k l h rs = some [a]) : u29 l h rs = some a := by
  unfold u29
  rw [k]
theorem symF_run {tbl : Table} {sp : Specs} (SO : u0F (calls tbl (ex tbl)) sp) {f : FuncId} {an : Anns} {fuel : Nat} {ti to : Tm} (S : QSig ti to) {d : DF} (hd : tbl.fn f = some d) (hp : d.pure = true) (hw : d.body.wf) {x : St ti} {y : St to}
    (hs : (symF tbl sp f an fuel ti to x).sem = some y) {vs : List SV} {RA : List DV} (he : encG ti.gs x [] = (vs, [])) (hr : RVs RX.none vs RA) :
    RA.length = d.params ∧ ∃ r, (match ex tbl d.body (RA ++ List.replicate (d.n - RA.length) .undef) ⟨[], [], 0⟩ with
      | some (.ret, l, h') | some (.normal, l, h') => (u29 l h' d.results).map (res h' 8)
      | _ => none) = some r ∧ (∀ X, RV X (resV (kinds to.gs) y) r) ∧ (u2b (kinds to.gs) = true → r.flat = true) := by
  obtain ⟨b1, e1, q1, b2, e2, q2⟩ := S
  simp only [symF, hd] at hs
  split at hs
  case isFalse => exact (T.sem_fail hs).elim
  rename_i hc
  obtain ⟨hc1, hc2, hc3⟩ := hc
  have hlen : vs.length = ti.slots.length := by
    have h1 := u3I ti.gs x []
    rw [he] at h1
    simp only at h1
    rw [h1]
    simp only [Tm.gs, b1, List.flatten_nil, List.append_nil]
    exact slotGs_len e1
  have hen : enc d.n ti x = (vs ++ List.replicate (d.n - d.params) .undef, ⟨[], []⟩) := by
    simp only [enc]
    rw [he]
    simp only
    rw [u6t e1 hlen]
    simp only [b1, layB]
    have := layS_enum (pre := []) (vs := vs) (m := d.n) e1 hlen (by omega)
    simp only [List.nil_append] at this
    rw [this, hc1]
  rw [hen] at hs
  simp only at hs
  have hRA : RA.length = d.params := by rw [← hr.length, hlen, hc1]
  refine ⟨hRA, ?_⟩
  have L0 : RVs RX.none (vs ++ List.replicate (d.n - d.params) .undef) (RA ++ List.replicate (d.n - RA.length) .undef) := by
    rw [hRA]
    exact hr.append (RVs.replicate (by simp [RV]) _)
  obtain ⟨e, l', h', dl', dh', X', c1, c2, c3, c4, c5, c6⟩ := sym_ok (tbl := tbl) SO fuel an 0 .none d.body _ _ _ y hw (fun _ e => nomatch e) RX.none ⟨[], [], 0⟩ _ Inv.none L0 (by rw [List.length_append, List.length_replicate, hlen, hc1]; omega) hs
  simp only [u5Z] at c1
  rw [c1]
  have fin : ((sRes l' h' d.results).bind fun vs => T.ofO (decT to vs h' (match d.pure with | true => .all | false => .no))).sem = some y →
      ∃ r, (u29 dl' dh' d.results).map (res dh' 8) = some r ∧ (∀ X, RV X (resV (kinds to.gs) y) r) ∧ (u2b (kinds to.gs) = true → r.flat = true) := by
    intro hs
    obtain ⟨rv, h1, h2⟩ := T.sem_bind hs
    have h2 := T.sem_ofO h2
    rw [hp] at h2
    obtain ⟨ds, k1, k2⟩ := sRes_ok c2 c3 h1
    obtain ⟨slots, boxes⟩ := to
    simp only at b2 e2 q2
    subst b2
    unfold decT at h2
    simp only [u1D] at h2
    split at h2
    case h_2 => cases h2
    rename_i cs bs g1 g2
    cases g2
    split at h2
    case isFalse => cases h2
    rw [List.append_nil] at h2
    have hrl : rv.length = slots.length := by rw [k2.length, u5t k1]; exact hc3.symm
    have R7 := fun X => u6A (Y := X) c2 (n := 7) (.inl rfl) (pre := []) q2 e2 hrl (by simpa using g1) h2 k2
    have R6 := fun X => u6A (Y := X) c2 (n := 6) (.inr rfl) (pre := []) q2 e2 hrl (by simpa using g1) h2 k2
    have hlen2 : (resL (kinds (u14 slots ++ [])) y).length = ds.length := by
      have := (R7 RX.none).length
      simpa using this
    have split' : (∃ a, ds = [a]) ∨ ((∀ a, ds ≠ [a])) := by
      cases ds with
      | nil => exact .inr (by simp)
      | cons a ds => cases ds with
        | nil => exact .inl ⟨a, rfl⟩
        | cons b ds => exact .inr (by simp)
    rcases split' with ⟨a, rfl⟩ | hne
    · rw [resVal_one k1]
      refine ⟨res dh' 8 a, rfl, fun X => ?_, fun hf => ?_⟩
      · have := R7 X
        simp only [List.map_cons, List.map_nil] at this
        unfold resV
        show RV X (match resL (kinds (u14 slots ++ [])) y with | [v] => v | vs => .tup vs) _
        match hq : resL (kinds (u14 slots ++ [])) y, this with
        | [v], this => simp only [RVs] at this; exact this.1
      · have := flat_res hf (R7 RX.none)
        simp only [List.map_cons, List.map_nil, List.all_cons, List.all_nil, Bool.and_true] at this
        cases hq : res dh' 8 a <;> rw [hq] at this <;> first
          | exact this
          | (simp [DV.flat2, DV.flat1] at this)
    · rw [u4A k1 hne]
      refine ⟨.tup (ds.map (res dh' 7)), by simp only [Option.map_some, res], fun X => ?_, fun hf => ?_⟩
      · unfold resV
        show RV X (match resL (kinds (u14 slots ++ [])) y with | [v] => v | vs => .tup vs) _
        have := R6 X
        match hq : resL (kinds (u14 slots ++ [])) y, this with
        | [v], this =>
          rw [hq] at hlen2
          match ds, hlen2 with
          | [a], _ => exact absurd rfl (hne a)
        | [], this => exact ⟨_, rfl, this⟩
        | _ :: _ :: _, this => exact ⟨_, rfl, this⟩
      · exact flat_res hf (R6 RX.none)
  cases e with
  | ret => exact fin c6
  | normal => exact fin c6
  | exit _ => exact (T.sem_fail c6).elim
  | goto _ => exact (T.sem_fail c6).elim

theorem specQ_ok {tbl : Table} {sp : Specs} (SO : u0F (calls tbl (ex tbl)) sp) {f : FuncId} {an : Anns} {fuel : Nat} {ti to : Tm} (S : QSig ti to) {d : DF} (hd : tbl.fn f = some d) (hpr : tbl.prim f = none) (hp : d.pure = true) (hw : d.body.wf)
    {X : RX} {h : SH} {dh : Hp} {as : List SV} {das dcap : List DV} {x : St ti} {y : St to} (hcap : u2b (kinds to.gs) = true ∨ dcap = []) (I : Inv X h dh) (L : RVs X as (das ++ dcap)) (hfit : u2A ti.gs as = true)
    (hx : decG (match u2b (kinds to.gs) with | true => .all | false => .no) h ti.gs (as.map SV.cells) [] [] = some x) (hs : (symF tbl sp f an fuel ti to x).sem = some y) :
    ∃ d, RV X (resV (kinds to.gs) y) d ∧ callK tbl (ex tbl) (.fn f dcap) das dh = some (d, dh) ∧ (u0e dh 8 (.fn f dcap) && das.all (u0e dh 8)) = true ∧ callQ tbl (ex tbl) (res dh 8 (.fn f dcap)) (das.map (res dh 8)) = some d ∧
      (d.flat || ((DV.fn f dcap).still && das.all DV.still)) = true := by
  obtain ⟨vs, g1, g2, g3, g4⟩ := args_q (Y := RX.none) I S.q1 hfit hx L (Rsd.of dcap das)
  obtain ⟨hlen, r, r1, r2, r3⟩ := symF_run SO S hd hp hw hs g1 g2
  have hq : callQ tbl (ex tbl) (res dh 8 (.fn f dcap)) (das.map (res dh 8)) = some r := by
    have e8 : res dh 8 (.fn f dcap) = .fn f (dcap.map (res dh 7)) := rfl
    rw [e8]
    unfold callQ
    simp only [hd]
    rw [if_neg (by rw [hp]; simp only [reduceCtorEq, or_false, ne_eq, Decidable.not_not]; exact hlen)]
    exact r1
  have hfl : (r.flat || ((DV.fn f dcap).still && das.all DV.still)) = true := by
    by_cases hf : u2b (kinds to.gs) = true
    · rw [r3 hf]; rfl
    · have hc : dcap = [] := hcap.resolve_left hf
      subst hc
      have hf' : u2b (kinds to.gs) = false := by simpa using hf
      have q := g4 hf'
      have : das.all DV.still = true := by
        rw [List.all_eq_true]
        intro a ha
        have := (q a (by simp [ha])).1
        cases a <;> first | exact this | (simp [DV.still2, DV.still1] at this)
      rw [this]
      simp [DV.still, DV.still2]
  refine ⟨r, r2 X, ?_, ?_, hq, hfl⟩
  · unfold callK
    simp only [hpr, hd, hp, if_true]
    rw [hq]
    simp only
    rw [if_pos hfl]
  · rw [Bool.and_eq_true]
    refine ⟨?_, List.all_eq_true.2 fun a ha => (g3 a (by simp [ha])).2⟩
    simp only [u0e]
    exact List.all_eq_true.2 fun a ha => (g3 a (by simp [ha])).1

theorem specO_ok {tbl : Table} {sp : Specs} (SO : u0F (calls tbl (ex tbl)) sp) {f : FuncId} {an : Anns} {fuel : Nat} {ti to : Tm} (S : QSig ti to) {d : DF} (hd : tbl.fn f = some d) (hpr : tbl.prim f = none) (hp : d.pure = true) (hw : d.body.wf)
    {F : St ti → Option (St to)} (hF : ∀ x y, F x = some y → (symF tbl sp f an fuel ti to x).sem = some y) : u00 (calls tbl (ex tbl)) f (specO ti.gs (kinds to.gs) F) := by
  intro X h dh as das dcap v hcap I L hs
  simp only at hs
  split at hs
  · exact (T.sem_fail hs).elim
  rename_i hfit
  split at hs
  case h_2 => exact (T.sem_fail hs).elim
  rename_i x hx
  obtain ⟨y, h1, h2⟩ := T.sem_ask hs
  cases T.sem_ret h2
  exact specQ_ok SO S hd hpr hp hw hcap I L (by simpa using hfit) hx (hF x y h1)
theorem specT_ok {tbl : Table} {sp : Specs} (SO : u0F (calls tbl (ex tbl)) sp) {f : FuncId} {an : Anns} {fuel : Nat} {ti to : Tm} (S : QSig ti to) {d : DF} (hd : tbl.fn f = some d) (hpr : tbl.prim f = none) (hp : d.pure = true) (hw : d.body.wf)
    {F : St ti → St to} (hF : ∀ x, (symF tbl sp f an fuel ti to x).sem = some (F x)) : u00 (calls tbl (ex tbl)) f (specT ti.gs (kinds to.gs) F) := by
  intro X h dh as das dcap v hcap I L hs
  simp only at hs
  split at hs
  · exact (T.sem_fail hs).elim
  rename_i hfit
  split at hs
  case h_2 => exact (T.sem_fail hs).elim
  rename_i x hx
  cases T.sem_ret hs
  exact specQ_ok SO S hd hpr hp hw hcap I L (by simpa using hfit) hx (hF x)

end Go.Dv
/- The engine, second storey: a function's contract, as the printed text uses it. -/
namespace Go.Dv

theorem funOf_wf {P : Program} {pol : Pol} {f : FuncId} {d : DF} (h : funOf P pol f = some d) : d.body.wf := by
  unfold funOf at h
  split at h
  · cases h
  · split at h
    · cases h
    · split at h
      · rename_i b rs h3 h4
        split at h
        · cases h
        · cases h
          exact trCode_wf h3
      · cases h

theorem u08 {K : Oracle} : u0F K (spOf []) := fun f s h => by simp [spOf] at h
theorem u0c {K : Oracle} {f : FuncId} {s : Spec} {l : List (Nat × Spec)} (h1 : u00 K f s) (h2 : u0F K (spOf l)) : u0F K (spOf ((f, s) :: l)) := by
  intro g t h
  simp only [spOf, List.lookup_cons] at h
  by_cases e : g = f
  · subst e
    simp only [beq_self_eq_true, Option.some.injEq] at h
    subst h; exact h1
  · have : (g == f) = false := by simpa using e
    simp only [this] at h
    exact h2 g t h

theorem plugO {P : Program} {pol : Pol} {prim : FuncId → Option (List DV → Hp → Option (DV × Hp))} {sp : Specs} (SO : u0F (calls ⟨funOf P pol, prim⟩ (ex ⟨funOf P pol, prim⟩)) sp) {f : FuncId} {an : Anns} {fuel : Nat} {ti to : Tm}
    (S : QSig ti to) (hp : ((funOf P pol f).any DF.pure) = true) (hpr : prim f = none) {F : St ti → Option (St to)} (hF : ∀ x, (symF ⟨funOf P pol, prim⟩ sp f an fuel ti to x).sem = F x) :
    u00 (calls ⟨funOf P pol, prim⟩ (ex ⟨funOf P pol, prim⟩)) f (specO ti.gs (kinds to.gs) F) := by
  cases hd : funOf P pol f with
  | none => rw [hd] at hp; cases hp
  | some d =>
    rw [hd] at hp
    exact specO_ok SO S (tbl := ⟨funOf P pol, prim⟩) hd hpr hp (funOf_wf hd) (an := an) (fuel := fuel) (fun x y h => by rw [hF, h])

theorem plugT {P : Program} {pol : Pol} {prim : FuncId → Option (List DV → Hp → Option (DV × Hp))} {sp : Specs} (SO : u0F (calls ⟨funOf P pol, prim⟩ (ex ⟨funOf P pol, prim⟩)) sp) {f : FuncId} {an : Anns} {fuel : Nat} {ti to : Tm}
    (S : QSig ti to) (hp : ((funOf P pol f).any DF.pure) = true) (hpr : prim f = none) {F : St ti → St to} (h1 : ∀ x, (symF ⟨funOf P pol, prim⟩ sp f an fuel ti to x).sure = true)
    (h2 : ∀ x d, (symF ⟨funOf P pol, prim⟩ sp f an fuel ti to x).pick d = F x) :
    u00 (calls ⟨funOf P pol, prim⟩ (ex ⟨funOf P pol, prim⟩)) f (specT ti.gs (kinds to.gs) F) := by
  cases hd : funOf P pol f with
  | none => rw [hd] at hp; cases hp
  | some d =>
    rw [hd] at hp
    exact specT_ok SO S (tbl := ⟨funOf P pol, prim⟩) hd hpr hp (funOf_wf hd) (an := an) (fuel := fuel) (fun x => by rw [T.sure_sem (F x) (h1 x), h2])

end Go.Dv
/- The engine, second storey: functions that get boxes and whole blocks. -/
set_option linter.unusedVariables false
set_option linter.unusedSimpArgs false
namespace Go.Dv

def kdAll : List G → Bool
  | [] => true
  | .kd _ :: gs => kdAll gs
  | .fix _ :: _ => false
theorem RGs_kd {X Y : RX} : ∀ {gs gs' : List G} {cs cs' : List (List SV)} {Ds Ds' : List (List DV)}, kdAll gs = true → cs.length = gs.length → RVss X cs Ds → RGs X Y gs' cs' Ds' → RGs X Y (gs ++ gs') (cs ++ cs') (Ds ++ Ds')
  | [], gs', [], cs', [], Ds', _, _, _, k => k
  | .kd _ :: gs, gs', c :: cs, cs', D :: Ds, Ds', h, hl, hr, k => ⟨hr.1, RGs_kd h (by simpa using hl) hr.2 k⟩
  | .fix _ :: gs, gs', _, cs', _, Ds', h, hl, hr, k => by simp [kdAll] at h
  | [], _, _ :: _, _, _, _, _, hl, _, _ => by simp at hl
  | .kd _ :: _, _, [], _, _, _, _, hl, _, _ => by simp at hl
  | [], _, [], _, _ :: _, _, _, _, hr, _ => hr.elim
  | .kd _ :: _, _, _ :: _, _, [], _, _, _, hr, _ => hr.elim
theorem kdAll_fix {gs : List G} (h : kdAll gs = true) (v : SV) : G.fix v ∉ gs := by
  induction gs with
  | nil => simp
  | cons g gs ih =>
    cases g with
    | kd _ => simp only [kdAll] at h; simp [ih h]
    | fix _ => simp [kdAll] at h

def noFn : G → Bool
  | .fix (.fn _ _) => false
  | _ => true
def numK : Nat → List (Nat × SG) → Bool
  | _, [] => true
  | i, (n, .one g) :: r => n == i && noFn g && numK (i + 1) r
  | i, (n, .agg g) :: r => n == i && kdAll g && numK (i + 1) r
theorem cutB_len : ∀ (gs : List G) (cs : List SV), (cutB gs cs).length = gs.length
  | [], _ => rfl
  | g :: gs, cs => by simp [cutB, cutB_len gs]

theorem u3M {X Y : RX} {dl : List DV} : ∀ {slots : List (Nat × SG)} {i : Nat} {vs : List SV} {das : List DV} {cs : List (List SV)} {ps : List (Nat × Nat)}, numK i slots = true → (∀ k d, das[k]? = some d → gt dl (i + k) = d) → RVs X vs das →
    u0O slots vs = some (cs, ps) → (∀ b j, (b, j) ∈ ps → j < X.nb → b < Y.nb ∧ Y.bi b = X.bi j ∧ Y.bm b = X.bm j) →
    ∃ Ds, RGs X Y (u14 slots) cs Ds ∧ SlotD dl slots Ds ∧ (∀ v, G.fix v ∈ u14 slots → v.isAgg = false) ∧ vs.length = slots.length
  | [], i, [], [], cs, ps, _, _, _, e, _ => by
    simp only [u0O, Option.some.injEq, Prod.mk.injEq] at e
    obtain ⟨rfl, rfl⟩ := e
    exact ⟨[], trivial, trivial, by simp [u14], rfl⟩
  | [], i, [], d :: das, cs, ps, _, _, L, e, _ => L.elim
  | [], i, v :: vs, _, cs, ps, _, _, _, e, _ => by simp [u0O] at e
  | (n, sg) :: r, i, [], _, cs, ps, _, _, _, e, _ => by
    cases sg with
    | one g => cases g <;> simp [u0O] at e
    | agg g => simp [u0O] at e
  | (n, sg) :: r, i, v :: vs, [], cs, ps, _, _, L, e, _ => L.elim
  | (n, sg) :: r, i, v :: vs, d :: das, cs, ps, he, hd, L, e, hY => by
    obtain ⟨q, L⟩ := L
    have h0 : gt dl i = d := by simpa using hd 0 d rfl
    have hd' : ∀ k d, das[k]? = some d → gt dl (i + 1 + k) = d := fun k d' h => by
      have := hd (k + 1) d' (by simpa using h)
      rwa [show i + (k + 1) = i + 1 + k by omega] at this
    cases sg with
    | one g =>
      simp only [numK, Bool.and_eq_true, beq_iff_eq] at he
      obtain ⟨⟨rfl, hnf⟩, he⟩ := he
      cases g with
      | kd k =>
        simp only [u0O] at e
        split at e
        case isFalse => cases e
        rename_i hf
        split at e
        case h_2 => cases e
        rename_i cs' ps' hr
        cases e
        obtain ⟨Ds, g1, g2, g3, g4⟩ := u3M he hd' L hr hY
        simp only [G.fits, Bool.and_eq_true, beq_iff_eq] at hf
        obtain ⟨hf, hdef⟩ := hf
        have hne : v ≠ .undef := by intro e; rw [e] at hdef; cases hdef
        have hA : k.isAgg = true → ∃ ds, gt dl n = .agg ds := fun ha => by
          rw [h0]
          rcases u2x hne q with ⟨_, _, ds, e⟩ | ⟨e, _⟩
          · exact ⟨ds, e⟩
          · rw [hf, e] at ha; cases ha
        have hB : k.isAgg = false → (gt dl n).cells = [gt dl n] := fun ha => by
          rw [h0]
          rcases u2x hne q with ⟨_, e, _⟩ | ⟨_, e⟩
          · subst e; rw [hf] at ha; cases ha
          · exact e
        refine ⟨d.cells :: Ds, ⟨q.cellsOf hne, g1⟩, ⟨⟨by rw [h0], hA, hB⟩, g2⟩, fun w hw => ?_, by simp [g4]⟩
        · simp only [u14, List.mem_cons, reduceCtorEq, false_or] at hw
          exact g3 w hw
      | fix w =>
        unfold u0O at e
        split at e
        case h_1 heq _ => cases heq
        case h_3 heq _ => cases heq
        case h_5 heq _ => cases heq
        case h_6 => cases e
        case h_2 b r' j vs' heq1 heq2 =>
          simp only [List.cons.injEq, Prod.mk.injEq, SG.one.injEq, G.fix.injEq] at heq1 heq2
          obtain ⟨⟨_, rfl⟩, rfl⟩ := heq1
          obtain ⟨rfl, rfl⟩ := heq2
          split at e
          case h_2 => cases e
          rename_i cs' ps' hr
          cases e
          obtain ⟨Ds, g1, g2, g3, g4⟩ := u3M he hd' L hr (fun b j h => hY b j (List.mem_cons_of_mem _ h))
          simp only [RV] at q
          obtain ⟨q1, q2⟩ := q
          obtain ⟨y1, y2, y3⟩ := hY b j (List.mem_cons_self ..) q1
          refine ⟨[d] :: Ds, ⟨⟨d, rfl, by simp only [RV]; exact ⟨y1, by rw [y2, y3]; exact q2⟩⟩, g1⟩, ⟨by rw [h0], g2⟩, fun w hw => ?_, by simp [g4]⟩
          simp only [u14, List.mem_cons, G.fix.injEq] at hw
          rcases hw with rfl | hw
          · rfl
          · exact g3 w hw
        case h_4 heq1 heq =>
          simp only [List.cons.injEq, Prod.mk.injEq, SG.one.injEq, G.fix.injEq] at heq1
          rw [heq1.1.2] at hnf
          cases hnf
    | agg g =>
      simp only [numK, Bool.and_eq_true, beq_iff_eq] at he
      obtain ⟨⟨rfl, hk⟩, he⟩ := he
      simp only [u0O] at e
      split at e
      case isFalse => cases e
      rename_i hf
      split at e
      case h_2 => cases e
      rename_i cs' ps' hr
      cases e
      obtain ⟨Ds, g1, g2, g3, g4⟩ := u3M he hd' L hr hY
      have hne : v ≠ .undef := by intro e; rw [e] at hf; cases hf.1
      rcases u2x hne q with ⟨as, rfl, ds, rfl⟩ | ⟨e, _⟩
      · simp only [RV] at q
        obtain ⟨ds', e3, q⟩ := q
        cases e3
        simp only [SV.cells] at hf ⊢
        have hl : ds.length = gsize g := by rw [← q.length]; exact hf.2
        refine ⟨cutD g ds ++ Ds, RGs_kd hk (cutB_len _ _) (cut_rvs g q) g1, ⟨by rw [List.length_append, u23]; exact Nat.le_add_right _ _, ?_, ?_⟩, fun w hw => ?_, by simp [g4]⟩
        · rw [← u23 g ds, List.take_left, u46 g ds hl, h0]
        · rw [← u23 g ds, List.drop_left]; exact g2
        · simp only [u14, List.mem_append] at hw
          exact hw.elim (fun h => absurd h (kdAll_fix hk w)) (g3 w)
      · rw [e] at hf; cases hf.1

theorem boxAt_ok {X Y : RX} {h : SH} {dh : Hp} (I : Inv X h dh) {ps : List (Nat × Nat)} : ∀ {boxes : List (List G)} {k : Nat} {bs : List (List SV)} {is : List Nat} {bcs : List (List SV)}, boxes.all kdAll = true → boxAt h ps k boxes = some (bs, is) → u1D boxes bs = some bcs →
    (∀ q i, is[q]? = some i → Y.bi (k + q) = X.bi i ∧ Y.bm (k + q) = X.bm i) →
    ∃ Bs, RGs X Y boxes.flatten bcs Bs ∧ BoxD Y dh k boxes Bs ∧ is.length = boxes.length ∧ ∀ (q i : Nat), is[q]? = some i → ps.lookup (k + q) = some i ∧ i < X.nb
  | [], k, bs, is, bcs, hk, e, e2, hY => by
    simp only [boxAt, Option.some.injEq, Prod.mk.injEq] at e
    obtain ⟨rfl, rfl⟩ := e
    simp only [u1D, Option.some.injEq] at e2
    subst e2
    exact ⟨[], trivial, trivial, rfl, fun q i e => by simp at e⟩
  | g :: r, k, bs, is, bcs, hk, e, e2, hY => by
    simp only [boxAt] at e
    split at e
    case h_2 => cases e
    rename_i i hi
    split at e
    case h_2 => cases e
    rename_i c bs' is' hb hr
    cases e
    simp only [u1D] at e2
    split at e2
    case isFalse => cases e2
    rename_i hl
    rw [Option.map_eq_some_iff] at e2
    obtain ⟨l, h1, rfl⟩ := e2
    simp only [List.all_cons, Bool.and_eq_true] at hk
    obtain ⟨Bs, g1, g2, g3, g4⟩ := boxAt_ok I hk.2 hr h1 (fun q i e => by
      have := hY (q + 1) i (by simpa using e)
      rwa [show k + (q + 1) = k + 1 + q by omega] at this)
    obtain ⟨z, ds, e1, e2⟩ := I.box _ _ hb
    have hlen : ds.length = gsize g := by rw [← e2.length]; exact hl
    obtain ⟨y1, y2⟩ := hY 0 i rfl
    rw [Nat.add_zero] at y1 y2
    refine ⟨cutD g ds ++ Bs, ?_, ⟨by rw [List.length_append, u23]; exact Nat.le_add_right _ _, ⟨z, ?_⟩, ?_⟩, by simp [g3], fun q i' e => ?_⟩
    · rw [List.flatten_cons]
      exact RGs_kd hk.1 (cutB_len _ _) (cut_rvs g e2) g1
    · rw [← u23 g ds, List.take_left, u46 g ds hlen, y1, y2]; exact e1
    · rw [← u23 g ds, List.drop_left]; exact g2
    · cases q with
      | zero =>
        simp only [List.getElem?_cons_zero, Option.some.injEq] at e
        subst e
        rw [← I.nb]
        exact ⟨hi, u02 hb⟩
      | succ q =>
        have := g4 q i' (by simpa using e)
        rwa [show k + 1 + q = k + (q + 1) by omega] at this

def ptrsK : List (Nat × SG) → List Nat
  | (_, .one (.fix (.ptr b 0))) :: r => b :: ptrsK r
  | _ :: r => ptrsK r
  | [] => []
theorem argCells_ps : ∀ {slots : List (Nat × SG)} {vs : List SV} {cs : List (List SV)} {ps : List (Nat × Nat)}, u0O slots vs = some (cs, ps) → ps.map (·.1) = ptrsK slots := by
  intro slots vs
  fun_induction u0O slots vs <;> intro cs ps e
  all_goals first
    | (cases e; done)
    | (cases e; rfl)
    | (cases e; simp only [ptrsK, List.map_cons]; rename_i ih; rw [ih (by assumption)]; done)
    | (cases e; simp only [ptrsK]; rename_i ih; exact ih (by assumption))
    | skip
theorem u3k {i : Nat} {l : List Nat} (h : distinct (i :: l) = true) : i ∉ l ∧ distinct l = true := by
  simp only [distinct, Bool.and_eq_true, Bool.not_eq_true', List.contains_eq_mem, decide_eq_false_iff_not] at h
  exact h
theorem lookup_mem : ∀ {ps : List (Nat × Nat)} {b j : Nat}, distinct (ps.map (·.1)) = true → (b, j) ∈ ps → ps.lookup b = some j
  | [], _, _, _, h => by simp at h
  | (b', j') :: ps, b, j, hd, h => by
    obtain ⟨h1, h2⟩ := u3k hd
    rw [List.lookup_cons]
    by_cases e : b = b'
    · subst e
      simp only [beq_self_eq_true]
      rcases List.mem_cons.1 h with h | h
      · cases h; rfl
      · exact absurd (List.mem_map.2 ⟨_, h, rfl⟩) h1
    · have : (b == b') = false := by simpa using e
      simp only [this]
      rcases List.mem_cons.1 h with h | h
      · cases h; exact absurd rfl e
      · exact lookup_mem h2 h
theorem u5Y : ∀ {l : List Nat} {a b i : Nat}, distinct l = true → l[a]? = some i → l[b]? = some i → a = b
  | [], _, _, _, _, h, _ => by simp at h
  | x :: l, 0, 0, _, _, _, _ => rfl
  | x :: l, 0, b + 1, i, hd, h1, h2 => by
    simp only [List.getElem?_cons_zero, Option.some.injEq, List.getElem?_cons_succ] at h1 h2
    subst h1
    exact absurd (List.mem_of_getElem? h2) (u3k hd).1
  | x :: l, a + 1, 0, i, hd, h1, h2 => by
    simp only [List.getElem?_cons_zero, Option.some.injEq, List.getElem?_cons_succ] at h1 h2
    subst h2
    exact absurd (List.mem_of_getElem? h1) (u3k hd).1
  | x :: l, a + 1, b + 1, i, hd, h1, h2 => by
    simp only [List.getElem?_cons_succ] at h1 h2
    rw [u5Y (u3k hd).2 h1 h2]

structure KIn (ti : Tm) : Prop where
  n : numK 0 ti.slots = true
  b : ti.boxes.all kdAll = true
  d : distinct (ptrsK ti.slots) = true
  l : (ptrsK ti.slots).all (fun b => decide (b < ti.boxes.length)) = true
theorem u5P {X Y : RX} : ∀ {gs gs' : List G} {cs cs' : List (List SV)} {Ds Ds' : List (List DV)}, RGs X Y gs cs Ds → RGs X Y gs' cs' Ds' → RGs X Y (gs ++ gs') (cs ++ cs') (Ds ++ Ds')
  | [], _, [], _, [], _, _, k => k
  | .kd _ :: gs, _, c :: cs, _, D :: Ds, _, h, k => ⟨h.1, u5P h.2 k⟩
  | .fix _ :: gs, _, c :: cs, _, D :: Ds, _, h, k => ⟨h.1, u5P h.2 k⟩
  | [], _, _ :: _, _, _, _, h, _ => h.elim
  | [], _, [], _, _ :: _, _, h, _ => h.elim
  | .kd _ :: _, _, [], _, _, _, h, _ => h.elim
  | .fix _ :: _, _, [], _, _, _, h, _ => h.elim
  | .kd _ :: _, _, _ :: _, _, [], _, h, _ => h.elim
  | .fix _ :: _, _, _ :: _, _, [], _, h, _ => h.elim

theorem mem_taken : ∀ {gs : List G} {css : List (List SV)} {j : Nat}, some j ∈ ownJs gs css → j ∈ u2U gs css := by
  intro gs
  induction gs with
  | nil => intro css j h; simp [ownJs] at h
  | cons g gs ih =>
    intro css j h
    cases css with
    | nil => cases g with
      | fix v => simp [ownJs] at h
      | kd k => cases k <;> simp [ownJs] at h
    | cons c css =>
      cases g with
      | fix v => simp only [ownJs] at h; simp only [u2U]; exact ih h
      | kd k =>
        cases k with
        | own v z s =>
          simp only [ownJs, List.mem_cons] at h
          unfold u2U
          split
          · rename_i heq1 heq2
            simp only [List.cons.injEq, G.kd.injEq] at heq1 heq2
            obtain ⟨_, rfl⟩ := heq1
            obtain ⟨rfl, rfl⟩ := heq2
            rcases h with h | h
            · cases h; exact List.mem_cons_self ..
            · exact List.mem_cons_of_mem _ (ih h)
          · rename_i hno heq1 heq2
            simp only [List.cons.injEq] at heq1 heq2
            obtain ⟨rfl, rfl⟩ := heq1
            obtain ⟨rfl, rfl⟩ := heq2
            rcases h with h | h
            · split at h
              · rename_i j' ; exact (hno _ _ _ _ rfl rfl).elim
              · cases h
            · exact ih h
          · rename_i h1 h2
            exact (h2 _ _ _ _ rfl rfl).elim
        | _ => simp only [ownJs] at h; simp only [u2U]; exact ih h

theorem enter_ok {X : RX} {h : SH} {dh : Hp} {as : List SV} {das : List DV} {ti : Tm} {cs bs bcs : List (List SV)} {ps : List (Nat × Nat)} {is : List Nat} {x : St ti} {n : Nat} (S : KIn ti) (I : Inv X h dh) (L : RVs X as das)
    (hc : u0O ti.slots as = some (cs, ps)) (hb : boxAt h ps 0 ti.boxes = some (bs, is)) (hd : distinct is = true) (hbc : u1D ti.boxes bs = some bcs) (e : decG .no h ti.gs (cs ++ bcs) [] [] = some x) (hn : das.length ≤ n) :
    ∃ Y, Inv Y (enc n ti x).2 dh ∧ RVs Y (enc n ti x).1 (das ++ List.replicate (n - das.length) .undef) ∧ Step X h dh Y (enc n ti x).2 dh ∧ das.length = ti.slots.length ∧ Y.nb = ti.boxes.length ∧ is.length = ti.boxes.length ∧
      (∀ q i, is[q]? = some i → Y.bi q = X.bi i ∧ Y.bm q = X.bm i ∧ i < X.nb) ∧
      (∀ i, WR Y (enc n ti x).2 i → ∃ j ∈ u2U ti.gs (cs ++ bcs), ∃ z c m, h.R[j]? = some (.live false z c) ∧ (X.R j).1 = some (i, m)) ∧ (∀ i k, X.z i = some k → Y.z i = some k) ∧ (u24 h ti.gs (cs ++ bcs) = [] → ∀ i k, Y.z i = some k → X.z i = some k) := by
  let f : Nat → Nat := fun q => is.getD q 0
  let Y := overF f X h dh (ownJs ti.gs (cs ++ bcs)) (u24 h ti.gs (cs ++ bcs)) ti.boxes.length
  have hf : ∀ q i, is[q]? = some i → f q = i := fun q i h => by simp [f, h]
  obtain ⟨Bs, b1, b2, b3, b4⟩ := boxAt_ok (Y := Y) I S.b hb hbc (fun q i h => by
    rw [Nat.zero_add]
    exact ⟨by show X.bi (f q) = _; rw [hf q i h], by show X.bm (f q) = _; rw [hf q i h]⟩)
  have hps := argCells_ps hc
  let dl := das ++ List.replicate (n - das.length) DV.undef
  obtain ⟨Ds, g1, g2, g3, g4⟩ := u3M (X := X) (Y := Y) (dl := dl) S.n (fun k d hk => by
    rw [Nat.zero_add]
    show gt (das ++ _) k = d
    unfold gt
    simp [List.getElem?_append_left (u02 hk), hk]) L hc (fun b j hm hj => by
    have hbp : b ∈ ptrsK ti.slots := by rw [← hps]; exact List.mem_map.2 ⟨_, hm, rfl⟩
    have hlt : b < ti.boxes.length := by have := List.all_eq_true.1 S.l b hbp; simpa using this
    have hq : is[b]? = some is[b] := List.getElem?_eq_getElem (by rw [b3]; exact hlt)
    obtain ⟨k1, k2⟩ := b4 b _ hq
    rw [Nat.zero_add, lookup_mem (by rw [hps]; exact S.d) hm] at k1
    have k1 := Option.some.inj k1
    refine ⟨hlt, ?_, ?_⟩
    · show X.bi (f b) = _; rw [hf b _ hq, ← k1]
    · show X.bm (f b) = _; rw [hf b _ hq, ← k1])
  have hk : RGs X Y ti.gs (cs ++ bcs) (Ds ++ Bs) := u5P g1 b1
  have hfix : ∀ v, G.fix v ∈ u14 ti.slots ++ ti.boxes.flatten → v.isAgg = false := by
    intro v hv
    rcases List.mem_append.1 hv with hv | hv
    · exact g3 v hv
    · obtain ⟨g, hg, hv⟩ := List.mem_flatten.1 hv
      exact absurd hv (kdAll_fix (List.all_eq_true.1 S.b g hg) v)
  have ov := overF_z (f := f) I (js := ownJs ti.gs (cs ++ bcs)) (seen := u24 h ti.gs (cs ++ bcs)) (nb := ti.boxes.length)
  obtain ⟨vs, N, e1, e2, e3, e4⟩ := encG_ok I ov.z (R := []) e hk ov (fun k o hko => by
    refine ⟨by simpa [overF] using u02 hko, ?_⟩
    simp only [overF, List.length_nil, Nat.zero_add, hko]
    cases o <;> rfl)
  rw [List.nil_append] at e1
  obtain ⟨_, d2, d3⟩ := decG_disj e
  have hlen : das.length = ti.slots.length := by rw [← L.length, g4]
  obtain ⟨y1, y2⟩ := u5F (Y := Y) (dl := dl) (l0 := List.replicate n .undef) hfix e2 g2 (by
    refine RVs.mk (by simp [dl]; omega) fun n v d h1 _ => ?_
    rw [List.getElem?_replicate] at h1
    split at h1
    · cases h1; simp [RV]
    · cases h1)
  obtain ⟨z1, z2⟩ := layB_ok (fun v hv => hfix v (List.mem_append_right _ hv)) y2 b2
  have hen : enc n ti x = (layS ti.slots (u1l ti.slots vs).1 (List.replicate n .undef), ⟨layB ti.boxes (u1l ti.slots vs).2, N⟩) := by
    simp only [enc]; rw [e1]
  rw [hen]
  obtain ⟨i1, i2⟩ := over_invF (f := f) I (B := layB ti.boxes (u1l ti.slots vs).2) d2 (fun j hj => (d3 j (.inr hj)).2) e3 e4 z1 (fun q cs hq => by
      have := z2 q cs hq
      rw [Nat.zero_add] at this
      exact this) (fun q hq => by
      have hq' : is[q]? = some is[q] := List.getElem?_eq_getElem (by rw [b3]; exact hq)
      rw [hf q _ hq']; exact (b4 q _ hq').2) (fun q q' hq hq' he => by
      have h1 : is[q]? = some is[q] := List.getElem?_eq_getElem (by rw [b3]; exact hq)
      have h2 : is[q']? = some is[q'] := List.getElem?_eq_getElem (by rw [b3]; exact hq')
      rw [hf q _ h1, hf q' _ h2] at he
      rw [← he] at h2
      exact u5Y hd h1 h2)
  refine ⟨Y, i1, y1, i2, hlen, rfl, b3, fun q i hq => ⟨by show X.bi (f q) = _; rw [hf q i hq], by show X.bm (f q) = _; rw [hf q i hq], (b4 q i hq).2⟩, fun i w => ?_, fun i k e => by simp only [Y, overF, e], fun hs i k e => ?_⟩
  rotate_left
  · rcases (u4f I e).2 with e | ⟨j, hj, _⟩
    · exact e
    · rw [hs] at hj; cases hj
  obtain ⟨k, z, c, m, w1, w2⟩ := w
  have hk' : k < (ownJs ti.gs (cs ++ bcs)).length := by rw [← e3]; exact u02 w1
  have ho := List.getElem?_eq_getElem hk'
  obtain ⟨z1, c1, r1, r2⟩ := e4 k _ _ w1 ho
  simp only [Y, overF, ho] at w2
  cases hj : (ownJs ti.gs (cs ++ bcs))[k] with
  | none => rw [hj] at w2; cases w2
  | some j =>
    rw [hj] at w2 r2 ho
    obtain ⟨⟨z0, c0, l0⟩, _⟩ := r2
    exact ⟨j, mem_taken (List.mem_of_getElem? ho), z0, c0, m, l0, w2⟩

end Go.Dv
/- The engine, second storey: the way back of a call that got boxes and whole blocks. -/
set_option linter.unusedVariables false
set_option linter.unusedSimpArgs false
namespace Go.Dv

theorem own1_ok {X Y : RX} {v : SV} {d : DV} (h : v.own1 = true) (k : RV X v d) : RV Y v d := by
  cases v <;> first
    | (simp only [RV] at k ⊢; exact k)
    | (simp [SV.own1] at h)
theorem own1s_ok {X Y : RX} : ∀ {vs : List SV} {ds : List DV}, vs.all SV.own1 = true → RVs X vs ds → RVs Y vs ds
  | [], [], _, _ => trivial
  | v :: vs, d :: ds, h, k => by
    simp only [List.all_cons, Bool.and_eq_true] at h
    exact ⟨own1_ok h.1 k.1, own1s_ok h.2 k.2⟩
  | [], _ :: _, _, k => k.elim
  | _ :: _, [], _, k => k.elim
theorem cellsA_own1 : ∀ (s : Sh) (x : El s) (r : List SV), r.all SV.own1 = true → (u0f s x r).all SV.own1 = true := by
  intro s
  induction s with
  | pair a b iha ihb => intro x r h; simp only [u0f]; exact iha _ _ (ihb _ _ h)
  | tree a ih => intro x r h; simp only [u0f]; first | exact ih _ _ (by simp only [List.all_cons, Bool.and_eq_true]; exact ⟨rfl, h⟩) | (simp only [List.all_cons, Bool.and_eq_true]; exact ⟨rfl, h⟩)
  | uno a ih => exact ih
  | mark a ih => exact fun x r h => ih x.2 r h
  | _ => intro x r h; simp only [u0f, List.all_cons, Bool.and_eq_true]; exact ⟨rfl, h⟩

theorem RGv_to {X Y : RX} (hR : ∀ j, X.R j = Y.R j) (hc : X.c = Y.c) : ∀ {gs : List G} {x : KTy (kinds gs)} {R : List RB} {Ds : List (List DV)}, noView gs = true → RGv X gs (encG gs x R).1 Ds → RGv Y gs (encG gs x R).1 Ds := by
  intro gs
  induction gs with
  | nil =>
    intro x R Ds _ h
    cases Ds with
    | nil => trivial
    | cons _ _ => exact h.elim
  | cons g gs ih =>
    intro x R Ds hn h
    cases g with
    | fix v =>
      simp only [noView, Bool.and_eq_true] at hn
      simp only [encG] at h ⊢
      cases Ds with
      | nil => exact h.elim
      | cons D Ds =>
        obtain ⟨⟨h1, d, h2, h3⟩, h4⟩ := h
        exact ⟨⟨h1, d, h2, own1_ok hn.1 h3⟩, ih hn.2 h4⟩
    | kd k =>
      cases k with
      | val s =>
        simp only [noView] at hn
        simp only [encG] at h ⊢
        cases Ds with
        | nil => exact h.elim
        | cons D Ds =>
          obtain ⟨⟨h1, h2, h3⟩, h4⟩ := h
          refine ⟨⟨own1s_ok ?_ h1, h2, h3⟩, ih hn h4⟩
          rw [(u4b s _).1]
          exact cellsA_own1 s _ [] rfl
      | own v z s =>
        cases v with
        | true => simp [noView] at hn
        | false =>
          simp only [noView] at hn
          simp only [encG] at h ⊢
          cases Ds with
          | nil => exact h.elim
          | cons D Ds =>
            obtain ⟨⟨h1, h2, h3⟩, h4⟩ := h
            refine ⟨⟨?_, h2, h3⟩, ih hn h4⟩
            simp only [SV.cells] at h1 ⊢
            cases D with
            | nil => exact h1.elim
            | cons d D =>
              refine ⟨?_, by cases D with
                | nil => trivial
                | cons _ _ => exact h1.2.elim⟩
              have := h1.1
              simp only [RV] at this ⊢
              rw [← hR, ← hc]; exact this
      | view v s => simp [noView] at hn
      | at_ s => simp [noView] at hn
      | clo f s => simp [noView] at hn

theorem layS_numK : ∀ {slots : List (Nat × SG)} {pre : List SV} {vs : List SV} {m : Nat}, numK pre.length slots = true → vs.length = slots.length → slots.length ≤ m →
    layS slots vs (pre ++ List.replicate m .undef) = pre ++ vs ++ List.replicate (m - slots.length) .undef
  | [], pre, [], m, _, _, _ => by simp [layS]
  | [], _, _ :: _, _, _, h, _ => by simp at h
  | _ :: r, pre, [], m, _, h, _ => by simp at h
  | _ :: r, pre, v :: vs, 0, _, _, h => by simp at h
  | (n, g) :: r, pre, v :: vs, m + 1, he, h, hm => by
    have he' : n = pre.length ∧ numK (pre.length + 1) r = true := by
      cases g <;> simp only [numK, Bool.and_eq_true, beq_iff_eq] at he <;> exact ⟨he.1.1, he.2⟩
    obtain ⟨rfl, he2⟩ := he'
    simp only [layS]
    have e1 : (pre ++ List.replicate (m + 1) SV.undef).set pre.length v = (pre ++ [v]) ++ List.replicate m .undef := by
      rw [List.set_append_right _ _ (Nat.le_refl _), Nat.sub_self, List.replicate_succ, List.set_cons_zero, List.append_assoc]; rfl
    rw [e1, layS_numK (pre := pre ++ [v]) (by simpa using he2) (by simpa using h) (by simpa using hm)]
    simp
theorem u5s : ∀ {slots : List (Nat × SG)} {vs : List SV}, (u14 slots).length ≤ vs.length → (u1l slots vs).1.length = slots.length
  | [], vs, _ => rfl
  | (n, .one g) :: r, [], h => by simp [u14] at h
  | (n, .one g) :: r, v :: vs, h => by
    simp only [u14, List.length_cons] at h
    simp only [u1l, List.length_cons]
    rw [u5s (by omega)]
  | (n, .agg g) :: r, vs, h => by
    simp only [u14, List.length_append] at h
    simp only [u1l, List.length_cons]
    rw [u5s (by simp; omega)]
theorem kill_at : ∀ (ts : List Nat) (R : List RB) (j : Nat) (rb : RB), (kill ts R)[j]? = some rb → rb = .dead ∨ (j ∉ ts ∧ R[j]? = some rb)
  | [], R, j, rb, h => .inr ⟨by simp, h⟩
  | t :: ts, R, j, rb, h => by
    simp only [kill] at h
    rcases kill_at ts _ j rb h with h | ⟨h1, h2⟩
    · exact .inl h
    · rw [List.getElem?_set] at h2
      split at h2
      · split at h2
        · cases h2; exact .inl rfl
        · cases h2
      · rename_i hne
        exact .inr ⟨by simp only [List.mem_cons, not_or]; exact ⟨fun e => hne e.symm, h1⟩, h2⟩
theorem kill_len : ∀ (ts : List Nat) (R : List RB), (kill ts R).length = R.length
  | [], _ => rfl
  | t :: ts, R => by simp only [kill]; rw [kill_len ts]; simp

theorem setB_len : ∀ (is : List Nat) (L B : List (List SV)), (setB is L B).length = B.length
  | [], _, _ => by simp [setB]
  | i :: is, [], B => by simp [setB]
  | i :: is, cs :: L, B => by simp only [setB]; rw [setB_len is]; simp
theorem setB_at : ∀ {is : List Nat} {L B : List (List SV)} {i : Nat} {cs : List SV}, is.length = L.length → (setB is L B)[i]? = some cs → (∃ q : Nat, is[q]? = some i ∧ L[q]? = some cs) ∨ (i ∉ is ∧ B[i]? = some cs)
  | [], L, B, i, cs, _, h => .inr ⟨by simp, by simpa [setB] using h⟩
  | j :: is, [], B, i, cs, hl, h => by simp at hl
  | j :: is, c :: L, B, i, cs, hl, h => by
    simp only [setB] at h
    rcases setB_at (by simpa using hl) h with ⟨q, h1, h2⟩ | ⟨h1, h2⟩
    · exact .inl ⟨q + 1, by simpa using h1, by simpa using h2⟩
    · rw [List.getElem?_set] at h2
      split at h2
      · rename_i hji
        subst hji
        split at h2
        · cases h2; exact .inl ⟨0, rfl, rfl⟩
        · cases h2
      · rename_i hne
        exact .inr ⟨by simp only [List.mem_cons, not_or]; exact ⟨fun e => hne e.symm, h1⟩, h2⟩
theorem encG_rows : ∀ {gs : List G} {x : KTy (kinds gs)} {R : List RB}, noView gs = true → ∃ N, (encG gs x R).2 = R ++ N ∧ ∀ rb ∈ N, ∃ z s l, rb = .live false z (.typed false s l) := by
  intro gs
  induction gs with
  | nil => intro x R _; exact ⟨[], by simp [encG], by simp⟩
  | cons g gs ih =>
    intro x R hn
    cases g with
    | fix v =>
      simp only [noView, Bool.and_eq_true] at hn
      simp only [encG]
      exact ih hn.2
    | kd k =>
      cases k with
      | val s =>
        simp only [noView] at hn
        simp only [encG]
        exact ih hn
      | own v z s =>
        cases v with
        | true => simp [noView] at hn
        | false =>
          simp only [noView] at hn
          simp only [encG]
          obtain ⟨N, h1, h2⟩ := ih (x := KTy.tl _ _ x) (R := R ++ [.live false z (.typed false s (KTy.hd (.own false z s) (kinds gs) x))]) hn
          refine ⟨.live false z (.typed false s (KTy.hd (.own false z s) (kinds gs) x)) :: N, by rw [h1, List.append_assoc]; rfl, fun rb hrb => ?_⟩
          rcases List.mem_cons.1 hrb with rfl | hrb
          · exact ⟨_, _, _, rfl⟩
          · exact h2 rb hrb
      | view v s => simp [noView] at hn
      | at_ s => simp [noView] at hn
      | clo f s => simp [noView] at hn
theorem u2T {n : Nat} : ∀ {gs : List G}, u3u gs = true → fixLt n gs = true
  | [], _ => rfl
  | .kd (.val _) :: gs, h => u2T (gs := gs) h
  | .kd (.own _ _ _) :: gs, h => u2T (gs := gs) h
  | .kd (.view _ _) :: gs, h => u2T (gs := gs) h
  | .kd (.at_ _) :: gs, h => by simp [u3u] at h
  | .kd (.clo _ _) :: gs, h => by simp [u3u] at h
  | .fix v :: gs, h => by
    simp only [u3u, Bool.and_eq_true] at h
    cases v <;> first
      | (simp only [fixLt]; exact u2T h.2)
      | (simp [SV.own1] at h)
theorem RGv.mono {X Y : RX} (le : X.le Y) : ∀ {gs : List G} {vs : List SV} {Ds : List (List DV)}, RGv X gs vs Ds → RGv Y gs vs Ds
  | [], [], [], _ => trivial
  | .kd _ :: gs, v :: vs, D :: Ds, h => ⟨⟨h.1.1.mono le, h.1.2⟩, RGv.mono le h.2⟩
  | .fix v :: gs, w :: vs, D :: Ds, h => by
    obtain ⟨⟨h1, d, h2, h3⟩, h4⟩ := h
    exact ⟨⟨h1, d, h2, h3.mono le⟩, RGv.mono le h4⟩
  | [], _ :: _, _, h => h.elim
  | [], [], _ :: _, h => h.elim
  | .kd _ :: _, [], _, h => h.elim
  | .kd _ :: _, _ :: _, [], h => h.elim
  | .fix _ :: _, [], _, h => h.elim
  | .fix _ :: _, _ :: _, [], h => h.elim

end Go.Dv
/- The engine, second storey: the way back of a call, joined. -/
set_option linter.unusedVariables false
set_option linter.unusedSimpArgs false
namespace Go.Dv

structure KOut (ti to : Tm) : Prop where
  n : numK 0 to.slots = true
  b : to.boxes.all kdAll = true
  l : to.boxes.length = ti.boxes.length
  v : u3u to.gs = true

open Classical in
noncomputable def backX (X X' : RX) (keep : Nat → Prop) (W : Nat → Option Blk) (js : List (Option Nat)) : RX where
  z i := if keep i then X.z i else W i
  c := X.c + js.length
  R q := if q < X.c then X.R q else match js[q - X.c]? with
    | some (some j) => X'.R j
    | _ => (none, 0)
  nb := X.nb
  bi := X.bi
  bm := X.bm
theorem backX_le {X X' : RX} {keep : Nat → Prop} {W : Nat → Option Blk} {js : List (Option Nat)} (hk : ∀ i k, X.z i = some k → keep i) : X.le (backX X X' keep W js) :=
  ⟨fun i k h => by simp only [backX]; rw [if_pos (hk i k h)]; exact h, Nat.le_add_right _ _, fun j hj => by simp only [backX]; rw [if_pos hj], Nat.le_refl _, fun _ _ => ⟨rfl, rfl⟩⟩

theorem RGs_to {X Y Z : RX} : ∀ {gs : List G} {css : List (List SV)} {Ds : List (List DV)}, u3u gs = true → RGs X Y gs css Ds → RGs X Z gs css Ds
  | [], [], [], _, _ => trivial
  | .kd k :: gs, c :: cs, D :: Ds, hn, h => ⟨h.1, RGs_to (by cases k with
      | val _ => exact hn
      | own v _ _ => exact hn
      | view _ _ => exact hn
      | at_ _ => simp [u3u] at hn
      | clo _ _ => simp [u3u] at hn) h.2⟩
  | .fix v :: gs, c :: cs, D :: Ds, hn, h => by
    simp only [u3u, Bool.and_eq_true] at hn
    obtain ⟨⟨d, h1, h2⟩, h3⟩ := h
    exact ⟨⟨d, h1, own1_ok hn.1 h2⟩, RGs_to hn.2 h3⟩
  | [], _ :: _, _, _, h => h.elim
  | [], [], _ :: _, _, h => h.elim
  | .kd _ :: _, [], _, _, h => h.elim
  | .kd _ :: _, _ :: _, [], _, h => h.elim
  | .fix _ :: _, [], _, _, h => h.elim
  | .fix _ :: _, _ :: _, [], _, h => h.elim

theorem leave_ok {X Y X' : RX} {h hY h' : SH} {dh dh' : Hp} {ti to : Tm} {rv : List SV} {ds : List DV} {y : St to} {taken is : List Nat} (K : KOut ti to)
    (I : Inv X h dh) (IY : Inv Y hY dh) (I' : Inv X' h' dh') (S1 : Step X h dh Y hY dh) (S2 : Step Y hY dh X' h' dh')
    (hW : ∀ i, WR Y hY i → ∃ j ∈ taken, ∃ z c m, h.R[j]? = some (.live false z c) ∧ (X.R j).1 = some (i, m)) (hz : ∀ i k, X.z i = some k → Y.z i = some k) (hsn : noView to.gs = true ∨ ∀ i k, Y.z i = some k → X.z i = some k)
    (hnb : Y.nb = ti.boxes.length) (hil : is.length = ti.boxes.length) (hid : distinct is = true) (hib : ∀ q i, is[q]? = some i → Y.bi q = X.bi i ∧ Y.bm q = X.bm i ∧ i < X.nb)
    (hag : ti.boxes.length ≤ X'.nb ∧ ∀ q, q < ti.boxes.length → X'.bi q = Y.bi q ∧ X'.bm q = Y.bm q)
    (L : RVs X' rv ds) (hds : ds.length = to.slots.length) (e : decT to rv h' = some y) :
    ∃ X2, X.le X2 ∧ Inv X2 ⟨setB is (layB to.boxes (u1l to.slots (encG to.gs y (kill taken h.R)).1).2) h.B, (encG to.gs y (kill taken h.R)).2⟩ dh' ∧
      RVs X2 (u1l to.slots (encG to.gs y (kill taken h.R)).1).1 ds ∧
      Step X h dh X2 ⟨setB is (layB to.boxes (u1l to.slots (encG to.gs y (kill taken h.R)).1).2) h.B, (encG to.gs y (kill taken h.R)).2⟩ dh' ∧
      ∀ i, i < X.nb → i ∉ is → dh'.B[X.bi i]? = dh.B[X.bi i]? := by
  unfold decT at e
  split at e
  case h_2 => cases e
  rename_i cs bs hc hb
  split at e
  case isFalse => cases e
  obtain ⟨Ds, s1, s2⟩ := u2R L hc
  obtain ⟨Bs, b1, b2⟩ := u4I I' (i := 0) (by simpa using hb)
  have hk : RVss X' (cs ++ bs) (Ds ++ Bs) := RRows.append s1 b1
  let js := ownJs to.gs (cs ++ bs)
  let W := overF id X' h' dh' js (u24 h' to.gs (cs ++ bs)) 0
  let keep : Nat → Prop := fun i => i < dh.R.length ∧ ¬ WR Y hY i
  let X2 := backX X X' keep W.z js
  let Xp : RX := { X2 with z := W.z }
  obtain ⟨g1, g2⟩ := toRGs (X := X') (Y := W) (fix_over (X := X') (Y := W) ⟨rfl, rfl⟩) e (u2T K.v) hk
  have zW : ∀ i k, X.z i = some k → ¬ WR Y hY i := by
    rintro i k hzi ⟨k2, z2, c2, m2, a1, a2⟩
    have RO := IY.row _ _ _ _ a1
    unfold RowOk at RO
    rw [a2] at RO
    obtain ⟨_, b, _, _, _, _, _, b7⟩ := RO
    simp only [FzOk] at b7
    rw [hz i k hzi] at b7
    cases b7.1
  have kz : ∀ i k, X.z i = some k → keep i := fun i k e => ⟨u02 (I.z i k e), zW i k e⟩
  have le2 : X.le X2 := backX_le kz
  have zp : noView to.gs = false → ∀ i k, W.z i = some k → X2.z i = some k := by
    intro hv i k e
    have hsn := hsn.resolve_left (by rw [hv]; simp)
    simp only [X2, backX]
    split
    · rename_i hk
      rcases (u4f I' e).2 with e | ⟨j, _, z, c, m, a1, a2⟩
      · rcases S2.zn i k e with e | w | w
        · exact hsn i k e
        · exact absurd w hk.2
        · exact absurd hk.1 (Nat.not_lt.mpr w)
      · rcases S2.wr i ⟨j, z, c, m, a1, a2⟩ with w | w
        · exact absurd w hk.2
        · exact absurd hk.1 (Nat.not_lt.mpr w)
    · exact e
  have leP : noView to.gs = false → Xp.le X2 := fun hv => ⟨zp hv, Nat.le_refl _, fun _ _ => rfl, Nat.le_refl _, fun _ _ => ⟨rfl, rfl⟩⟩
  have ovW : Over X' W h' dh' (u24 h' to.gs (cs ++ bs)) := overF_z I'
  have ov : Over X' Xp h' dh' (u24 h' to.gs (cs ++ bs)) := ⟨ovW.z, ovW.own⟩
  have hR0 : (kill taken h.R).length = X.c := by rw [kill_len, I.c]
  obtain ⟨vs, N, e1, e2, e3, e4⟩ := encG_ok I' (Y := Xp) ov.z (R := kill taken h.R) e (RGs_to K.v g1) ov (fun k o hko => by
    rw [hR0]
    refine ⟨Nat.add_lt_add_left (u02 hko) _, ?_⟩
    show (if X.c + k < X.c then X.R (X.c + k) else _) = _
    rw [if_neg (by omega), Nat.add_sub_cancel_left]
    show (match js[k]? with | some (some j) => X'.R j | _ => (none, 0)) = _
    rw [show js[k]? = some o from hko]
    cases o <;> rfl)
  obtain ⟨d1, d2, d3⟩ := decG_disj e
  have hvs : (encG to.gs y (kill taken h.R)).1 = vs := by rw [e1]
  have hNs : (encG to.gs y (kill taken h.R)).2 = kill taken h.R ++ N := by rw [e1]
  have e2' : RGv X2 to.gs vs (Ds ++ Bs) := by
    rw [← hvs] at e2 ⊢
    cases hv : noView to.gs with
    | true => exact RGv_to (X := Xp) (Y := X2) (fun _ => rfl) rfl hv e2
    | false => exact e2.mono (leP hv)
  obtain ⟨y1, y2⟩ := u5F (Y := X2) (dl := ds) (l0 := List.replicate ds.length .undef) g2 e2' s2 (by
    refine RVs.mk (by simp) fun n v d h1 _ => ?_
    rw [List.getElem?_replicate] at h1
    split at h1
    · cases h1; simp [RV]
    · cases h1)
  obtain ⟨z1, z2⟩ := layB_ok (fun v hv => g2 v (List.mem_append_right _ hv)) y2 b2
  rw [hvs, hNs]
  have hlen : (u1l to.slots vs).1.length = to.slots.length := by
    refine u5s ?_
    have := (RGv.length e2').1
    rw [this]
    simp [Tm.gs]
  have lay := layS_numK (pre := []) (m := ds.length) K.n hlen (by omega)
  simp only [List.nil_append, hds, Nat.sub_self, List.replicate_zero, List.append_nil] at lay
  rw [hds, lay] at y1
  have hbox : ∀ i, i < X.nb → i ∉ is → dh'.B[X.bi i]? = dh.B[X.bi i]? := by
    intro i hi hni
    have hlt : X.bi i < dh.B.length := by
      obtain ⟨z, ds, h1, _⟩ := I.box i _ (List.getElem?_eq_getElem (by rw [I.nb]; exact hi))
      exact u02 h1
    refine S2.boxes _ hlt fun q hq he => ?_
    have hq' : is[q]? = some is[q] := List.getElem?_eq_getElem (by rw [hil, ← hnb]; exact hq)
    obtain ⟨h1, _, h3⟩ := hib q _ hq'
    rw [h1] at he
    exact hni (by rw [← I.bdist _ _ h3 hi he]; exact List.mem_of_getElem? hq')
  have notW : ∀ j fz z c i m, j ∉ taken → h.R[j]? = some (.live fz z c) → (X.R j).1 = some (i, m) → ¬ WR Y hY i := by
    intro j fz z c i m hj hl hr w
    cases fz with
    | false =>
      obtain ⟨j', hj', z', c', m', l', r'⟩ := hW i w
      have := I.dist _ _ _ _ _ _ _ _ _ hl l' hr r'
      subst this
      exact hj hj'
    | true =>
      have RO := I.row _ _ _ _ hl
      unfold RowOk at RO
      rw [hr] at RO
      obtain ⟨_, b, _, _, _, _, _, b7⟩ := RO
      exact zW i b b7 w
  have inlen : ∀ j fz z c i m, h.R[j]? = some (.live fz z c) → (X.R j).1 = some (i, m) → i < dh.R.length := by
    intro j fz z c i m hl hr
    have RO := I.row _ _ _ _ hl
    unfold RowOk at RO
    rw [hr] at RO
    obtain ⟨_, b, b1, _⟩ := RO
    exact u02 b1
  -- a block that is told: where it lies
  have newAt : ∀ {k : Nat} {fz : Bool} {z : Nat} {c : RC}, N[k]? = some (.live fz z c) → ∃ o, js[k]? = some o ∧ fz = false ∧ RowNew X' Xp h' dh' o (.live false z c) := by
    intro k fz z c e
    have hk : k < js.length := by rw [← e3]; exact u02 e
    have hr := e4 k _ _ e (List.getElem?_eq_getElem hk)
    obtain ⟨z', c', h1, h2⟩ := hr
    cases h1
    exact ⟨_, List.getElem?_eq_getElem hk, rfl, z, c, rfl, h2⟩
  have newW : ∀ {k : Nat} {fz : Bool} {z : Nat} {c : RC} {i m : Nat}, N[k]? = some (.live fz z c) → (X2.R (X.c + k)).1 = some (i, m) → ∃ j0, js[k]? = some (some j0) ∧ (X'.R j0).1 = some (i, m) ∧ WR X' h' i ∧ (WR Y hY i ∨ dh.R.length ≤ i) := by
    intro k fz z c i m hn hr
    obtain ⟨o, ho, _, z', c', _, h2⟩ := newAt hn
    have : X2.R (X.c + k) = match js[k]? with | some (some j) => X'.R j | _ => (none, 0) := by
      show (if X.c + k < X.c then X.R (X.c + k) else _) = _
      rw [if_neg (by omega), Nat.add_sub_cancel_left]
    rw [this, ho] at hr
    cases o with
    | none => cases hr
    | some j0 =>
      obtain ⟨⟨z0, c0, l0⟩, _⟩ := h2
      have w : WR X' h' i := ⟨j0, z0, c0, m, l0, hr⟩
      exact ⟨j0, ho, hr, w, S2.wr i w⟩
  have S12 := S1.trans S2
  have oldOr : ∀ {j : Nat} {fz : Bool} {z : Nat} {c : RC}, (kill taken h.R ++ N)[j]? = some (.live fz z c) → (j < X.c ∧ j ∉ taken ∧ h.R[j]? = some (.live fz z c) ∧ X2.R j = X.R j) ∨ ∃ k, j = X.c + k ∧ N[k]? = some (.live fz z c) := by
    intro j fz z c e
    by_cases hj : j < X.c
    · rw [List.getElem?_append_left (by rw [hR0]; exact hj)] at e
      rcases kill_at _ _ _ _ e with h | ⟨h1, h2⟩
      · cases h
      · exact .inl ⟨hj, h1, h2, by show (if j < X.c then X.R j else _) = _; rw [if_pos hj]⟩
    · rw [List.getElem?_append_right (by rw [hR0]; omega), hR0] at e
      exact .inr ⟨j - X.c, by omega, e⟩
  refine ⟨X2, le2, ⟨?_, ?_, ?_, I.bdist, ?_, ?_, ?_⟩, y1, ⟨S12.rows, S12.rlen, S12.boxes, S12.blen, ?_, fun i hi => .inl ⟨i, hi, rfl⟩, ?_⟩, hbox⟩
  · simp only [List.length_append, hR0, e3]; rfl
  · simp only [setB_len]; exact I.nb
  · intro i cs hi
    rcases setB_at (by rw [hil, z1, K.l]) hi with ⟨q, q1, q2⟩ | ⟨q1, q2⟩
    · obtain ⟨z, ds', f1, f2⟩ := z2 q cs q2
      rw [Nat.zero_add] at f1
      have hq : q < ti.boxes.length := by rw [← hil]; exact u02 q1
      obtain ⟨b1, b2⟩ := hag.2 q hq
      obtain ⟨b3, b4, _⟩ := hib q i q1
      rw [b1, b2, b3, b4] at f1
      exact ⟨z, ds', f1, f2⟩
    · obtain ⟨z, ds', f1, f2⟩ := I.box i cs q2
      refine ⟨z, ds', ?_, f2.mono le2⟩
      show dh'.B[X.bi i]? = _
      rw [hbox i (by rw [← I.nb]; exact u02 q2) q1]; exact f1
  · intro i k hk
    simp only [X2, backX] at hk
    split at hk
    · rename_i hkp
      rw [S2.rows i hkp.1 hkp.2]; exact I.z i k hk
    · exact (u4f I' hk).1
  · intro j fz z c e
    rcases oldOr e with ⟨h1, h2, h3, h4⟩ | ⟨k, rfl, hn⟩
    · have RO := I.row _ _ _ _ h3
      unfold RowOk at RO ⊢
      rw [h4]
      refine ⟨RO.1, ?_⟩
      cases hr : (X.R j).1 with
      | none => have q := RO.2; rw [hr] at q; exact q.mono le2
      | some p =>
        obtain ⟨i, m⟩ := p
        have q := RO.2
        rw [hr] at q
        obtain ⟨b, b1, b2, b3, b4, b5, b6⟩ := q
        refine ⟨b, by rw [S2.rows i (u02 b1) (notW _ _ _ _ _ _ h2 h3 hr)]; exact b1, b2, b3, b4, b5.mono le2, ?_⟩
        cases fz with
        | true => exact le2.z _ _ b6
        | false =>
          refine ⟨?_, b6.2⟩
          simp only [X2, backX]
          rw [if_pos ⟨u02 b1, notW _ _ _ _ _ _ h2 h3 hr⟩]; exact b6.1
    · obtain ⟨o, ho, rfl, z', c', h1, h2⟩ := newAt hn
      cases h1
      have lift : ∀ {rows : List (List DV)}, RCon Xp z c rows → RCon X2 z c rows := by
        intro rows hr
        cases hv : noView to.gs with
        | true =>
          obtain ⟨N', n1, n2⟩ := encG_rows (x := y) (R := kill taken h.R) hv
          have : N' = N := List.append_cancel_left (n1.symm.trans hNs)
          subst this
          obtain ⟨z'', s'', l'', ht⟩ := n2 _ (List.mem_of_getElem? hn)
          cases ht
          exact hr
        | false => exact hr.mono (leP hv)
      have hR : X2.R (X.c + k) = match js[k]? with | some (some j) => X'.R j | _ => (none, 0) := by
        show (if X.c + k < X.c then X.R (X.c + k) else _) = _
        rw [if_neg (by omega), Nat.add_sub_cancel_left]
      unfold RowOk
      show _ = (X2.R (X.c + k)).2 ∧ _
      rw [hR, ho]
      cases o with
      | none => exact ⟨RCon.len h2, lift h2⟩
      | some j0 =>
        obtain ⟨hl, hlen, h2⟩ := h2
        refine ⟨hlen, ?_⟩
        simp only
        cases e0 : (X'.R j0).1 with
        | none => rw [e0] at h2; exact lift h2
        | some p =>
          obtain ⟨i, m⟩ := p
          rw [e0] at h2
          obtain ⟨b, b1, b2, b3, b4, b5, b6⟩ := h2
          refine ⟨b, b1, b2, b3, by rw [b4]; exact Nat.le_refl _, by rw [b4, List.take_length]; exact lift b6, ?_, b4⟩
          simp only [X2, backX]
          split
          · cases hx : X.z i with
            | none => rfl
            | some q =>
              exfalso
              obtain ⟨z0, c0, l0⟩ := hl
              rcases S2.wr i ⟨j0, z0, c0, m, l0, e0⟩ with w | w
              · exact zW i q hx w
              · exact absurd (u02 (I.z i q hx)) (Nat.not_lt.mpr w)
          · cases hx : W.z i with
            | none => rfl
            | some q =>
              exfalso
              obtain ⟨z0, c0, l0⟩ := hl
              rcases (u4f I' hx).2 with h | ⟨j1, hj1, z1, c1, m1, a1, a2⟩
              · rw [b5] at h; cases h
              · have := I'.dist _ _ _ _ _ _ _ _ _ l0 a1 e0 a2
                subst this
                exact (d3 _ (.inr (List.mem_of_getElem? ho))).2 hj1
  · intro j j' z c z' c' i m m' e1 e2 r1 r2
    rcases oldOr e1 with ⟨a1, a2, a3, a4⟩ | ⟨k, rfl, hn⟩ <;> rcases oldOr e2 with ⟨b1, b2, b3, b4⟩ | ⟨k', rfl, hn'⟩
    · rw [a4] at r1; rw [b4] at r2
      exact I.dist _ _ _ _ _ _ _ _ _ a3 b3 r1 r2
    · exfalso
      rw [a4] at r1
      obtain ⟨_, _, _, _, w⟩ := newW hn' r2
      exact w.elim (notW _ _ _ _ _ _ a2 a3 r1) fun w => absurd (inlen _ _ _ _ _ _ a3 r1) (Nat.not_lt.mpr w)
    · exfalso
      rw [b4] at r2
      obtain ⟨_, _, _, _, w⟩ := newW hn r1
      exact w.elim (notW _ _ _ _ _ _ b2 b3 r2) fun w => absurd (inlen _ _ _ _ _ _ b3 r2) (Nat.not_lt.mpr w)
    · obtain ⟨j0, q1, q2, _, _⟩ := newW hn r1
      obtain ⟨j1, p1, p2, _, _⟩ := newW hn' r2
      obtain ⟨o, ho, _, _, _, _, h2⟩ := newAt hn
      obtain ⟨o', ho', _, _, _, _, h2'⟩ := newAt hn'
      rw [q1] at ho; cases ho
      rw [p1] at ho'; cases ho'
      obtain ⟨⟨z0, c0, l0⟩, _⟩ := h2
      obtain ⟨⟨z1, c1, l1⟩, _⟩ := h2'
      have := I'.dist _ _ _ _ _ _ _ _ _ l0 l1 q2 p2
      subst this
      rw [d2 _ _ _ q1 p1]
  · intro i ⟨j, z, c, m, h1, h2⟩
    rcases oldOr h1 with ⟨g1, g2, g3, g4⟩ | ⟨k, rfl, hn⟩
    · rw [g4] at h2; exact .inl ⟨j, z, c, m, g3, h2⟩
    · obtain ⟨_, _, _, w, _⟩ := newW hn h2
      exact S12.wr i w
  · intro i k e
    simp only [X2, backX] at e
    split at e
    · exact .inl e
    · rename_i hk
      by_cases hl : i < dh.R.length
      · by_cases w : WR Y hY i
        · exact .inr (S1.wr i w)
        · exact absurd ⟨hl, w⟩ hk
      · exact .inr (.inr (Nat.not_lt.mp hl))

end Go.Dv
/- The engine, second storey: functions with boxes and whole blocks, by their contracts. -/
set_option linter.unusedVariables false
set_option linter.unusedSimpArgs false
namespace Go.Dv

theorem u56 : ∀ {ps : List (Nat × Nat)} {b j : Nat}, ps.lookup b = some j → (b, j) ∈ ps
  | [], _, _, h => by simp at h
  | (b', j') :: ps, b, j, h => by
    rw [List.lookup_cons] at h
    by_cases e : b = b'
    · subst e
      simp only [beq_self_eq_true, Option.some.injEq] at h
      subst h
      exact List.mem_cons_self ..
    · have : (b == b') = false := by simpa using e
      simp only [this] at h
      exact List.mem_cons_of_mem _ (u56 h)
theorem argCells_mem : ∀ {slots : List (Nat × SG)} {vs : List SV} {cs : List (List SV)} {ps : List (Nat × Nat)} {b j : Nat}, u0O slots vs = some (cs, ps) → (b, j) ∈ ps → SV.ptr j 0 ∈ vs := by
  intro slots vs
  fun_induction u0O slots vs <;> intro cs ps b j e hm
  all_goals first
    | (cases e; done)
    | (cases e; simp at hm; done)
    | (cases e; rename_i ih; rcases List.mem_cons.1 hm with hm | hm
       · cases hm; exact List.mem_cons_self ..
       · exact List.mem_cons_of_mem _ (ih (by assumption) hm))
    | (cases e; rename_i ih; exact List.mem_cons_of_mem _ (ih (by assumption) hm))

theorem argCells_len : ∀ {slots : List (Nat × SG)} {vs : List SV} {cs : List (List SV)} {ps : List (Nat × Nat)}, u0O slots vs = some (cs, ps) → slots.length = vs.length := by
  intro slots vs
  fun_induction u0O slots vs <;> intro cs ps e
  all_goals first
    | (cases e; done)
    | (cases e; rfl)
    | (cases e; simp only [List.length_cons]; rename_i ih; rw [ih (by assumption)]; done)

def Spec.isW : Spec → Bool
  | .w _ => true
  | _ => false
theorem noW_of {l : List (Nat × Spec)} (h : (l.all fun p => !p.2.isW) = true) : ∀ (f : FuncId) (s : Sh), spOf l f ≠ some (.w s) := by
  intro f s e
  unfold spOf at e
  have hm : ∀ {l : List (Nat × Spec)}, l.lookup f = some (.w s) → ∃ p ∈ l, p.2 = .w s := by
    intro l
    induction l with
    | nil => intro e; cases e
    | cons q l ih =>
      intro e
      rw [List.lookup_cons] at e
      split at e
      · exact ⟨q, List.mem_cons_self .., Option.some.inj e⟩
      · obtain ⟨p, hp, hq⟩ := ih e; exact ⟨p, List.mem_cons_of_mem _ hp, hq⟩
  obtain ⟨p, hp, hq⟩ := hm e
  rw [List.all_eq_true] at h
  have := h p hp
  rw [hq] at this
  cases this
theorem specK_ok {tbl : Table} {sp : Specs} (SO : u0F (calls tbl (ex tbl)) sp) {f : FuncId} {an : Anns} {fuel : Nat} {ti to : Tm} (NW : ∀ (f : FuncId) (s : Sh), sp f ≠ some (.w s)) (KI : KIn ti) (KO : KOut ti to) (AN : AnnsN ti.boxes.length an) {d : DF} (hd : tbl.fn f = some d) (hpr : tbl.prim f = none) (hp : d.pure = false) (hw : d.body.wf)
    {F : St ti → Option (St to)} (hF : ∀ x y, F x = some y → (symF tbl sp f an fuel ti to x).sem = some y) : u00 (calls tbl (ex tbl)) f (specK ti to F) := by
  intro X h dh as das dcap v h' _ I L hs
  simp only at hs
  split at hs
  case h_2 => exact (T.sem_fail hs).elim
  rename_i cs ps hc
  split at hs
  case h_2 => exact (T.sem_fail hs).elim
  rename_i bs is hb
  split at hs
  case isFalse => exact (T.sem_fail hs).elim
  rename_i hdist
  split at hs
  case h_2 => exact (T.sem_fail hs).elim
  rename_i bcs hbc
  split at hs
  case h_2 => exact (T.sem_fail hs).elim
  rename_i x hx
  split at hs
  case isFalse => exact (T.sem_fail hs).elim
  rename_i hnv
  obtain ⟨y, h1, h2⟩ := T.sem_ask hs
  have hsy := hF x y h1
  simp only [symF, hd] at hsy
  split at hsy
  case isFalse => exact (T.sem_fail hsy).elim
  rename_i hcond
  obtain ⟨c1, c2, c3⟩ := hcond
  have hlen0 : (das ++ dcap).length = ti.slots.length := by
    rw [← L.length, ← (argCells_len hc)]
  obtain ⟨Y, IY, LY, S1, e1, e2, e3, e4, e5, e6, e7⟩ := enter_ok (n := d.n) KI I L hc hb hdist hbc hx (by rw [hlen0, c1]; exact c2)
  obtain ⟨e, l1, h1', dl1, dh1, X1, g1, g2, g3, g4, g5, g6⟩ := sym_okN (Rel.step _) (tbl := tbl) (n0 := ti.boxes.length) SO (.inr NW) fuel an AN 0 .none d.body _ _ _ y hw (fun _ e => nomatch e) Y dh _ IY LY (enc_len _ _ _) hsy
  simp only [u5Z] at g1
  have hsn : noView to.gs = true ∨ ∀ i k, Y.z i = some k → X.z i = some k := by
    rw [Bool.or_eq_true] at hnv
    rcases hnv with h | h
    · exact .inl h
    · exact .inr (e7 (List.isEmpty_iff.1 h))
  have hag := g5.2 (by rw [e2]; exact Nat.le_refl _)
  have fin : ((sRes l1 h1' d.results).bind fun vs => T.ofO (decT to vs h1' (match d.pure with | true => .all | false => .no))).sem = some y →
      ∃ r X2, (u29 dl1 dh1 d.results).map (fun v => (v, dh1)) = some (r, dh1) ∧ X.le X2 ∧ Inv X2 h' dh1 ∧ RV X2 v r ∧ Step X h dh X2 h' dh1 ∧ ∀ i, i < X.nb → i ∉ is → dh1.B[X.bi i]? = dh.B[X.bi i]? := by
    intro hs
    obtain ⟨rv, q1, q2⟩ := T.sem_bind hs
    have q2 := T.sem_ofO q2
    rw [hp] at q2
    obtain ⟨ds, k1, k2⟩ := sRes_ok g2 g3 q1
    obtain ⟨X2, m1, m2, m3, m4, m5⟩ := leave_ok KO I IY g2 S1 g5.1 e5 e6 hsn e2 e3 hdist e4 hag k2 (by rw [u5t k1]; exact c3.symm) q2
    have h3 : T.sem (.ret ((match (u1l to.slots (encG to.gs y (kill (u2U ti.gs (cs ++ bcs)) h.R)).1).1 with
      | [v] => v
      | vs => .tup vs), (⟨setB is (layB to.boxes (u1l to.slots (encG to.gs y (kill (u2U ti.gs (cs ++ bcs)) h.R)).1).2) h.B, (encG to.gs y (kill (u2U ti.gs (cs ++ bcs)) h.R)).2⟩ : SH))) = some (v, h') := h2
    have h4 := T.sem_ret h3
    simp only [Prod.mk.injEq] at h4
    obtain ⟨hv, hh⟩ := h4
    rw [← hh] at m2 m4
    have hl2 := m3.length
    cases hq : (u1l to.slots (encG to.gs y (kill (u2U ti.gs (cs ++ bcs)) h.R)).1).1 with
    | nil =>
      rw [hq] at hv m3
      simp only at hv
      cases ds with
      | cons _ _ => exact m3.elim
      | nil =>
        refine ⟨.tup [], X2, by rw [u4A k1 (by simp)]; rfl, m1, m2, ?_, m4, m5⟩
        rw [hv]; exact ⟨[], rfl, trivial⟩
    | cons a r =>
      rw [hq] at hv m3
      cases ds with
      | nil => exact m3.elim
      | cons da dr =>
        cases r with
        | nil =>
          simp only at hv
          cases dr with
          | cons _ _ => exact m3.2.elim
          | nil =>
            refine ⟨da, X2, by rw [resVal_one k1]; rfl, m1, m2, ?_, m4, m5⟩
            rw [hv]; exact m3.1
        | cons b r =>
          simp only at hv
          cases dr with
          | nil => exact m3.2.elim
          | cons db dr =>
            refine ⟨.tup (da :: db :: dr), X2, by rw [u4A k1 (by simp)]; rfl, m1, m2, ?_, m4, m5⟩
            rw [hv]; exact ⟨_, rfl, m3⟩
  have go : ∃ r X2, callK tbl (ex tbl) (.fn f dcap) das dh = some (r, dh1) ∧ X.le X2 ∧ Inv X2 h' dh1 ∧ RV X2 v r ∧ Step X h dh X2 h' dh1 ∧ ∀ i, i < X.nb → i ∉ is → dh1.B[X.bi i]? = dh.B[X.bi i]? := by
    have hk : ∀ (e : Ex), (e = .ret ∨ e = .normal) → ex tbl d.body (das ++ dcap ++ List.replicate (d.n - (das ++ dcap).length) DV.undef) dh = some (e, dl1, dh1) → callK tbl (ex tbl) (.fn f dcap) das dh = (u29 dl1 dh1 d.results).map fun v => (v, dh1) := by
      intro e he hx
      unfold callK
      simp only [hpr, hd, hp, Bool.false_eq_true, if_false]
      rw [if_neg (by rw [hlen0, c1]; simp), hx]
      rcases he with rfl | rfl <;> rfl
    cases e with
    | ret =>
      obtain ⟨r, X2, r1, r2⟩ := fin g6
      exact ⟨r, X2, by rw [hk _ (.inl rfl) g1]; exact r1, r2⟩
    | normal =>
      obtain ⟨r, X2, r1, r2⟩ := fin g6
      exact ⟨r, X2, by rw [hk _ (.inr rfl) g1]; exact r1, r2⟩
    | exit _ => exact (T.sem_fail g6).elim
    | goto _ => exact (T.sem_fail g6).elim
  obtain ⟨r, X2, r1, r2, r3, r4, r5, r6⟩ := go
  refine ⟨r, dh1, X2, r1, r2, r3, r4, r5, fun i hi hno => r6 i hi fun hmem => ?_⟩
  obtain ⟨q, hq⟩ := List.mem_iff_getElem?.1 hmem
  obtain ⟨_, _, _, b4⟩ := boxAt_ok (Y := Y) I KI.b hb hbc (fun q i hq => by
    rw [Nat.zero_add]; exact ⟨(e4 q i hq).1, (e4 q i hq).2.1⟩)
  have := (b4.2 q i hq).1
  exact hno 0 (argCells_mem hc (u56 this))

def annsN (n0 : Nat) (l : List (Nat × Ann)) : Bool := l.all fun p => p.2.holds n0
theorem annsN_ok {n0 : Nat} {l : List (Nat × Ann)} (h : annsN n0 l = true) : AnnsN n0 (anOf l) := by
  intro p a e
  induction l with
  | nil => simp [anOf] at e
  | cons q l ih =>
    obtain ⟨p', a'⟩ := q
    simp only [annsN, List.all_cons, Bool.and_eq_true] at h
    simp only [anOf, List.lookup_cons] at e
    split at e
    · cases e; exact h.1
    · exact ih h.2 e
theorem plugK {P : Program} {pol : Pol} {prim : FuncId → Option (List DV → Hp → Option (DV × Hp))} {sp : Specs} (SO : u0F (calls ⟨funOf P pol, prim⟩ (ex ⟨funOf P pol, prim⟩)) sp) {f : FuncId} {an : List (Nat × Ann)} {fuel : Nat} {ti to : Tm}
    (KI : KIn ti) (KO : KOut ti to) (AN : annsN ti.boxes.length an = true) (hp : ((funOf P pol f).any (fun d => !d.pure)) = true) (hpr : prim f = none) {F : St ti → Option (St to)} (hF : ∀ x, (symF ⟨funOf P pol, prim⟩ sp f (anOf an) fuel ti to x).sem = F x) (NW : ∀ (f : FuncId) (s : Sh), sp f ≠ some (.w s) := by exact noW_of rfl) :
    u00 (calls ⟨funOf P pol, prim⟩ (ex ⟨funOf P pol, prim⟩)) f (specK ti to F) := by
  cases hd : funOf P pol f with
  | none => rw [hd] at hp; cases hp
  | some d =>
    rw [hd] at hp
    simp only [Option.any_some, Bool.not_eq_true'] at hp
    exact specK_ok SO NW KI KO (annsN_ok AN) (tbl := ⟨funOf P pol, prim⟩) hd hpr hp (funOf_wf hd) (fuel := fuel) (fun x y h => by rw [hF, h])

end Go.Dv
