/- The engine, second storey: what code comes to by types, it comes to (sym_ok). -/
import Derived.Test.YtdpgchmodijllaaGreatDvG
import Derived.Test.YtdpgchmodijllaaGreatDvD
set_option linter.unusedVariables false
set_option linter.unusedSimpArgs false
namespace Go.Dv

def DC.wf : DC → Prop
  | .seq a b => a.wf ∧ b.wf
  | .cond _ a b => a.wf ∧ b.wf
  | .block _ a => a.wf
  | .fblock _ a => a.wf
  | .loop a => a.wf
  | .scope d cur => cur = d ∧ d.wf
  | _ => True
theorem DC.wf_after {m : Nat} : ∀ {d r : DC}, d.wf → d.after m = some r → r.wf := by
  intro d
  induction d with
  | seq a b iha ihb =>
    intro r h e
    simp only [DC.after] at e
    split at e
    · rename_i r' ha; cases e; exact ⟨iha h.1 ha, h.2⟩
    · exact ihb h.2 e
  | label l =>
    intro r h e
    simp only [DC.after] at e
    split at e
    · cases e; trivial
    · cases e
  | _ => intro r h e; simp [DC.after] at e
theorem DC.wf_before {m : Nat} : ∀ {d : DC}, d.wf → (before m d).wf := by
  intro d
  induction d with
  | seq a b iha ihb =>
    intro h
    simp only [before]
    split
    · exact iha h.1
    · exact ⟨h.1, ihb h.2⟩
  | _ => intro h; simp only [before]; trivial
theorem trCode_wf {P : Program} {esc quiet : List Nat} : ∀ {c : Code} {d : DC}, trCode P esc quiet c = some d → d.wf := by
  intro c
  induction c with
  | seq a b iha ihb =>
    intro d h
    simp only [trCode] at h
    split at h
    · rename_i x y hx hy; cases h; exact ⟨iha hx, ihb hy⟩
    · cases h
  | cond c a b iha ihb =>
    intro d h
    simp only [trCode] at h
    split at h
    · rename_i c' x y hc hx hy; cases h; exact ⟨iha hx, ihb hy⟩
    · cases h
  | block id a ih =>
    intro d h
    simp only [trCode] at h
    split at h <;> (rw [Option.map_eq_some_iff] at h; obtain ⟨x, hx, rfl⟩ := h; exact (ih hx : x.wf))
  | loop a ih => intro d h; simp only [trCode, Option.map_eq_some_iff] at h; obtain ⟨x, hx, rfl⟩ := h; exact (ih hx : x.wf)
  | scope a ih => intro d h; simp only [trCode, Option.map_eq_some_iff] at h; obtain ⟨x, hx, rfl⟩ := h; exact ⟨rfl, ih hx⟩
  | region id ops draw =>
    intro d h
    simp only [trCode] at h
    split at h <;> (rw [Option.map_eq_some_iff] at h; obtain ⟨x, hx, rfl⟩ := h; trivial)
  | rangeFunc _ _ _ _ => intro d h; simp [trCode] at h
  | refuse _ => intro d h; simp [trCode] at h
  | _ => intro d h; simp only [trCode, Option.some.injEq] at h; subst h; trivial

variable {tbl : Table}
theorem before_ok {m : Nat} : ∀ {d a : DC}, d.after m = some a → ∀ l h, ex tbl d l h = match ex tbl (before m d) l h with
    | some (.normal, l', h') => ex tbl a l' h'
    | r => r := by
  intro d
  induction d with
  | seq x y ihx ihy =>
    intro a e l h
    simp only [DC.after] at e
    split at e
    · rename_i r hr
      cases e
      have hb : before m (.seq x y) = before m x := by simp only [before, hr]
      rw [hb, ex_seq, ihx hr]
      cases hq : ex tbl (before m x) l h with
      | none => rfl
      | some q =>
        obtain ⟨e, l', h'⟩ := q
        cases e with
        | normal => simp only [ex_seq]
        | _ => rfl
    · rename_i hr
      have hb : before m (.seq x y) = .seq x (before m y) := by simp only [before, hr]
      rw [hb, ex_seq, ex_seq]
      cases hq : ex tbl x l h with
      | none => rfl
      | some q =>
        obtain ⟨e', l', h'⟩ := q
        cases e' with
        | normal => exact ihy e l' h'
        | _ => rfl
  | label l' =>
    intro a e l h
    simp only [DC.after] at e
    split at e
    · cases e
      simp only [before, ex_label, ex_skip]
    · cases e
  | _ => intro a e; simp [DC.after] at e

theorem Ex.same_eq {a b : Ex} (h : Ex.same a b = true) : a = b := by
  cases a <;> cases b <;> simp [Ex.same] at h <;> first
    | rfl
    | (subst h; rfl)
theorem layS_len : ∀ (slots : List (Nat × SG)) (vs l : List SV), (layS slots vs l).length = l.length
  | [], vs, l => by cases vs <;> rfl
  | (n, _) :: r, [], l => rfl
  | (n, _) :: r, v :: vs, l => by simp only [layS]; rw [layS_len r]; simp
theorem enc_len (n : Nat) (t : Tm) (x : St t) : (enc n t x).1.length = n := by
  simp only [enc]; rw [layS_len]; simp

def StepN (n0 : Nat) (X : RX) (h : SH) (dh : Hp) (X' : RX) (h' : SH) (dh' : Hp) : Prop :=
  Step X h dh X' h' dh' ∧ (n0 ≤ X.nb → n0 ≤ X'.nb ∧ ∀ i, i < n0 → X'.bi i = X.bi i ∧ X'.bm i = X.bm i)
theorem StepN.refl (n0 : Nat) (X : RX) (h : SH) (dh : Hp) : StepN n0 X h dh X h dh := ⟨Step.refl X h dh, fun hn => ⟨hn, fun _ _ => ⟨rfl, rfl⟩⟩⟩
theorem StepN.trans {n0 : Nat} {X Y Z : RX} {h k l : SH} {dh dk dl : Hp} (a : StepN n0 X h dh Y k dk) (b : StepN n0 Y k dk Z l dl) : StepN n0 X h dh Z l dl :=
  ⟨a.1.trans b.1, fun hn => ⟨(b.2 (a.2 hn).1).1, fun i hi => ⟨((b.2 (a.2 hn).1).2 i hi).1.trans ((a.2 hn).2 i hi).1, ((b.2 (a.2 hn).1).2 i hi).2.trans ((a.2 hn).2 i hi).2⟩⟩⟩
theorem StepN.of {n0 : Nat} {X Y : RX} {h k : SH} {dh dk : Hp} (a : Step X h dh Y k dk) (b : X.le Y) : StepN n0 X h dh Y k dk :=
  ⟨a, fun hn => ⟨Nat.le_trans hn b.nb, fun i hi => b.b i (Nat.lt_of_lt_of_le hi hn)⟩⟩
def waysN (n0 : Nat) (ws : Ways) : Bool := ws.all fun w => decide (n0 ≤ w.2.boxes.length)
def Ann.holds (n0 : Nat) : Ann → Bool
  | .loop t ws => decide (n0 ≤ t.boxes.length) && waysN n0 ws
  | .cut ws => waysN n0 ws
  | .join _ => true
  | .lab _ t ws => decide (n0 ≤ t.boxes.length) && waysN n0 ws
def AnnsN (n0 : Nat) (an : Anns) : Prop := ∀ p a, an p = some a → a.holds n0 = true
theorem AnnsN.zero {an : Anns} : AnnsN 0 an := by
  intro p a _
  have hw : ∀ ws : Ways, waysN 0 ws = true := fun ws => by simp [waysN]
  cases a <;> simp [Ann.holds, hw]

theorem decT_okN {n0 : Nat} {X : RX} {h : SH} {dh : Hp} {l : List SV} {dl : List DV} {t : Tm} {x : St t} (hn : n0 ≤ t.boxes.length) (I : Inv X h dh) (L : RVs X l dl) (e : decT t l h = some x) :
    ∃ Y, Inv Y (enc l.length t x).2 dh ∧ RVs Y (enc l.length t x).1 dl ∧ StepN n0 X h dh Y (enc l.length t x).2 dh := by
  obtain ⟨Y, y1, y2, y3, y4, y5, y6⟩ := decT_ok I L e
  exact ⟨Y, y1, y2, y3, fun _ => ⟨by rw [y4]; exact hn, fun i _ => by rw [y5, y6]; exact ⟨rfl, rfl⟩⟩⟩

theorem outW_inW {n0 n : Nat} {ρ : Type} {k : Ex → List SV → SH → T ρ} {r : ρ} : ∀ {ws : Ways} {e : Ex} {l : List SV} {h : SH} {w : WTy ws} {X : RX} {dh : Hp} {dl : List DV}, waysN n0 ws = true → outW ws e l h = some w → Inv X h dh → RVs X l dl → l.length = n → (inW n k ws w).sem = some r →
    ∃ Y l2 h2, Inv Y h2 dh ∧ RVs Y l2 dl ∧ l2.length = n ∧ StepN n0 X h dh Y h2 dh ∧ (k e l2 h2).sem = some r
  | [], e, l, h, w, X, dh, dl, _, ho, _, _, _, _ => by simp [outW] at ho
  | w0 :: ws, e, l, h, w, X, dh, dl, hw, ho, I, L, hl, hs => by
    simp only [waysN, List.all_cons, Bool.and_eq_true, decide_eq_true_eq] at hw
    simp only [outW] at ho
    split at ho
    · rename_i hsame
      have := Ex.same_eq hsame
      rw [Option.map_eq_some_iff] at ho
      obtain ⟨x, hx, rfl⟩ := ho
      obtain ⟨Y, y1, y2, y3⟩ := decT_okN hw.1 I L hx
      rw [hl] at y1 y2 y3
      refine ⟨Y, _, _, y1, y2, enc_len _ _ _, y3, ?_⟩
      rw [← this]
      cases ws with
      | nil => exact hs
      | cons w1 ws => exact hs
    · rw [Option.map_eq_some_iff] at ho
      obtain ⟨x, hx, rfl⟩ := ho
      cases ws with
      | nil => exact nomatch x
      | cons w1 ws => exact outW_inW hw.2 hx I L hl hs

theorem iter_some {σ ρ : Type} {f : σ → Option (σ ⊕ ρ)} {s : σ} {r : ρ} (h : iter f s = some r) : ∃ m, iterN f m s = some r := ⟨_, h⟩
def Comes (n0 : Nat) (tbl : Table) (n : Nat) (X : RX) (h : SH) (dh : Hp) (dl : List DV) (c : DC) (P : Ex → List SV → SH → Prop) : Prop :=
  ∃ e l' h' dl' dh' X', ex tbl c dl dh = some (e, dl', dh') ∧ Inv X' h' dh' ∧ RVs X' l' dl' ∧ l'.length = n ∧ StepN n0 X h dh X' h' dh' ∧ P e l' h'

theorem loop_ok {n0 n : Nat} {a : DC} {t : Tm} (hn : n0 ≤ t.boxes.length) {ws : Ways} {body : St t → Option (St t ⊕ WTy ws)}
    (hb : ∀ s q, body s = some q → ∀ X dh dl, Inv X (enc n t s).2 dh → RVs X (enc n t s).1 dl → Comes n0 tbl n X (enc n t s).2 dh dl a fun e l h => (match e with
      | .normal => (decT t l h).map Sum.inl
      | e => (outW ws e l h).map Sum.inr) = some q) :
    ∀ (m : Nat) (s : St t) (w : WTy ws), iterN body m s = some w → ∀ X dh dl, Inv X (enc n t s).2 dh → RVs X (enc n t s).1 dl → Comes n0 tbl n X (enc n t s).2 dh dl (.loop a) fun e l h => outW ws e l h = some w
  | 0, s, w, h, _, _, _, _, _ => by simp [iterN] at h
  | m + 1, s, w, h, X, dh, dl, I, L => by
    simp only [iterN] at h
    cases hq : body s with
    | none => rw [hq] at h; cases h
    | some q =>
      rw [hq] at h
      obtain ⟨e, l', h', dl', dh', X', c1, c2, c3, c4, c5, c6⟩ := hb s q hq X dh dl I L
      cases q with
      | inl s' =>
        simp only at h
        have he : e = .normal ∧ decT t l' h' = some s' := by
          cases e with
          | normal =>
            simp only [Option.map_eq_some_iff] at c6
            obtain ⟨y, y1, y2⟩ := c6
            cases y2
            exact ⟨rfl, y1⟩
          | _ =>
            simp only [Option.map_eq_some_iff] at c6
            obtain ⟨y, _, y2⟩ := c6
            cases y2
        obtain ⟨rfl, hd⟩ := he
        obtain ⟨Y, y1, y2, y3⟩ := decT_okN hn c2 c3 hd
        rw [c4] at y1 y2 y3
        obtain ⟨e2, l2, h2, dl2, dh2, X2, d1, d2, d3, d4, d5, d6⟩ := loop_ok hn hb m s' w h Y dh' dl' y1 y2
        exact ⟨e2, l2, h2, dl2, dh2, X2, by rw [ex_loop, c1]; exact d1, d2, d3, d4, (c5.trans y3).trans d5, d6⟩
      | inr w' =>
        simp only [Option.some.injEq] at h
        subst h
        have he : e ≠ .normal ∧ outW ws e l' h' = some w' := by
          cases e with
          | normal =>
            simp only [Option.map_eq_some_iff] at c6
            obtain ⟨y, _, y2⟩ := c6
            cases y2
          | _ =>
            simp only [Option.map_eq_some_iff] at c6
            obtain ⟨y, y1, y2⟩ := c6
            cases y2
            exact ⟨by simp, y1⟩
        refine ⟨e, l', h', dl', dh', X', ?_, c2, c3, c4, c5, he.2⟩
        rw [ex_loop, c1]
        cases e with
        | normal => exact absurd rfl he.1
        | _ => rfl

noncomputable def Fin (tbl : Table) (d : DC) (e : Ex) (dl : List DV) (dh : Hp) : Option (Ex × List DV × Hp) :=
  match e with
  | .goto m => match d.after m with
    | some r => ex tbl (.scope d r) dl dh
    | none => some (.goto m, dl, dh)
  | e => some (e, dl, dh)
theorem scope_fin {d cur : DC} {dl dl' : List DV} {dh dh' : Hp} {e : Ex} (h : ex tbl cur dl dh = some (e, dl', dh')) : ex tbl (.scope d cur) dl dh = Fin tbl d e dl' dh' := by
  rw [ex_scope, h]
  cases e <;> rfl

theorem lab_ok {n0 n m : Nat} {d a : DC} (ha : d.after m = some a) {t : Tm} (hn : n0 ≤ t.boxes.length) {ws : Ways} {body : St t → Option (St t ⊕ WTy ws)}
    (hb : ∀ s q, body s = some q → ∀ X dh dl, Inv X (enc n t s).2 dh → RVs X (enc n t s).1 dl → Comes n0 tbl n X (enc n t s).2 dh dl a fun e l h => (match e with
      | .goto m' => if m' = m then (decT t l h).map Sum.inl else (outW ws (.goto m') l h).map Sum.inr
      | e => (outW ws e l h).map Sum.inr) = some q) :
    ∀ (j : Nat) (s : St t) (w : WTy ws), iterN body j s = some w → ∀ X dh dl, Inv X (enc n t s).2 dh → RVs X (enc n t s).1 dl →
      ∃ e l' h' dl' dh' X', ex tbl (.scope d a) dl dh = Fin tbl d e dl' dh' ∧ Inv X' h' dh' ∧ RVs X' l' dl' ∧ l'.length = n ∧ StepN n0 X (enc n t s).2 dh X' h' dh' ∧ outW ws e l' h' = some w
  | 0, s, w, h, _, _, _, _, _ => by simp [iterN] at h
  | j + 1, s, w, h, X, dh, dl, I, L => by
    simp only [iterN] at h
    cases hq : body s with
    | none => rw [hq] at h; cases h
    | some q =>
      rw [hq] at h
      obtain ⟨e, l', h', dl', dh', X', c1, c2, c3, c4, c5, c6⟩ := hb s q hq X dh dl I L
      have cases' : (e = .goto m ∧ (decT t l' h').map Sum.inl = some q) ∨ (outW ws e l' h').map Sum.inr = some q := by
        cases e with
        | goto m' =>
          simp only at c6
          by_cases hm : m' = m
          · subst hm; rw [if_pos rfl] at c6; exact .inl ⟨rfl, c6⟩
          · rw [if_neg hm] at c6; exact .inr c6
        | _ => exact .inr c6
      rcases cases' with ⟨rfl, hd⟩ | ho
      · rw [Option.map_eq_some_iff] at hd
        obtain ⟨s', hd, rfl⟩ := hd
        simp only at h
        obtain ⟨Y, y1, y2, y3⟩ := decT_okN hn c2 c3 hd
        rw [c4] at y1 y2 y3
        obtain ⟨e2, l2, h2, dl2, dh2, X2, d1, d2, d3, d4, d5, d6⟩ := lab_ok ha hn hb j s' w h Y dh' dl' y1 y2
        refine ⟨e2, l2, h2, dl2, dh2, X2, ?_, d2, d3, d4, (c5.trans y3).trans d5, d6⟩
        rw [scope_fin c1]
        simp only [Fin, ha]
        exact d1
      · rw [Option.map_eq_some_iff] at ho
        obtain ⟨w', ho, rfl⟩ := ho
        simp only [Option.some.injEq] at h
        subst h
        exact ⟨e, l', h', dl', dh', X', scope_fin c1, c2, c3, c4, c5, ho⟩

def codeOf (ag : Option DC) (c : DC) : DC := match ag with
  | none => c
  | some d => .scope d c
theorem Comes.now {n0 n : Nat} {X : RX} {h : SH} {dh : Hp} {l : List SV} {dl : List DV} {c : DC} {e : Ex} {P : Ex → List SV → SH → Prop} (I : Inv X h dh) (L : RVs X l dl) (hl : l.length = n) (hc : ex tbl c dl dh = some (e, dl, dh)) (hp : P e l h) : Comes n0 tbl n X h dh dl c P :=
  ⟨e, l, h, dl, dh, X, hc, I, L, hl, StepN.refl _ X h dh, hp⟩

theorem sym_okN {n0 : Nat} {sp : Specs} (SO : SpecsOk (calls tbl (ex tbl)) sp) {n : Nat} : ∀ (f : Nat) {ρ : Type} (an : Anns) (_ : AnnsN n0 an) (p : Nat) (ag : Option DC) (c : DC) (l : List SV) (h : SH) (k : Ex → List SV → SH → T ρ) (r : ρ), c.wf → (∀ d, ag = some d → d.wf) →
    ∀ X dh dl, Inv X h dh → RVs X l dl → l.length = n → (sym sp n f an p ag c l h k).sem = some r → Comes n0 tbl n X h dh dl (codeOf ag c) fun e l' h' => (k e l' h').sem = some r := by
  intro f
  induction f with
  | zero => intro ρ an _ p ag c l h k r _ _ X dh dl _ _ _ hs; simp only [sym] at hs; exact (T.sem_fail hs).elim
  | succ f ih =>
    intro ρ an AN p ag c l h k r wc wd X dh dl I L hl hs
    -- how a scope goes on
    have again : ∀ (d : DC), d.wf → ∀ (e : Ex) (l1 : List SV) (h1 : SH) (dl1 : List DV) (dh1 : Hp) (X1 : RX), Inv X1 h1 dh1 → RVs X1 l1 dl1 → l1.length = n →
        (match e with
          | .goto m => match d.after m with
            | some r => sym sp n f an (p + 1000003) (some d) r l1 h1 k
            | none => k (.goto m) l1 h1
          | e => k e l1 h1).sem = some r →
        ∃ e2 l2 h2 dl2 dh2 X2, Fin tbl d e dl1 dh1 = some (e2, dl2, dh2) ∧ Inv X2 h2 dh2 ∧ RVs X2 l2 dl2 ∧ l2.length = n ∧ StepN n0 X1 h1 dh1 X2 h2 dh2 ∧ (k e2 l2 h2).sem = some r := by
      intro d hd e l1 h1 dl1 dh1 X1 I1 L1 hl1 hs
      cases e with
      | goto m =>
        simp only at hs
        simp only [Fin]
        cases ha : d.after m with
        | none => rw [ha] at hs; exact ⟨_, l1, h1, dl1, dh1, X1, rfl, I1, L1, hl1, StepN.refl _ _ _ _, hs⟩
        | some r1 =>
          rw [ha] at hs
          exact ih an AN (p + 1000003) (some d) r1 l1 h1 k r (DC.wf_after hd ha) (fun d' e => by cases e; exact hd) X1 dh1 dl1 I1 L1 hl1 hs
      | _ => exact ⟨_, l1, h1, dl1, dh1, X1, rfl, I1, L1, hl1, StepN.refl _ _ _ _, hs⟩
    cases ag with
    | some d =>
      simp only [sym] at hs
      obtain ⟨e, l1, h1, dl1, dh1, X1, c1, c2, c3, c4, c5, c6⟩ := ih an AN (2 * p + 1) none c l h _ r wc (fun _ e => nomatch e) X dh dl I L hl hs
      obtain ⟨e2, l2, h2, dl2, dh2, X2, d1, d2, d3, d4, d5, d6⟩ := again d (wd d rfl) e l1 h1 dl1 dh1 X1 c2 c3 c4 c6
      exact ⟨e2, l2, h2, dl2, dh2, X2, by simp only [codeOf]; rw [scope_fin (show ex tbl c dl dh = _ from c1)]; exact d1, d2, d3, d4, c5.trans d5, d6⟩
    | none =>
      simp only [codeOf]
      simp only [sym] at hs
      -- a way out of a typed piece
      have out : ∀ {ws : Ways} {w : WTy ws} {kk : Ex → List SV → SH → T ρ}, waysN n0 ws = true → ∀ {e : Ex} {l1 : List SV} {h1 : SH} {dl1 : List DV} {dh1 : Hp} {X1 : RX}, outW ws e l1 h1 = some w → Inv X1 h1 dh1 → RVs X1 l1 dl1 → l1.length = n → (inW n kk ws w).sem = some r →
          ∃ Y l2 h2, Inv Y h2 dh1 ∧ RVs Y l2 dl1 ∧ l2.length = n ∧ StepN n0 X1 h1 dh1 Y h2 dh1 ∧ (kk e l2 h2).sem = some r := fun hw => fun a b c d e => outW_inW hw a b c d e
      split at hs
      · -- cut
        rename_i ws han
        obtain ⟨w, h1, h2⟩ := T.sem_ask hs
        obtain ⟨e, l1, h1', dl1, dh1, X1, c1, c2, c3, c4, c5, c6⟩ := ih _ (by intro q a hq; simp only at hq; split at hq <;> first | (cases hq; done) | exact AN q a hq) p none c l h _ w wc (fun _ e => nomatch e) X dh dl I L hl h1
        obtain ⟨Y, l2, h2', y1, y2, y3, y4, y5⟩ := out (AN _ _ han) (T.sem_ofO c6) c2 c3 c4 h2
        exact ⟨e, l2, h2', dl1, dh1, Y, c1, y1, y2, y3, c5.trans y4, y5⟩
      · -- loop
        rename_i t ws han
        have hAN := AN _ _ han
        simp only [Ann.holds, Bool.and_eq_true, decide_eq_true_eq] at hAN
        split at hs
        case h_2 => exact (T.sem_fail hs).elim
        rename_i a
        obtain ⟨s, h1, h2⟩ := T.sem_bind hs
        obtain ⟨w, h3, h4⟩ := T.sem_ask h2
        obtain ⟨m, hm⟩ := iter_some h3
        obtain ⟨Y, y1, y2, y3⟩ := decT_okN hAN.1 I L (T.sem_ofO h1)
        rw [hl] at y1 y2 y3
        obtain ⟨e, l1, h1', dl1, dh1, X1, c1, c2, c3, c4, c5, c6⟩ := loop_ok (tbl := tbl) (a := a) hAN.1 (fun s q hq X dh dl I L => by
          obtain ⟨e, l', h', dl', dh', X', c1, c2, c3, c4, c5, c6⟩ := ih an AN (2 * p + 1) none a _ _ _ q wc (fun _ e => nomatch e) X dh dl I L (enc_len _ _ _) hq
          refine ⟨e, l', h', dl', dh', X', c1, c2, c3, c4, c5, ?_⟩
          cases e <;> exact T.sem_ofO c6) m s w hm Y dh dl y1 y2
        obtain ⟨Z, l2, h2', z1, z2, z3, z4, z5⟩ := out hAN.2 c6 c2 c3 c4 h4
        exact ⟨e, l2, h2', dl1, dh1, Z, c1, z1, z2, z3, (y3.trans c5).trans z4, z5⟩
      · -- a label that is come back to
        rename_i m t ws han
        have hAN := AN _ _ han
        simp only [Ann.holds, Bool.and_eq_true, decide_eq_true_eq] at hAN
        split at hs
        case h_2 => exact (T.sem_fail hs).elim
        rename_i d cur
        obtain ⟨rfl, wd'⟩ := wc
        split at hs
        case h_2 => exact (T.sem_fail hs).elim
        rename_i a ha
        obtain ⟨e, l1, h1, dl1, dh1, X1, c1, c2, c3, c4, c5, c6⟩ := ih an AN (2 * p + 1) none (before m cur) l h _ r (DC.wf_before wd') (fun _ e => nomatch e) X dh dl I L hl hs
        have hb := before_ok (tbl := tbl) ha dl dh
        rw [show ex tbl (before m cur) dl dh = some (e, dl1, dh1) from c1] at hb
        by_cases he : e = .normal
        · subst he
          simp only at hb c6
          obtain ⟨s, h1', h2⟩ := T.sem_bind c6
          obtain ⟨w, h3, h4⟩ := T.sem_ask h2
          obtain ⟨j, hm⟩ := iter_some h3
          obtain ⟨Y, y1, y2, y3⟩ := decT_okN hAN.1 c2 c3 (T.sem_ofO h1')
          rw [c4] at y1 y2 y3
          obtain ⟨e2, l2, h2', dl2, dh2, X2, d1, d2, d3, d4, d5, d6⟩ := lab_ok (tbl := tbl) ha hAN.1 (fun s q hq X dh dl I L => by
            obtain ⟨e, l', h', dl', dh', X', c1, c2, c3, c4, c5, c6⟩ := ih an AN (2 * p + 2) none a _ _ _ q (DC.wf_after wd' ha) (fun _ e => nomatch e) X dh dl I L (enc_len _ _ _) hq
            refine ⟨e, l', h', dl', dh', X', c1, c2, c3, c4, c5, ?_⟩
            cases e with
            | goto m' =>
              simp only at c6 ⊢
              by_cases hmm : m' = m
              · rw [if_pos hmm] at c6 ⊢; exact T.sem_ofO c6
              · rw [if_neg hmm] at c6 ⊢; exact T.sem_ofO c6
            | _ => exact T.sem_ofO c6) j s w hm Y dh1 dl1 y1 y2
          obtain ⟨Z, l3, h3', z1, z2, z3, z4, z5⟩ := out hAN.2 d6 d2 d3 d4 h4
          obtain ⟨e4, l4, h4', dl4, dh4, X4, f1, f2, f3, f4, f5, f6⟩ := again cur wd' e2 l3 h3' dl2 dh2 Z z1 z2 z3 z5
          refine ⟨e4, l4, h4', dl4, dh4, X4, ?_, f2, f3, f4, ((c5.trans y3).trans d5).trans (z4.trans f5), f6⟩
          rw [← f1, ← d1, ex_scope, ex_scope, hb]
        · have hb' : ex tbl cur dl dh = some (e, dl1, dh1) := by
            cases e <;> first
              | exact absurd rfl he
              | exact hb
          have c6' : (match e with
            | .goto m => match cur.after m with
              | some r => sym sp n f an (p + 1000003) (some cur) r l1 h1 k
              | none => k (.goto m) l1 h1
            | e => k e l1 h1).sem = some r := by
            cases e <;> first
              | exact absurd rfl he
              | exact c6
          obtain ⟨e4, l4, h4', dl4, dh4, X4, f1, f2, f3, f4, f5, f6⟩ := again cur wd' e l1 h1 dl1 dh1 X1 c2 c3 c4 c6'
          exact ⟨e4, l4, h4', dl4, dh4, X4, by rw [scope_fin hb']; exact f1, f2, f3, f4, c5.trans f5, f6⟩
      · -- join
        rename_i gs' han
        split at hs
        · rename_i os
          obtain ⟨l1, x, j1, j2, j3⟩ := joined_sem hs
          obtain ⟨dl1, g1, g2⟩ := opsQ_ok SO I os L j1
          obtain ⟨q1, q2⟩ := ops_dsts os g1
          have L2 := join_ok I gs' j2 g2 (wiped L q1 q2)
          exact ⟨.normal, _, h, dl1, dh, X, by rw [ex_ops, g1], I, L2, by rw [L2.length, q1, ← L.length, hl], StepN.refl _ _ _ _, j3⟩
        · rename_i os
          obtain ⟨l1, x, j1, j2, j3⟩ := joined_sem hs
          obtain ⟨dl1, g1, g2⟩ := drawsQ_ok SO I os [] L j1
          obtain ⟨q1, q2⟩ := draws_dsts os g1
          have L2 := join_ok I gs' j2 g2 (wiped L q1 q2)
          exact ⟨.normal, _, h, dl1, dh, X, by rw [ex_draw, g1], I, L2, by rw [L2.length, q1, ← L.length, hl], StepN.refl _ _ _ _, j3⟩
        · exact (T.sem_fail hs).elim
      · -- plain
        rename_i han
        cases c with
        | skip => exact Comes.now I L hl (ex_skip _ _ _) hs
        | label m => exact Comes.now I L hl (ex_label _ _ _ m) hs
        | goto m => exact Comes.now I L hl (ex_goto _ _ _ m) hs
        | exit m => exact Comes.now I L hl (ex_exit _ _ _ m) hs
        | ret => exact Comes.now I L hl (ex_ret _ _ _) hs
        | ops os =>
          simp only at hs
          obtain ⟨q, h1, h2⟩ := T.sem_bind hs
          obtain ⟨dl1, dh1, X1, g1, g2, g3, g4, g5⟩ := opsS_ok SO os I L h1
          obtain ⟨q1, _⟩ := ops_dsts os g1
          exact ⟨.normal, q.1, q.2, dl1, dh1, X1, by rw [ex_ops, g1], g3, g4, by rw [g4.length, q1, ← L.length, hl], .of g5 g2, h2⟩
        | draw os =>
          simp only at hs
          obtain ⟨q, h1, h2⟩ := T.sem_bind hs
          obtain ⟨dl1, dh1, X1, g1, g2, g3, g4, g5⟩ := drawsS_ok SO os I L (g := []) (g' := []) trivial h1
          obtain ⟨q1, _⟩ := draws_dsts os g1
          exact ⟨.normal, q.1, q.2, dl1, dh1, X1, by rw [ex_draw, g1], g3, g4, by rw [g4.length, q1, ← L.length, hl], .of g5 g2, h2⟩
        | seq a b =>
          simp only at hs
          obtain ⟨e, l1, h1, dl1, dh1, X1, c1, c2, c3, c4, c5, c6⟩ := ih an AN (2 * p + 1) none a l h _ r wc.1 (fun _ e => nomatch e) X dh dl I L hl hs
          simp only [codeOf] at c1
          by_cases he : e = .normal
          · subst he
            simp only at c6
            obtain ⟨e2, l2, h2, dl2, dh2, X2, d1, d2, d3, d4, d5, d6⟩ := ih an AN (2 * p + 2) none b l1 h1 k r wc.2 (fun _ e => nomatch e) X1 dh1 dl1 c2 c3 c4 c6
            exact ⟨e2, l2, h2, dl2, dh2, X2, by rw [ex_seq, c1]; exact d1, d2, d3, d4, c5.trans d5, d6⟩
          · refine ⟨e, l1, h1, dl1, dh1, X1, ?_, c2, c3, c4, c5, ?_⟩
            · rw [ex_seq, c1]
              cases e <;> first
                | exact absurd rfl he
                | rfl
            · cases e <;> first
                | exact absurd rfl he
                | exact c6
        | cond c a b =>
          simp only at hs
          have goA : ∀ {l1 : List SV}, RVs X l1 dl → l1.length = n → c.ev dl = .bool true → (sym sp n f an (2 * p + 1) none a l1 h k).sem = some r → Comes n0 tbl n X h dh dl (.cond c a b) fun e l' h' => (k e l' h').sem = some r := by
            intro l1 L1 hl1 hc hs
            obtain ⟨e, l2, h2, dl2, dh2, X2, c1, c2⟩ := ih an AN (2 * p + 1) none a l1 h k r wc.1 (fun _ e => nomatch e) X dh dl I L1 hl1 hs
            exact ⟨e, l2, h2, dl2, dh2, X2, by rw [ex_cond, hc]; exact c1, c2⟩
          have goB : ∀ {l1 : List SV}, RVs X l1 dl → l1.length = n → c.ev dl = .bool false → (sym sp n f an (2 * p + 2) none b l1 h k).sem = some r → Comes n0 tbl n X h dh dl (.cond c a b) fun e l' h' => (k e l' h').sem = some r := by
            intro l1 L1 hl1 hc hs
            obtain ⟨e, l2, h2, dl2, dh2, X2, c1, c2⟩ := ih an AN (2 * p + 2) none b l1 h k r wc.2 (fun _ e => nomatch e) X dh dl I L1 hl1 hs
            exact ⟨e, l2, h2, dl2, dh2, X2, by rw [ex_cond, hc]; exact c1, c2⟩
          split at hs
          · rename_i t
            have q := L.gs t
            split at hs
            · rename_i e; rw [e] at q; simp only [RV] at q; exact goA L hl q hs
            · rename_i e; rw [e] at q; simp only [RV] at q; exact goB L hl q hs
            · rename_i x e
              rw [e] at q
              simp only [RV] at q
              rcases T.sem_br hs with ⟨rfl, hs⟩ | ⟨rfl, hs⟩
              · exact goA (L.retell (v := .tt) (by simpa [RV] using q)) (by simpa using hl) q hs
              · exact goB (L.retell (v := .ff) (by simpa [RV] using q)) (by simpa using hl) q hs
            · exact (T.sem_fail hs).elim
          · exact goA L hl rfl hs
          · exact goB L hl rfl hs
          · exact (T.sem_fail hs).elim
        | block id a =>
          simp only at hs
          obtain ⟨e, l1, h1, dl1, dh1, X1, c1, c2, c3, c4, c5, c6⟩ := ih an AN (2 * p + 1) none a l h _ r wc (fun _ e => nomatch e) X dh dl I L hl hs
          simp only [codeOf] at c1
          cases e with
          | exit id' =>
            simp only at c6
            by_cases hid : id' = id
            · rw [if_pos hid] at c6
              exact ⟨.normal, l1, h1, dl1, dh1, X1, by rw [ex_block, c1]; simp only [if_pos hid], c2, c3, c4, c5, c6⟩
            · rw [if_neg hid] at c6
              exact ⟨.exit id', l1, h1, dl1, dh1, X1, by rw [ex_block, c1]; simp only [if_neg hid], c2, c3, c4, c5, c6⟩
          | _ => exact ⟨_, l1, h1, dl1, dh1, X1, by rw [ex_block, c1], c2, c3, c4, c5, c6⟩
        | fblock id a => simp only [sym] at hs; exact (T.sem_fail hs).elim
        | loop a => exact (T.sem_fail hs).elim
        | scope d cur =>
          obtain ⟨rfl, wd'⟩ := wc
          exact ih an AN p (some cur) cur l h k r wd' (fun d' e => by cases e; exact wd') X dh dl I L hl hs

theorem sym_ok {sp : Specs} (SO : SpecsOk (calls tbl (ex tbl)) sp) {n : Nat} (f : Nat) {ρ : Type} (an : Anns) (p : Nat) (ag : Option DC) (c : DC) (l : List SV) (h : SH) (k : Ex → List SV → SH → T ρ) (r : ρ) (wc : c.wf) (wd : ∀ d, ag = some d → d.wf)
    (X : RX) (dh : Hp) (dl : List DV) (I : Inv X h dh) (L : RVs X l dl) (hl : l.length = n) (hs : (sym sp n f an p ag c l h k).sem = some r) : ∃ e l' h' dl' dh' X', ex tbl (codeOf ag c) dl dh = some (e, dl', dh') ∧ Inv X' h' dh' ∧ RVs X' l' dl' ∧ l'.length = n ∧ Step X h dh X' h' dh' ∧ (k e l' h').sem = some r := by
  obtain ⟨e, l', h', dl', dh', X', c1, c2, c3, c4, c5, c6⟩ := sym_okN (n0 := 0) SO f an .zero p ag c l h k r wc wd X dh dl I L hl hs
  exact ⟨e, l', h', dl', dh', X', c1, c2, c3, c4, c5.1, c6⟩

end Go.Dv
/- The engine, second storey: functions that need no memory. -/
set_option linter.unusedVariables false
set_option linter.unusedSimpArgs false
namespace Go.Dv

def enumOk : Nat → List (Nat × SG) → Bool
  | _, [] => true
  | i, (n, .one _) :: r => n == i && enumOk (i + 1) r
  | _, _ => false
def qKinds (fl : Bool) : List G → Bool
  | [] => true
  | .kd (.val s) :: gs => decide (s.depth ≤ 6) && qKinds fl gs
  | .kd (.at_ s) :: gs => fl && decide (s.depth ≤ 6) && qKinds fl gs
  | .kd (.clo _ s) :: gs => fl && decide (s.depth ≤ 5) && qKinds fl gs
  | .fix (.fn _ []) :: gs => qKinds fl gs
  | _ => false

inductive Rsd (dh : Hp) : List DV → List DV → Prop where
  | nil : Rsd dh [] []
  | cons {a : DV} {as rs : List DV} (n : Nat) (hn : n = 7 ∨ n = 6) (h : Rsd dh as rs) : Rsd dh (a :: as) (res dh (n + 1) a :: rs)
theorem Rsd.of7 {dh : Hp} : ∀ (as : List DV), Rsd dh as (as.map (res dh 7))
  | [] => .nil
  | a :: as => .cons 6 (.inr rfl) (Rsd.of7 as)
theorem Rsd.of {dh : Hp} (bs : List DV) : ∀ (as : List DV), Rsd dh (as ++ bs) (as.map (res dh 8) ++ bs.map (res dh 7))
  | [] => Rsd.of7 bs
  | a :: as => .cons 7 (.inl rfl) (Rsd.of bs as)

theorem arg_val {X Y : RX} {h : SH} {dh : Hp} (I : Inv X h dh) {st : Lv} (hst : st = .all ∨ st = .no) {s : Sh} (hd : s.depth ≤ 6) {v : SV} {a : DV} {y : El s} (hf : G.fits (.kd (.val s)) v = true) (e : decE st h s v.cells = some (y, [])) (k : RV X v a) {n : Nat} (hn : n = 7 ∨ n = 6) :
    RV Y (valE s y) (res dh (n + 1) a) ∧ okDeep dh (n + 1) a = true ∧ (st = .no → a.still2 = true ∧ res dh (n + 1) a = a) := by
  simp only [G.fits, Bool.and_eq_true, beq_iff_eq] at hf
  obtain ⟨hf, hdef⟩ := hf
  have hf : s.isAgg = v.isAgg := hf
  have hne : v ≠ .undef := by rintro rfl; cases hdef
  have kc := k.cellsOf hne
  have both : ∀ m, 6 ≤ m → RE s y (a.cells.map (res dh m)) ∧ a.cells.all (okDeep dh m) = true := by
    intro m hm
    rcases hst with rfl | rfl
    · obtain ⟨us, ds, dr, g1, g2, g3, g4⟩ := decE_res I (n := m) (by omega) e kc
      cases dr with
      | nil => rw [List.append_nil] at g2; subst g2; exact g3
      | cons _ _ => simp [RVs] at g4
    · have q : RE s y a.cells := decE0 (Y := X) I (by simp) (over_no (fun _ _ e => e) _) e kc
      exact ⟨by rw [q.res.1]; exact q, q.res.2⟩
  have still : st = .no → (∀ d ∈ a.cells, d.still1 = true) := by
    rintro rfl d hd
    have q : RE s y a.cells := decE0 (Y := X) I (by simp) (over_no (fun _ _ e => e) _) e kc
    exact (q.still d hd).1
  rcases isAgg_ok hne k with ⟨cs, e1, ds, rfl⟩ | ⟨e1, e2⟩
  · obtain ⟨b1, b2⟩ := both n (by omega)
    simp only [DV.cells] at b1 b2 still
    refine ⟨?_, by simp only [okDeep]; exact b2, fun hs => ⟨?_, ?_⟩⟩
    · simp only [res]
      refine valE_ok b1 rfl (fun _ => ⟨_, rfl⟩) (fun ha => ?_)
      rw [hf, e1] at ha; cases ha
    · simp only [DV.still2]; exact List.all_eq_true.2 (still hs)
    · simp only [res]; rw [(map_still (still hs)).1]
  · obtain ⟨b1, b2⟩ := both (n + 1) (by omega)
    rw [e2] at b1 b2 still
    simp only [List.map_cons, List.map_nil] at b1
    have hsz := b1.length
    refine ⟨?_, by simpa using b2, fun hs => ?_⟩
    · have hag : s.isAgg = false := hf.trans e1
      refine valE_ok b1 ?_ (fun ha => by rw [hag] at ha; cases ha) (fun _ => ?_)
      · have := (b1.still (res dh (n + 1) a) (by simp)).2
        cases hq : res dh (n + 1) a <;> rw [hq] at this <;> first | rfl | cases this
      · have := (b1.still (res dh (n + 1) a) (by simp)).2
        cases hq : res dh (n + 1) a <;> rw [hq] at this <;> first | rfl | cases this
    · have h1 := still hs a (by simp)
      exact ⟨by cases a <;> first | exact h1 | (simp [DV.still1] at h1), (still_res1 h1).1⟩

theorem argsFit_nil {g : G} {gs : List G} : argsFit (g :: gs) [] = false := by
  cases g with
  | kd k => rfl
  | fix v => cases v <;> first | rfl | (rename_i a b; cases b <;> rfl)
theorem arg_at {X Y : RX} {h : SH} {dh : Hp} (I : Inv X h dh) {s : Sh} {v : SV} {a : DV} {y : El s} (e : decAt .all h s [v] = some y) (k : RV X v a) {n : Nat} (hd : s.depth ≤ n) :
    RV Y (.fp (cellsA s y [])) (res dh (n + 1) a) ∧ okDeep dh (n + 1) a = true := by
  have fin : ∀ {ds : List DV}, RE s y ds → RV Y (.fp (cellsA s y [])) (.fp ds) := by
    intro ds q
    exact .inl ⟨ds, rfl, by simpa using q.cells (X := Y) (r := []) (dr := []) (by simp [RVs])⟩
  unfold decAt at e
  split at e
  · rename_i cs hv
    simp only [List.cons.injEq, and_true] at hv
    subst hv
    split at e
    · rename_i y' hy
      cases e
      simp only [RV] at k
      rcases k with ⟨ds, rfl, k⟩ | ⟨i, m, e', o, b, r, rfl, w1, w2, w3, w4⟩
      · have q : RE s y ds := decE0 (Y := X) I (by simp) (over_no (fun _ _ e => e) _) hy k
        exact ⟨by simp only [res]; exact fin q, rfl⟩
      · have q : RE s y (r.drop o) := decE0 (Y := X) I (by simp) (over_no (fun _ _ e => e) _) hy w4
        have hb := blk_of (I.z _ _ w1) w2
        simp only [res, okDeep, hb, w3]
        rw [q.res.1]
        exact ⟨fin q, q.res.2⟩
    · cases e
  · rename_i i o hv
    simp only [List.cons.injEq, and_true] at hv
    subst hv
    split at e
    case isFalse => cases e
    split at e
    · rename_i cs hB
      split at e
      · rename_i y' hy
        cases e
        simp only [RV] at k
        obtain ⟨_, rfl⟩ := k
        obtain ⟨z, ds, b1, b2⟩ := I.box _ _ hB
        obtain ⟨us, ds', dr, g1, g2, g3, g4⟩ := decE_res I (n := n) hd hy (b2.drop o)
        cases dr with
        | cons _ _ => simp [RVs] at g4
        | nil =>
          rw [List.append_nil] at g2
          simp only [res, okDeep, Hp.blk, Hp.heap, Bool.false_eq_true, if_false, b1, if_true, List.getElem?_cons_zero]
          rw [g2]
          exact ⟨fin g3.1, g3.2⟩
      · cases e
    · cases e
  · cases e

theorem args_q {X Y : RX} {h : SH} {dh : Hp} (I : Inv X h dh) {fl : Bool} : ∀ {gs : List G} {as : List SV} {A RA : List DV} {used seen : List Nat} {x : KTy (kinds gs)}, qKinds fl gs = true → argsFit gs as = true →
    decG (match fl with | true => .all | false => .no) h gs (as.map SV.cells) used seen = some x → RVs X as A → Rsd dh A RA →
    ∃ vs, encG gs x [] = (vs, []) ∧ RVs Y vs RA ∧ (∀ a ∈ A, okDeep dh 7 a = true ∧ okDeep dh 8 a = true) ∧ (fl = false → ∀ a ∈ A, a.still2 = true ∧ res dh 7 a = a ∧ res dh 8 a = a) := by
  intro gs
  induction gs with
  | nil =>
    intro as A RA used seen x hq hf e k r
    cases as with
    | cons _ _ => simp [argsFit] at hf
    | nil =>
      cases A with
      | cons _ _ => simp [RVs] at k
      | nil => cases r; exact ⟨[], rfl, by simp [RVs], by simp, by simp⟩
  | cons g gs ih =>
    intro as A RA used seen x hq hf e k r
    cases as with
    | nil => rw [argsFit_nil] at hf; cases hf
    | cons v as =>
    obtain ⟨a, A', rfl, k1, k2⟩ := one_rvs k
    cases r with
    | cons n hn r =>
    rename_i rs
    simp only [List.map_cons] at e
    cases g with
    | fix w =>
      have hw : ∃ fn, w = .fn fn [] := by
        cases w <;> first
          | (simp [qKinds] at hq; done)
          | skip
        rename_i fn cap
        cases cap with
        | nil => exact ⟨fn, rfl⟩
        | cons _ _ => simp [qKinds] at hq
      obtain ⟨fn, rfl⟩ := hw
      simp only [qKinds] at hq
      simp only [argsFit, Bool.and_eq_true, Bool.not_eq_true'] at hf
      obtain ⟨hna, hf⟩ := hf
      obtain ⟨c, css, hc, hfix⟩ := decG_cons e
      obtain ⟨v', hv'⟩ := hfix _ rfl
      cases hc
      rw [hv'] at e
      obtain ⟨hs, e'⟩ := decG_fix e
      have hv : v = .fn fn [] := by
        have e1 : v' = .fn fn [] := by
          cases v' <;> first
            | (simp [fixSame] at hs; done)
            | skip
          rename_i g' cap'
          cases cap' with
          | cons _ _ => simp [fixSame] at hs
          | nil => simp [fixSame] at hs; rw [hs]
        have e2 : v.cells = [v] := by cases v <;> first | rfl | (simp [SV.isAgg] at hna)
        rw [e2] at hv'
        simp only [List.cons.injEq, and_true] at hv'
        rw [hv', e1]
      subst hv
      simp only [RV, RVs] at k1
      obtain ⟨ds, rfl, k1⟩ := k1
      cases ds with
      | cons _ _ => exact k1.elim
      | nil =>
        obtain ⟨vs, g1, g2, g3, g4⟩ := ih hq hf e' k2 r
        refine ⟨.fn fn [] :: vs, by simp only [encG]; rw [g1], ?_, ?_, ?_⟩
        · simp only [RVs]
          exact ⟨⟨[], by simp [res], by simp [RVs]⟩, g2⟩
        · intro a ha
          rcases List.mem_cons.1 ha with rfl | ha
          · exact ⟨rfl, rfl⟩
          · exact g3 a ha
        · intro hfl a ha
          rcases List.mem_cons.1 ha with rfl | ha
          · exact ⟨rfl, by simp [res], by simp [res]⟩
          · exact g4 hfl a ha
    | kd kk =>
      cases kk with
      | val s =>
        simp only [qKinds, Bool.and_eq_true, decide_eq_true_eq] at hq
        simp only [argsFit, Bool.and_eq_true] at hf
        obtain ⟨y, r0, hy, hr, rfl⟩ := decG_val e
        obtain ⟨vs, g1, g2, g3, g4⟩ := ih hq.2 hf.2 hr k2 r
        have hst : (match fl with | true => Lv.all | false => .no) = .all ∨ (match fl with | true => Lv.all | false => .no) = .no := by cases fl <;> simp
        have q := arg_val (Y := Y) I hst hq.1 hf.1 hy k1 hn
        have q7 := arg_val (Y := Y) I hst hq.1 hf.1 hy k1 (n := 7) (.inl rfl)
        have q6 := arg_val (Y := Y) I hst hq.1 hf.1 hy k1 (n := 6) (.inr rfl)
        refine ⟨valE s y :: vs, by simp only [encG, KTy.hd_mk, KTy.tl_mk]; rw [g1], ?_, ?_, ?_⟩
        · simp only [RVs]; exact ⟨q.1, g2⟩
        · intro a ha
          rcases List.mem_cons.1 ha with rfl | ha
          · exact ⟨q6.2.1, q7.2.1⟩
          · exact g3 a ha
        · intro hfl a ha
          rcases List.mem_cons.1 ha with rfl | ha
          · subst hfl
            exact ⟨(q7.2.2 rfl).1, (q6.2.2 rfl).2, (q7.2.2 rfl).2⟩
          · exact g4 hfl a ha
      | at_ s =>
        simp only [qKinds, Bool.and_eq_true, decide_eq_true_eq] at hq
        simp only [argsFit, Bool.and_eq_true] at hf
        obtain ⟨⟨hfl, hd⟩, hq⟩ := hq
        subst hfl
        obtain ⟨y, r0, hy, hr, rfl⟩ := decG_at e
        obtain ⟨vs, g1, g2, g3, g4⟩ := ih hq hf.2 hr k2 r
        have hy : decAt .all h s [v] = some y := by
          have hf1 := hf.1
          simp only [G.fits, Bool.and_eq_true, beq_iff_eq] at hf1
          rw [show [v] = v.cells from by cases v <;> first | rfl | (cases hf1.1)]
          exact hy
        have q := arg_at (Y := Y) I hy k1 (n := n) (by omega)
        have q7 := arg_at (Y := Y) I hy k1 (n := 7) (by omega)
        have q6 := arg_at (Y := Y) I hy k1 (n := 6) (by omega)
        refine ⟨.fp (cellsA s y []) :: vs, by simp only [encG, KTy.hd_mk, KTy.tl_mk]; rw [g1], ?_, ?_, fun h => nomatch h⟩
        · simp only [RVs]; exact ⟨q.1, g2⟩
        · intro a ha
          rcases List.mem_cons.1 ha with rfl | ha
          · exact ⟨q6.2, q7.2⟩
          · exact g3 a ha
      | clo f s =>
        simp only [qKinds, Bool.and_eq_true, decide_eq_true_eq] at hq
        simp only [argsFit, Bool.and_eq_true] at hf
        obtain ⟨⟨hfl, hd⟩, hq⟩ := hq
        subst hfl
        obtain ⟨y, r0, hy, hr, rfl⟩ := decG_clo e
        obtain ⟨vs, g1, g2, g3, g4⟩ := ih hq hf.2 hr k2 r
        have hf1 := hf.1
        simp only [G.fits, Bool.and_eq_true, beq_iff_eq] at hf1
        rw [show v.cells = [v] from by cases v <;> first | rfl | (cases hf1.1)] at hy
        obtain ⟨v1, e1, hv⟩ := decClo_is hy
        simp only [List.cons.injEq, and_true] at e1
        subst e1
        simp only [RV] at k1
        obtain ⟨ds, rfl, k1⟩ := k1
        obtain ⟨d, dr, rfl, k3, k4⟩ := one_rvs k1
        cases dr with
        | cons _ _ => simp [RVs] at k4
        | nil =>
          have at_ : ∀ m, 5 ≤ m → RV Y (.fn f [.fp (cellsA s y [])]) (res dh (m + 1 + 1) (.fn f [d])) ∧ okDeep dh (m + 1 + 1) (.fn f [d]) = true := by
            intro m hm
            have q := arg_at (Y := Y) I hv k3 (n := m) (by omega)
            simp only [res, okDeep, List.map_cons, List.map_nil, RV, List.all_cons, List.all_nil, Bool.and_true]
            exact ⟨⟨_, rfl, by simp only [RVs, and_true]; exact q.1⟩, q.2⟩
          refine ⟨.fn f [.fp (cellsA s y [])] :: vs, by simp only [encG, KTy.hd_mk, KTy.tl_mk]; rw [g1], ?_, ?_, fun h => nomatch h⟩
          · simp only [RVs]
            refine ⟨?_, g2⟩
            rcases hn with rfl | rfl
            · exact (at_ 6 (by omega)).1
            · exact (at_ 5 (by omega)).1
          · intro a ha
            rcases List.mem_cons.1 ha with rfl | ha
            · exact ⟨(at_ 5 (by omega)).2, (at_ 6 (by omega)).2⟩
            · exact g3 a ha
      | view v s => simp [qKinds] at hq
      | own v z s => simp [qKinds] at hq

theorem slotVs_enum : ∀ {slots : List (Nat × SG)} {i : Nat} {vs : List SV}, enumOk i slots = true → vs.length = slots.length → slotVs slots vs = (vs, [])
  | [], _, [], _, _ => rfl
  | [], _, _ :: _, _, h => by simp at h
  | (n, .one g) :: r, i, [], _, h => by simp at h
  | (n, .one g) :: r, i, v :: vs, he, h => by
    simp only [enumOk, Bool.and_eq_true] at he
    simp only [slotVs]
    rw [slotVs_enum he.2 (by simpa using h)]
  | (n, .agg g) :: r, i, _, he, _ => by simp [enumOk] at he
theorem layS_enum : ∀ {slots : List (Nat × SG)} {pre : List SV} {vs : List SV} {m : Nat}, enumOk pre.length slots = true → vs.length = slots.length → slots.length ≤ m →
    layS slots vs (pre ++ List.replicate m .undef) = pre ++ vs ++ List.replicate (m - slots.length) .undef
  | [], pre, [], m, _, _, _ => by simp [layS]
  | [], _, _ :: _, _, _, h, _ => by simp at h
  | (n, .one g) :: r, pre, [], m, _, h, _ => by simp at h
  | (n, .one g) :: r, pre, v :: vs, 0, _, _, h => by simp at h
  | (n, .one g) :: r, pre, v :: vs, m + 1, he, h, hm => by
    simp only [enumOk, Bool.and_eq_true, beq_iff_eq] at he
    obtain ⟨rfl, he⟩ := he
    simp only [layS]
    have e1 : (pre ++ List.replicate (m + 1) SV.undef).set pre.length v = (pre ++ [v]) ++ List.replicate m .undef := by
      rw [List.set_append_right _ _ (Nat.le_refl _), Nat.sub_self, List.replicate_succ, List.set_cons_zero, List.append_assoc]; rfl
    rw [e1, layS_enum (pre := pre ++ [v]) (by simpa using he) (by simpa using h) (by simpa using hm)]
    simp
  | (n, .agg g) :: r, _, _, _, he, _, _ => by simp [enumOk] at he

theorem sRes_ok {X : RX} {h : SH} {dh : Hp} (I : Inv X h dh) {l : List SV} {dl : List DV} (L : RVs X l dl) : ∀ {rs : List (Nat × Option (Option Nat))} {vs : List SV}, (sRes l h rs).sem = some vs → ∃ ds, resAll dl dh rs = some ds ∧ RVs X vs ds
  | [], vs, hs => by simp only [sRes] at hs; cases T.sem_ret hs; exact ⟨[], rfl, by simp [RVs]⟩
  | (t, none) :: rs, vs, hs => by
    simp only [sRes] at hs
    obtain ⟨vs', h1, h2⟩ := T.sem_bind hs
    cases T.sem_ret h2
    obtain ⟨ds, g1, g2⟩ := sRes_ok I L h1
    exact ⟨gt dl t :: ds, by simp only [resAll, resOne, g1], by simp only [RVs]; exact ⟨L.gs t, g2⟩⟩
  | (t, some z) :: rs, vs, hs => by
    simp only [sRes] at hs
    obtain ⟨v, h1, h2⟩ := T.sem_bind hs
    obtain ⟨vs', h3, h4⟩ := T.sem_bind h2
    cases T.sem_ret h4
    obtain ⟨d, k1, k2⟩ := load_ok (K := ⟨fun _ _ _ => none, fun _ _ => none⟩) I L h1
    obtain ⟨ds, g1, g2⟩ := sRes_ok I L h3
    exact ⟨d :: ds, by simp only [resAll, resOne, k1, g1], by simp only [RVs]; exact ⟨k2, g2⟩⟩

theorem resL_mk (k : K) (ks : List K) (x : k.Ty) (r : KTy ks) : resL (k :: ks) (KTy.mk k ks x r) = k.put x :: resL ks r := by
  cases ks <;> rfl
def qRes : List (Nat × SG) → Bool
  | [] => true
  | (_, .one (.kd (.val s))) :: r => decide (s.depth ≤ 6) && qRes r
  | _ => false
theorem results_q {X Y : RX} {h : SH} {dh : Hp} (I : Inv X h dh) {n : Nat} (hn : n = 7 ∨ n = 6) : ∀ {slots : List (Nat × SG)} {pre vs : List SV} {ds : List DV} {cs : List (List SV)} {used seen : List Nat} {y : KTy (kinds (slotGs slots ++ []))}, qRes slots = true → enumOk pre.length slots = true → vs.length = slots.length →
    slotCells (pre ++ vs) slots = some cs → decG .all h (slotGs slots ++ []) cs used seen = some y → RVs X vs ds → RVs Y (resL (kinds (slotGs slots ++ [])) y) (ds.map (res dh (n + 1)))
  | [], pre, vs, ds, cs, used, seen, y, _, _, hl, _, _, k => by
    have : vs = [] := List.eq_nil_of_length_eq_zero hl
    subst this
    cases ds with
    | nil => show RVs Y (resL [] y) []; simp only [resL, RVs]
    | cons _ _ => simp [RVs] at k
  | (q, .one (.kd (.val s))) :: r, pre, vs, ds, cs, used, seen, y, hq, he, hl, hc, e, k => by
    simp only [qRes, Bool.and_eq_true, decide_eq_true_eq] at hq
    simp only [enumOk, Bool.and_eq_true, beq_iff_eq] at he
    obtain ⟨rfl, he⟩ := he
    cases vs with
    | nil => simp at hl
    | cons v vs =>
    obtain ⟨a, ds', rfl, k1, k2⟩ := one_rvs k
    have hg : gs (pre ++ v :: vs) pre.length = v := by
      unfold gs
      rw [List.getD_eq_getElem?_getD, List.getElem?_append_right (Nat.le_refl _), Nat.sub_self]; rfl
    simp only [slotCells, hg] at hc
    split at hc
    case isFalse => cases hc
    rename_i hf
    split at hc
    case h_2 => cases hc
    rename_i cs' hc'
    cases hc
    obtain ⟨y0, r0, hy, hr, rfl⟩ := decG_val (gs := slotGs r ++ []) e
    have ih := results_q (Y := Y) I hn (pre := pre ++ [v]) (vs := vs) hq.2 (by simpa using he) (by simpa using hl) (by simpa using hc') hr k2
    have q := arg_val (Y := Y) I (.inl rfl) hq.1 hf hy k1 hn
    show RVs Y (resL (.val s :: kinds (slotGs r ++ [])) _) _
    rw [resL_mk]
    simp only [List.map_cons, RVs]
    exact ⟨q.1, ih⟩
  | (_, .one (.kd (.view _ _))) :: r, _, _, _, _, _, _, _, hq, _, _, _, _, _ => by simp [qRes] at hq
  | (_, .one (.kd (.own _ _ _))) :: r, _, _, _, _, _, _, _, hq, _, _, _, _, _ => by simp [qRes] at hq
  | (_, .one (.kd (.at_ _))) :: r, _, _, _, _, _, _, _, hq, _, _, _, _, _ => by simp [qRes] at hq
  | (_, .one (.kd (.clo _ _))) :: r, _, _, _, _, _, _, _, hq, _, _, _, _, _ => by simp [qRes] at hq
  | (_, .one (.fix _)) :: r, _, _, _, _, _, _, _, hq, _, _, _, _, _ => by simp [qRes] at hq
  | (_, .agg _) :: r, _, _, _, _, _, _, _, hq, _, _, _, _, _ => by simp [qRes] at hq

theorem flat_cells {X : RX} : ∀ {s : Sh} {x : El s} {r : List SV} {D : List DV}, s.flat = true → RVs X (cellsA s x r) D → ∃ D1 D2, D = D1 ++ D2 ∧ D1.all DV.flat1 = true ∧ RVs X r D2
  | .int k, n, r, D, _, h => by
    obtain ⟨d, dr, rfl, h1, h2⟩ := one_rvs h
    exact ⟨[d], dr, rfl, by rw [h1.int]; rfl, h2⟩
  | .bool, b, r, D, _, h => by
    obtain ⟨d, dr, rfl, h1, h2⟩ := one_rvs h
    simp only [RV] at h1
    exact ⟨[d], dr, rfl, by rw [h1]; rfl, h2⟩
  | .str, b, r, D, _, h => by
    obtain ⟨d, dr, rfl, h1, h2⟩ := one_rvs h
    exact ⟨[d], dr, rfl, by rw [h1.str]; rfl, h2⟩
  | .list _, _, _, _, hf, _ => by simp [Sh.flat] at hf
  | .tree _, _, _, _, hf, _ => by simp [Sh.flat] at hf
  | .uno _, _, _, _, hf, _ => by simp [Sh.flat] at hf
  | .pair a b, x, r, D, hf, h => by
    simp only [Sh.flat, Bool.and_eq_true] at hf
    obtain ⟨D1, D2, rfl, h1, h2⟩ := flat_cells hf.1 h
    obtain ⟨D3, D4, rfl, h3, h4⟩ := flat_cells hf.2 h2
    exact ⟨D1 ++ D3, D4, by simp, by rw [List.all_append, h1, h3]; rfl, h4⟩
theorem flat_val {X : RX} {s : Sh} {x : El s} {d : DV} (hf : s.flat = true) (h : RV X (valE s x) d) : d.flat2 = true := by
  cases s with
  | int k => simp only [valE] at h; rw [h.int]; rfl
  | bool => simp only [valE, RV] at h; rw [h]; rfl
  | str => simp only [valE] at h; rw [h.str]; rfl
  | list _ => simp [Sh.flat] at hf
  | tree _ => simp [Sh.flat] at hf
  | uno _ => simp [Sh.flat] at hf
  | pair a b =>
    simp only [valE, RV] at h
    obtain ⟨ds, rfl, h⟩ := h
    obtain ⟨D1, D2, rfl, h1, h2⟩ := flat_cells hf h
    cases D2 with
    | nil => simpa [DV.flat2] using h1
    | cons _ _ => simp [RVs] at h2
theorem flat_res {X : RX} : ∀ {ks : List K} {y : KTy ks} {ds : List DV}, flatKs ks = true → RVs X (resL ks y) ds → ds.all DV.flat2 = true
  | [], _, [], _, _ => rfl
  | [], _, _ :: _, _, h => by simp [resL, RVs] at h
  | [.val s], y, ds, hf, h => by
    simp only [flatKs, Bool.and_eq_true] at hf
    simp only [resL] at h
    obtain ⟨d, dr, rfl, h1, h2⟩ := one_rvs h
    cases dr with
    | cons _ _ => simp [RVs] at h2
    | nil => simp only [List.all_cons, flat_val hf.1 h1, List.all_nil, Bool.and_self]
  | .val s :: k :: ks, y, ds, hf, h => by
    simp only [flatKs] at hf
    rw [Bool.and_eq_true] at hf
    simp only [resL] at h
    obtain ⟨d, dr, rfl, h1, h2⟩ := one_rvs h
    simp only [List.all_cons, flat_val hf.1 h1, flat_res (ks := k :: ks) hf.2 h2, Bool.and_self]
  | .view _ _ :: _, _, _, hf, _ => by simp [flatKs] at hf
  | .own _ _ _ :: _, _, _, hf, _ => by simp [flatKs] at hf
  | .at_ _ :: _, _, _, hf, _ => by simp [flatKs] at hf
  | .clo _ _ :: _, _, _, hf, _ => by simp [flatKs] at hf

theorem encG_len : ∀ (gs : List G) (x : KTy (kinds gs)) (R : List RB), (encG gs x R).1.length = gs.length
  | [], _, _ => rfl
  | .fix v :: gs, x, R => by
    have := encG_len gs x R
    simp only [encG]
    cases h : encG gs x R with
    | mk a b => rw [h] at this; simpa using this
  | .kd (.val s) :: gs, x, R => by
    have := encG_len gs (KTy.tl _ _ x) R
    simp only [encG]
    cases h : encG gs (KTy.tl (.val s) _ x) R with
    | mk a b => rw [h] at this; simpa using this
  | .kd (.view v s) :: gs, x, R => by
    have := encG_len gs (KTy.tl _ _ x) R
    simp only [encG]
    cases h : encG gs (KTy.tl (.view v s) _ x) R with
    | mk a b => rw [h] at this; simpa using this
  | .kd (.at_ s) :: gs, x, R => by
    have := encG_len gs (KTy.tl _ _ x) R
    simp only [encG]
    cases h : encG gs (KTy.tl (.at_ s) _ x) R with
    | mk a b => rw [h] at this; simpa using this
  | .kd (.clo f s) :: gs, x, R => by
    have := encG_len gs (KTy.tl _ _ x) R
    simp only [encG]
    cases h : encG gs (KTy.tl (.clo f s) _ x) R with
    | mk a b => rw [h] at this; simpa using this
  | .kd (.own v z s) :: gs, x, R => by
    simp only [encG]
    cases h : encG gs (KTy.tl (.own v z s) _ x) (R ++ [.live false z (.typed v s (KTy.hd (.own v z s) (kinds gs) x))]) with
    | mk a b =>
      have := encG_len gs (KTy.tl (.own v z s) _ x) (R ++ [.live false z (.typed v s (KTy.hd (.own v z s) (kinds gs) x))])
      rw [h] at this; simpa using this
theorem slotGs_len : ∀ {slots : List (Nat × SG)} {i : Nat}, enumOk i slots = true → (slotGs slots).length = slots.length
  | [], _, _ => rfl
  | (n, .one g) :: r, i, h => by simp only [enumOk, Bool.and_eq_true] at h; simp [slotGs, slotGs_len h.2]
  | (n, .agg g) :: r, i, h => by simp [enumOk] at h

def RX.none : RX := ⟨fun _ => .none, 0, fun _ => (.none, 0), 0, fun _ => 0, fun _ => 0⟩
theorem Inv.none : Inv RX.none ⟨[], []⟩ ⟨[], [], 0⟩ :=
  ⟨rfl, rfl, fun i cs h => by simp at h, fun i i' h => absurd h (Nat.not_lt_zero _), fun i k h => (nomatch h), fun j fz z c h => by simp at h, fun j j' z c z' c' i m m' h => by simp at h⟩

structure QSig (ti to : Tm) : Prop where
  b1 : ti.boxes = []
  e1 : enumOk 0 ti.slots = true
  q1 : qKinds (flatKs (kinds to.gs)) ti.gs = true
  b2 : to.boxes = []
  e2 : enumOk 0 to.slots = true
  q2 : qRes to.slots = true

theorem resAll_len {l : List DV} {h : Hp} : ∀ {rs : List (Nat × Option (Option Nat))} {ds : List DV}, resAll l h rs = some ds → ds.length = rs.length
  | [], ds, e => by simp only [resAll, Option.some.injEq] at e; subst e; rfl
  | r :: rs, ds, e => by
    simp only [resAll] at e
    split at e
    · rename_i v vs h1 h2; cases e; simp [resAll_len h2]
    · cases e
theorem resVal_many {l : List DV} {h : Hp} {rs : List (Nat × Option (Option Nat))} {ds : List DV} (k : resAll l h rs = some ds) (hne : ∀ a, ds ≠ [a]) : resVal l h rs = some (.tup ds) := by
  unfold resVal
  rw [k]
  split
  · rename_i v e; cases e; exact absurd rfl (hne v)
  · rename_i vs _ e; cases e; rfl
  · rename_i e; cases e
theorem resVal_one {l : List DV} {h : Hp} {rs : List (Nat × Option (Option Nat))} {a : DV} (k : resAll l h rs = some [a]) : resVal l h rs = some a := by
  unfold resVal
  rw [k]
theorem symF_run {tbl : Table} {sp : Specs} (SO : SpecsOk (calls tbl (ex tbl)) sp) {f : FuncId} {an : Anns} {fuel : Nat} {ti to : Tm} (S : QSig ti to) {d : DF} (hd : tbl.fn f = some d) (hp : d.pure = true) (hw : d.body.wf) {x : St ti} {y : St to}
    (hs : (symF tbl sp f an fuel ti to x).sem = some y) {vs : List SV} {RA : List DV} (he : encG ti.gs x [] = (vs, [])) (hr : RVs RX.none vs RA) :
    RA.length = d.params ∧ ∃ r, (match ex tbl d.body (RA ++ List.replicate (d.n - RA.length) .undef) ⟨[], [], 0⟩ with
      | some (.ret, l, h') | some (.normal, l, h') => (resVal l h' d.results).map (res h' 8)
      | _ => none) = some r ∧ (∀ X, RV X (resV (kinds to.gs) y) r) ∧ (flatKs (kinds to.gs) = true → r.flat = true) := by
  obtain ⟨b1, e1, q1, b2, e2, q2⟩ := S
  simp only [symF, hd] at hs
  split at hs
  case isFalse => exact (T.sem_fail hs).elim
  rename_i hc
  obtain ⟨hc1, hc2, hc3⟩ := hc
  have hlen : vs.length = ti.slots.length := by
    have h1 := encG_len ti.gs x []
    rw [he] at h1
    simp only at h1
    rw [h1]
    simp only [Tm.gs, b1, List.flatten_nil, List.append_nil]
    exact slotGs_len e1
  have hen : enc d.n ti x = (vs ++ List.replicate (d.n - d.params) .undef, ⟨[], []⟩) := by
    simp only [enc]
    rw [he]
    simp only
    rw [slotVs_enum e1 hlen]
    simp only [b1, layB]
    have := layS_enum (pre := []) (vs := vs) (m := d.n) e1 hlen (by omega)
    simp only [List.nil_append] at this
    rw [this, hc1]
  rw [hen] at hs
  simp only at hs
  have hRA : RA.length = d.params := by rw [← hr.length, hlen, hc1]
  refine ⟨hRA, ?_⟩
  have L0 : RVs RX.none (vs ++ List.replicate (d.n - d.params) .undef) (RA ++ List.replicate (d.n - RA.length) .undef) := by
    rw [hRA]
    exact hr.append (RVs.replicate (by simp [RV]) _)
  obtain ⟨e, l', h', dl', dh', X', c1, c2, c3, c4, c5, c6⟩ := sym_ok (tbl := tbl) SO fuel an 0 .none d.body _ _ _ y hw (fun _ e => nomatch e) RX.none ⟨[], [], 0⟩ _ Inv.none L0 (by rw [List.length_append, List.length_replicate, hlen, hc1]; omega) hs
  simp only [codeOf] at c1
  rw [c1]
  have fin : ((sRes l' h' d.results).bind fun vs => T.ofO (decT to vs h' (match d.pure with | true => .all | false => .no))).sem = some y →
      ∃ r, (resVal dl' dh' d.results).map (res dh' 8) = some r ∧ (∀ X, RV X (resV (kinds to.gs) y) r) ∧ (flatKs (kinds to.gs) = true → r.flat = true) := by
    intro hs
    obtain ⟨rv, h1, h2⟩ := T.sem_bind hs
    have h2 := T.sem_ofO h2
    rw [hp] at h2
    obtain ⟨ds, k1, k2⟩ := sRes_ok c2 c3 h1
    obtain ⟨slots, boxes⟩ := to
    simp only at b2 e2 q2
    subst b2
    unfold decT at h2
    simp only [boxCells] at h2
    split at h2
    case h_2 => cases h2
    rename_i cs bs g1 g2
    cases g2
    split at h2
    case isFalse => cases h2
    rw [List.append_nil] at h2
    have hrl : rv.length = slots.length := by rw [k2.length, resAll_len k1]; exact hc3.symm
    have R7 := fun X => results_q (Y := X) c2 (n := 7) (.inl rfl) (pre := []) q2 e2 hrl (by simpa using g1) h2 k2
    have R6 := fun X => results_q (Y := X) c2 (n := 6) (.inr rfl) (pre := []) q2 e2 hrl (by simpa using g1) h2 k2
    have hlen2 : (resL (kinds (slotGs slots ++ [])) y).length = ds.length := by
      have := (R7 RX.none).length
      simpa using this
    have split' : (∃ a, ds = [a]) ∨ ((∀ a, ds ≠ [a])) := by
      cases ds with
      | nil => exact .inr (by simp)
      | cons a ds => cases ds with
        | nil => exact .inl ⟨a, rfl⟩
        | cons b ds => exact .inr (by simp)
    rcases split' with ⟨a, rfl⟩ | hne
    · rw [resVal_one k1]
      refine ⟨res dh' 8 a, rfl, fun X => ?_, fun hf => ?_⟩
      · have := R7 X
        simp only [List.map_cons, List.map_nil] at this
        unfold resV
        show RV X (match resL (kinds (slotGs slots ++ [])) y with | [v] => v | vs => .tup vs) _
        match hq : resL (kinds (slotGs slots ++ [])) y, this with
        | [v], this => simp only [RVs] at this; exact this.1
      · have := flat_res hf (R7 RX.none)
        simp only [List.map_cons, List.map_nil, List.all_cons, List.all_nil, Bool.and_true] at this
        cases hq : res dh' 8 a <;> rw [hq] at this <;> first
          | exact this
          | (simp [DV.flat2, DV.flat1] at this)
    · rw [resVal_many k1 hne]
      refine ⟨.tup (ds.map (res dh' 7)), by simp only [Option.map_some, res], fun X => ?_, fun hf => ?_⟩
      · unfold resV
        show RV X (match resL (kinds (slotGs slots ++ [])) y with | [v] => v | vs => .tup vs) _
        have := R6 X
        match hq : resL (kinds (slotGs slots ++ [])) y, this with
        | [v], this =>
          rw [hq] at hlen2
          match ds, hlen2 with
          | [a], _ => exact absurd rfl (hne a)
        | [], this => exact ⟨_, rfl, this⟩
        | _ :: _ :: _, this => exact ⟨_, rfl, this⟩
      · exact flat_res hf (R6 RX.none)
  cases e with
  | ret => exact fin c6
  | normal => exact fin c6
  | exit _ => exact (T.sem_fail c6).elim
  | goto _ => exact (T.sem_fail c6).elim

theorem specQ_ok {tbl : Table} {sp : Specs} (SO : SpecsOk (calls tbl (ex tbl)) sp) {f : FuncId} {an : Anns} {fuel : Nat} {ti to : Tm} (S : QSig ti to) {d : DF} (hd : tbl.fn f = some d) (hpr : tbl.prim f = none) (hp : d.pure = true) (hw : d.body.wf)
    {X : RX} {h : SH} {dh : Hp} {as : List SV} {das dcap : List DV} {x : St ti} {y : St to} (hcap : flatKs (kinds to.gs) = true ∨ dcap = []) (I : Inv X h dh) (L : RVs X as (das ++ dcap)) (hfit : argsFit ti.gs as = true)
    (hx : decG (match flatKs (kinds to.gs) with | true => .all | false => .no) h ti.gs (as.map SV.cells) [] [] = some x) (hs : (symF tbl sp f an fuel ti to x).sem = some y) :
    ∃ d, RV X (resV (kinds to.gs) y) d ∧ callK tbl (ex tbl) (.fn f dcap) das dh = some (d, dh) ∧ (okDeep dh 8 (.fn f dcap) && das.all (okDeep dh 8)) = true ∧ callQ tbl (ex tbl) (res dh 8 (.fn f dcap)) (das.map (res dh 8)) = some d ∧
      (d.flat || ((DV.fn f dcap).still && das.all DV.still)) = true := by
  obtain ⟨vs, g1, g2, g3, g4⟩ := args_q (Y := RX.none) I S.q1 hfit hx L (Rsd.of dcap das)
  obtain ⟨hlen, r, r1, r2, r3⟩ := symF_run SO S hd hp hw hs g1 g2
  have hq : callQ tbl (ex tbl) (res dh 8 (.fn f dcap)) (das.map (res dh 8)) = some r := by
    have e8 : res dh 8 (.fn f dcap) = .fn f (dcap.map (res dh 7)) := rfl
    rw [e8]
    unfold callQ
    simp only [hd]
    rw [if_neg (by rw [hp]; simp only [reduceCtorEq, or_false, ne_eq, Decidable.not_not]; exact hlen)]
    exact r1
  have hfl : (r.flat || ((DV.fn f dcap).still && das.all DV.still)) = true := by
    by_cases hf : flatKs (kinds to.gs) = true
    · rw [r3 hf]; rfl
    · have hc : dcap = [] := hcap.resolve_left hf
      subst hc
      have hf' : flatKs (kinds to.gs) = false := by simpa using hf
      have q := g4 hf'
      have : das.all DV.still = true := by
        rw [List.all_eq_true]
        intro a ha
        have := (q a (by simp [ha])).1
        cases a <;> first | exact this | (simp [DV.still2, DV.still1] at this)
      rw [this]
      simp [DV.still, DV.still2]
  refine ⟨r, r2 X, ?_, ?_, hq, hfl⟩
  · unfold callK
    simp only [hpr, hd, hp, if_true]
    rw [hq]
    simp only
    rw [if_pos hfl]
  · rw [Bool.and_eq_true]
    refine ⟨?_, List.all_eq_true.2 fun a ha => (g3 a (by simp [ha])).2⟩
    simp only [okDeep]
    exact List.all_eq_true.2 fun a ha => (g3 a (by simp [ha])).1

theorem specO_ok {tbl : Table} {sp : Specs} (SO : SpecsOk (calls tbl (ex tbl)) sp) {f : FuncId} {an : Anns} {fuel : Nat} {ti to : Tm} (S : QSig ti to) {d : DF} (hd : tbl.fn f = some d) (hpr : tbl.prim f = none) (hp : d.pure = true) (hw : d.body.wf)
    {F : St ti → Option (St to)} (hF : ∀ x y, F x = some y → (symF tbl sp f an fuel ti to x).sem = some y) : SpecOk (calls tbl (ex tbl)) f (specO ti.gs (kinds to.gs) F) := by
  intro X h dh as das dcap v hcap I L hs
  simp only at hs
  split at hs
  · exact (T.sem_fail hs).elim
  rename_i hfit
  split at hs
  case h_2 => exact (T.sem_fail hs).elim
  rename_i x hx
  obtain ⟨y, h1, h2⟩ := T.sem_ask hs
  cases T.sem_ret h2
  exact specQ_ok SO S hd hpr hp hw hcap I L (by simpa using hfit) hx (hF x y h1)
theorem specT_ok {tbl : Table} {sp : Specs} (SO : SpecsOk (calls tbl (ex tbl)) sp) {f : FuncId} {an : Anns} {fuel : Nat} {ti to : Tm} (S : QSig ti to) {d : DF} (hd : tbl.fn f = some d) (hpr : tbl.prim f = none) (hp : d.pure = true) (hw : d.body.wf)
    {F : St ti → St to} (hF : ∀ x, (symF tbl sp f an fuel ti to x).sem = some (F x)) : SpecOk (calls tbl (ex tbl)) f (specT ti.gs (kinds to.gs) F) := by
  intro X h dh as das dcap v hcap I L hs
  simp only at hs
  split at hs
  · exact (T.sem_fail hs).elim
  rename_i hfit
  split at hs
  case h_2 => exact (T.sem_fail hs).elim
  rename_i x hx
  cases T.sem_ret hs
  exact specQ_ok SO S hd hpr hp hw hcap I L (by simpa using hfit) hx (hF x)

end Go.Dv
/- The engine, second storey: a function's contract, as the printed text uses it. -/
namespace Go.Dv

theorem funOf_wf {P : Program} {pol : Pol} {f : FuncId} {d : DF} (h : funOf P pol f = some d) : d.body.wf := by
  unfold funOf at h
  split at h
  · cases h
  · split at h
    · cases h
    · split at h
      · rename_i b rs h3 h4
        split at h
        · cases h
        · cases h
          exact trCode_wf h3
      · cases h

theorem specsOk_nil {K : Oracle} : SpecsOk K (spOf []) := fun f s h => by simp [spOf] at h
theorem specsOk_cons {K : Oracle} {f : FuncId} {s : Spec} {l : List (Nat × Spec)} (h1 : SpecOk K f s) (h2 : SpecsOk K (spOf l)) : SpecsOk K (spOf ((f, s) :: l)) := by
  intro g t h
  simp only [spOf, List.lookup_cons] at h
  by_cases e : g = f
  · subst e
    simp only [beq_self_eq_true, Option.some.injEq] at h
    subst h; exact h1
  · have : (g == f) = false := by simpa using e
    simp only [this] at h
    exact h2 g t h

theorem plugO {P : Program} {pol : Pol} {prim : FuncId → Option (List DV → Hp → Option (DV × Hp))} {sp : Specs} (SO : SpecsOk (calls ⟨funOf P pol, prim⟩ (ex ⟨funOf P pol, prim⟩)) sp) {f : FuncId} {an : Anns} {fuel : Nat} {ti to : Tm}
    (S : QSig ti to) (hp : ((funOf P pol f).any DF.pure) = true) (hpr : prim f = none) {F : St ti → Option (St to)} (hF : ∀ x, (symF ⟨funOf P pol, prim⟩ sp f an fuel ti to x).sem = F x) :
    SpecOk (calls ⟨funOf P pol, prim⟩ (ex ⟨funOf P pol, prim⟩)) f (specO ti.gs (kinds to.gs) F) := by
  cases hd : funOf P pol f with
  | none => rw [hd] at hp; cases hp
  | some d =>
    rw [hd] at hp
    exact specO_ok SO S (tbl := ⟨funOf P pol, prim⟩) hd hpr hp (funOf_wf hd) (an := an) (fuel := fuel) (fun x y h => by rw [hF, h])

theorem plugT {P : Program} {pol : Pol} {prim : FuncId → Option (List DV → Hp → Option (DV × Hp))} {sp : Specs} (SO : SpecsOk (calls ⟨funOf P pol, prim⟩ (ex ⟨funOf P pol, prim⟩)) sp) {f : FuncId} {an : Anns} {fuel : Nat} {ti to : Tm}
    (S : QSig ti to) (hp : ((funOf P pol f).any DF.pure) = true) (hpr : prim f = none) {F : St ti → St to} (h1 : ∀ x, (symF ⟨funOf P pol, prim⟩ sp f an fuel ti to x).sure = true)
    (h2 : ∀ x d, (symF ⟨funOf P pol, prim⟩ sp f an fuel ti to x).pick d = F x) :
    SpecOk (calls ⟨funOf P pol, prim⟩ (ex ⟨funOf P pol, prim⟩)) f (specT ti.gs (kinds to.gs) F) := by
  cases hd : funOf P pol f with
  | none => rw [hd] at hp; cases hp
  | some d =>
    rw [hd] at hp
    exact specT_ok SO S (tbl := ⟨funOf P pol, prim⟩) hd hpr hp (funOf_wf hd) (an := an) (fuel := fuel) (fun x => by rw [T.sure_sem (F x) (h1 x), h2])

end Go.Dv
/- The engine, second storey: functions that get boxes and whole blocks. -/
set_option linter.unusedVariables false
set_option linter.unusedSimpArgs false
namespace Go.Dv

def kdAll : List G → Bool
  | [] => true
  | .kd _ :: gs => kdAll gs
  | .fix _ :: _ => false
def noFn : G → Bool
  | .fix (.fn _ _) => false
  | _ => true
def numK : Nat → List (Nat × SG) → Bool
  | _, [] => true
  | i, (n, .one g) :: r => n == i && noFn g && numK (i + 1) r
  | i, (n, .agg g) :: r => n == i && kdAll g && numK (i + 1) r
def ptrsK : List (Nat × SG) → List Nat
  | (_, .one (.fix (.ptr b 0))) :: r => b :: ptrsK r
  | _ :: r => ptrsK r
  | [] => []
structure KIn (ti : Tm) : Prop where
  n : numK 0 ti.slots = true
  b : ti.boxes.all kdAll = true
  d : distinct (ptrsK ti.slots) = true
  l : (ptrsK ti.slots).all (fun b => decide (b < ti.boxes.length)) = true
end Go.Dv
/- The engine, second storey: the way back of a call that got boxes and whole blocks. -/
set_option linter.unusedVariables false
set_option linter.unusedSimpArgs false
namespace Go.Dv

def SV.own1 : SV → Bool
  | .tt | .ff | .bool _ | .int _ _ | .str _ | .nilp | .nil | .lst _ _ => true
  | _ => false
def noView : List G → Bool
  | [] => true
  | .kd (.val _) :: gs => noView gs
  | .kd (.own false _ _) :: gs => noView gs
  | .fix v :: gs => v.own1 && noView gs
  | _ => false

end Go.Dv
/- The engine, second storey: the way back of a call, joined. -/
set_option linter.unusedVariables false
set_option linter.unusedSimpArgs false
namespace Go.Dv

structure KOut (ti to : Tm) : Prop where
  n : numK 0 to.slots = true
  b : to.boxes.all kdAll = true
  l : to.boxes.length = ti.boxes.length
  v : noView to.gs = true

def backX (X X' : RX) (js : List (Option Nat)) : RX where
  z := X.z
  c := X.c + js.length
  R q := if q < X.c then X.R q else match js[q - X.c]? with
    | some (some j) => X'.R j
    | _ => (none, 0)
  nb := X.nb
  bi := X.bi
  bm := X.bm
end Go.Dv
/- The engine, second storey: functions with boxes and whole blocks, by their contracts. -/
set_option linter.unusedVariables false
set_option linter.unusedSimpArgs false
namespace Go.Dv

def annsN (n0 : Nat) (l : List (Nat × Ann)) : Bool := l.all fun p => p.2.holds n0
end Go.Dv
