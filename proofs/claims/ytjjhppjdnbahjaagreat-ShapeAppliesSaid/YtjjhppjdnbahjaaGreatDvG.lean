/- The engine, second storey: append; an operation, all told. -/
import Derived.Test.YtjjhppjdnbahjaaGreatDvF
set_option linter.unusedVariables false
set_option linter.unusedSimpArgs false
namespace Go.Dv

theorem u6a {α : Type} {l : List α} {i : Nat} {b : α} (h : l[i]? = some b) : l.set i b = l := by
  apply List.ext_getElem?
  intro j
  rw [List.getElem?_set]
  by_cases hij : i = j
  · subst hij; rw [if_pos rfl, if_pos (u02 h), h]
  · rw [if_neg hij]
theorem set_dead {R : List RB} {j j' : Nat} {x b : RB} (hj : j < R.length) (e : (R.set j x)[j']? = some b) : (j' = j ∧ b = x) ∨ (j' ≠ j ∧ R[j']? = some b) := by
  rw [List.getElem?_set] at e
  by_cases hjj : j = j'
  · subst hjj
    rw [if_pos rfl, if_pos hj] at e
    cases e; exact .inl ⟨rfl, rfl⟩
  · rw [if_neg hjj] at e; exact .inr ⟨fun h => hjj h.symm, e⟩
theorem app_one {α : Type} {l : List α} {j : Nat} {x b : α} (e : (l ++ [x])[j]? = some b) : (j < l.length ∧ l[j]? = some b) ∨ (j = l.length ∧ b = x) := by
  rw [List.getElem?_append] at e
  split at e
  · rename_i h; exact .inl ⟨h, e⟩
  · rename_i h
    rw [List.getElem?_singleton] at e
    split at e
    · cases e; exact .inr ⟨by omega, rfl⟩
    · cases e

theorem killRow {X : RX} {h : SH} {dh : Hp} (I : Inv X h dh) {j : Nat} (hj : j < h.R.length) :
    Inv X { h with R := h.R.set j .dead } dh ∧ Step X h dh X { h with R := h.R.set j .dead } dh := by
  have pull : ∀ {j' : Nat} {fz : Bool} {z : Nat} {c : RC}, (h.R.set j .dead)[j']? = some (.live fz z c) → h.R[j']? = some (.live fz z c) := by
    intro j' fz z c e
    rcases set_dead hj e with ⟨_, e⟩ | ⟨_, e⟩
    · cases e
    · exact e
  refine ⟨⟨by simp [I.c], I.nb, I.box, I.bdist, I.z, fun j' fz z c e => I.row j' fz z c (pull e), fun j1 j2 z1 c1 z2 c2 i m m' h1 h2 => I.dist _ _ _ _ _ _ _ _ _ (pull h1) (pull h2)⟩,
    ⟨fun _ _ _ => rfl, Nat.le_refl _, fun _ _ _ => rfl, Nat.le_refl _, fun i w => ?_, fun i hi => .inl ⟨i, hi, rfl⟩, fun _ _ e => .inl e⟩⟩
  obtain ⟨j', z, c, m, h1, h2⟩ := w
  exact .inl ⟨j', z, c, m, pull h1, h2⟩

theorem newNil {X : RX} {h : SH} {dh : Hp} (I : Inv X h dh) {z : Nat} {c : RC} (k : RCon X z c []) :
    ∃ X', X.le X' ∧ Inv X' { h with R := h.R ++ [.live false z c] } dh ∧ RV X' (.own h.R.length) .nils ∧ Step X h dh X' { h with R := h.R ++ [.live false z c] } dh := by
  have hl : c.len = 0 := k.len
  let X' : RX := { X with c := X.c + 1, R := fun j => if j = X.c then (none, 0) else X.R j }
  have le : X.le X' := ⟨fun _ _ e => e, Nat.le_succ _, fun j hj => by simp [X', Nat.ne_of_lt hj], Nat.le_refl _, fun _ _ => ⟨rfl, rfl⟩⟩
  refine ⟨X', le, ⟨by simp [X', I.c], I.nb, fun i cs hi => let ⟨z, ds, e1, e2⟩ := I.box i cs hi; ⟨z, ds, e1, e2.mono le⟩, I.bdist, I.z, fun j fz z' c' hj => ?_, fun j1 j2 z1 c1 z2 c2 i m m' h1 h2 e1 e2 => ?_⟩, ?_, ⟨fun _ _ _ => rfl, Nat.le_refl _, fun _ _ _ => rfl, Nat.le_refl _, fun i w => ?_, fun i hi => .inl ⟨i, hi, rfl⟩, fun _ _ e => .inl e⟩⟩
  · rcases app_one hj with ⟨h1, hj⟩ | ⟨h1, hj⟩
    · exact (I.row j fz z' c' hj).mono le (by rw [← I.c]; exact h1) (fun _ _ _ => rfl) (fun _ _ _ _ e => e)
    · cases hj
      rw [I.c] at h1
      subst h1
      unfold RowOk
      simp only [X', if_true]
      exact ⟨hl, k.mono le⟩
  · simp only [X'] at e1 e2
    rcases app_one h1 with ⟨g1, h1⟩ | ⟨g1, h1⟩ <;> rcases app_one h2 with ⟨g2, h2⟩ | ⟨g2, h2⟩ <;> rw [I.c] at g1 g2
    · rw [if_neg (Nat.ne_of_lt g1)] at e1
      rw [if_neg (Nat.ne_of_lt g2)] at e2
      exact I.dist _ _ _ _ _ _ _ _ _ h1 h2 e1 e2
    · rw [if_pos g2] at e2; cases e2
    · rw [if_pos g1] at e1; cases e1
    · rw [g1, g2]
  · simp only [RV]
    refine ⟨by rw [I.c]; exact Nat.lt_succ_self _, ?_⟩
    simp [X', I.c]
  · obtain ⟨j, z', c', m, h1, h2⟩ := w
    simp only [X'] at h2
    rcases app_one h1 with ⟨g1, h1⟩ | ⟨g1, h1⟩ <;> rw [I.c] at g1
    · rw [if_neg (Nat.ne_of_lt g1)] at h2
      exact .inl ⟨j, z', c', m, h1, h2⟩
    · rw [if_pos g1] at h2; cases h2

theorem u6M {X : RX} {h : SH} {dh : Hp} (I : Inv X h dh) {j i m mk cc z : Nat} {c c' : RC} {b : Blk} {xs' : List (List DV)} (hj : h.R[j]? = some (.live false z c)) (e : (X.R j).1 = some (i, m)) (hb : dh.R[i]? = some b) (k : RCon X z c' xs') :
    ∃ X', X.le X' ∧ Inv X' { h with R := h.R.set j .dead ++ [.live false z c'] } { dh with R := dh.R.set i ⟨mk, z, xs'⟩, c := cc } ∧ RV X' (.own h.R.length) (.sl i mk 0 c'.len) ∧
      Step X h dh X' { h with R := h.R.set j .dead ++ [.live false z c'] } { dh with R := dh.R.set i ⟨mk, z, xs'⟩, c := cc } := by
  have R := I.row _ _ _ _ hj
  unfold RowOk at R
  rw [e] at R
  obtain ⟨R1, k0, k1, k2, k3, k4, k5, k6⟩ := R
  rw [hb] at k1; cases k1
  simp only [FzOk] at k6
  have hi := u02 hb
  have hjl := u02 hj
  let X' : RX := { X with c := X.c + 1, R := fun q => if q = X.c then (some (i, mk), c'.len) else X.R q }
  have le : X.le X' := ⟨fun _ _ e => e, Nat.le_succ _, fun q hq => by simp [X', Nat.ne_of_lt hq], Nat.le_refl _, fun _ _ => ⟨rfl, rfl⟩⟩
  have ne : ∀ j' fz z' c2 i' m', h.R[j']? = some (.live fz z' c2) → j' ≠ j → (X.R j').1 = some (i', m') → i ≠ i' := by
    intro j' fz z' c2 i' m' h1 hne e1 hii
    subst hii
    cases fz with
    | false => exact hne (I.dist _ _ _ _ _ _ _ _ _ h1 hj e1 e)
    | true =>
      have R := I.row _ _ _ _ h1
      unfold RowOk at R
      rw [e1] at R
      obtain ⟨_, q, _, _, _, _, _, q6⟩ := R
      simp only [FzOk] at q6
      rw [k6.1] at q6; cases q6
  have pull : ∀ {j' : Nat} {fz : Bool} {z' : Nat} {c2 : RC}, (h.R.set j .dead ++ [.live false z c'])[j']? = some (.live fz z' c2) → (j' < X.c ∧ j' ≠ j ∧ h.R[j']? = some (.live fz z' c2)) ∨ (j' = X.c ∧ fz = false ∧ z' = z ∧ c2 = c') := by
    intro j' fz z' c2 e
    rcases app_one e with ⟨h1, h2⟩ | ⟨h1, h2⟩
    · rcases set_dead hjl h2 with ⟨_, h2⟩ | ⟨h3, h2⟩
      · cases h2
      · exact .inl ⟨by rw [← I.c]; simpa using h1, h3, h2⟩
    · cases h2
      exact .inr ⟨by rw [← I.c]; simpa using h1, rfl, rfl, rfl⟩
  refine ⟨X', le, ⟨by simp [X', I.c], I.nb, fun q cs hq => let ⟨z, ds, e1, e2⟩ := I.box q cs hq; ⟨z, ds, e1, e2.mono le⟩, I.bdist, fun q k e' => ?_, fun j' fz z' c2 hj' => ?_, fun j1 j2 z1 c1 z2 c2 q m1 m2 h1 h2 e1 e2 => ?_⟩, ?_, ⟨fun q hq hw => ?_, by simp, fun _ _ _ => rfl, Nat.le_refl _, fun q w => ?_, fun q hq => .inl ⟨q, hq, rfl⟩, fun _ _ e => .inl e⟩⟩
  · simp only
    rw [List.getElem?_set, if_neg]
    · exact I.z q k e'
    · rintro rfl; rw [k6.1] at e'; cases e'
  · rcases pull hj' with ⟨g1, g2, g3⟩ | ⟨g1, rfl, rfl, rfl⟩
    · exact (I.row j' fz z' c2 g3).mono le g1 (fun i' m' e1 => by simp only; rw [List.getElem?_set, if_neg (ne _ _ _ _ _ _ g3 g2 e1)]) (fun _ _ _ _ e => e)
    · subst g1
      unfold RowOk
      simp only [X', if_true]
      refine ⟨trivial, ⟨mk, z', xs'⟩, by simp [hi], rfl, rfl, by rw [k.len]; exact Nat.le_refl _, ?_, k6.1, k.len⟩
      have : xs'.take c2.len = xs' := by rw [k.len, List.take_length]
      simp only [this]
      exact k.mono le
  · simp only [X'] at e1 e2
    rcases pull h1 with ⟨g1, g2, g3⟩ | ⟨g1, _⟩ <;> rcases pull h2 with ⟨q1, q2, q3⟩ | ⟨q1, _⟩
    · rw [if_neg (Nat.ne_of_lt g1)] at e1
      rw [if_neg (Nat.ne_of_lt q1)] at e2
      exact I.dist _ _ _ _ _ _ _ _ _ g3 q3 e1 e2
    · rw [if_neg (Nat.ne_of_lt g1)] at e1
      rw [if_pos q1] at e2
      simp only [Option.some.injEq, Prod.mk.injEq] at e2
      exact absurd e2.1 (ne _ _ _ _ _ _ g3 g2 e1)
    · rw [if_pos g1] at e1
      rw [if_neg (Nat.ne_of_lt q1)] at e2
      simp only [Option.some.injEq, Prod.mk.injEq] at e1
      exact absurd e1.1 (ne _ _ _ _ _ _ q3 q2 e2)
    · rw [g1, q1]
  · simp only [RV]
    refine ⟨by rw [I.c]; exact Nat.lt_succ_self _, ?_⟩
    simp [X', I.c]
  · simp only
    rw [List.getElem?_set, if_neg]
    rintro rfl
    exact hw ⟨j, z, c, m, hj, e⟩
  · obtain ⟨j', z', c2, m', h1, h2⟩ := w
    simp only [X'] at h2
    rcases pull h1 with ⟨g1, g2, g3⟩ | ⟨g1, _⟩
    · rw [if_neg (Nat.ne_of_lt g1)] at h2
      exact .inl ⟨j', z', c2, m', g3, h2⟩
    · rw [if_pos g1] at h2
      simp only [Option.some.injEq, Prod.mk.injEq] at h2
      obtain ⟨rfl, _⟩ := h2
      exact .inl ⟨j, z, c, m, hj, e⟩

theorem append_ok' {K : Oracle} {sp : Specs} {X : RX} {h h' : SH} {dh : Hp} {l : List SV} {dl : List DV} (I : Inv X h dh) (L : RVs X l dl) {ap : List (Nat × SV)} {z bytes : Nat} {st : Bool} {x y : Opd} {v : SV} (hs : (stepS sp l h ap (.append z bytes st x y)).sem = some (v, h')) :
    Sim2 K X h dh dl (.append z bytes st x y) v h' := by
  simp only [stepS] at hs
  split at hs
  case isTrue => exact (T.sem_fail hs).elim
  rename_i hz9
  split at hs
  case h_2 => exact (T.sem_fail hs).elim
  rename_i n ys he
  have qx := sv_ok L x
  obtain ⟨rows, r1, r2, r3⟩ := sElems_ok I he (sv_ok L y)
  have stp : ∀ {r : DV × Hp}, u1j dh z (x.ev dl) rows = some r → (∀ i m o n, r.1 = .sl i m o n → room n bytes = true) → step K dl dh (.append z bytes st x y) = some r := by
    intro r h1 h2
    simp only [step, if_neg hz9, r1, h1]
    split
    · rename_i i m o n e
      rw [if_pos (h2 _ _ _ _ e)]
    · rfl
  cases e : x.sv l <;> rw [e] at hs qx <;> simp only at hs <;> first
    | exact (T.sem_fail hs).elim
    | skip
  · simp only [RV] at qx
    have fin : (T.br (room n bytes) (T.ret (SV.own h.R.length, ({ h with R := h.R ++ [.live false z ys] } : SH))) T.fail).sem = some (v, h') → Sim2 K X h dh dl (.append z bytes st x y) v h' := by
      intro hs
      rcases T.sem_br hs with ⟨hr, hs⟩ | ⟨_, hs⟩
      case inr => exact (T.sem_fail hs).elim
      cases T.sem_ret hs
      cases hrows : rows with
      | nil =>
        subst hrows
        obtain ⟨X', g1, g2, g3, g4⟩ := newNil I r2
        exact ⟨.nils, dh, X', stp (by rw [qx]; rfl) (fun _ _ _ _ e => by cases e), g1, g2, g3, g4⟩
      | cons r0 rs =>
        rw [hrows] at r2 r3
        obtain ⟨X', g1, g2, g3, g4, g5⟩ := newRow I r2
        refine ⟨.sl (dh.new true z (r0 :: rs)).1 dh.c 0 (r0 :: rs).length, _, X', stp (by rw [qx, hrows]; rfl) (fun i m o n' e => by cases e; rw [← r3]; exact hr), g1, g2, ?_, g5⟩
        have := u5B (h := h) g3 g4
        rwa [r2.len] at this
    split at hs
    · cases T.sem_ret hs
      cases rows with
      | cons _ _ => exact r2.elim
      | nil => exact ⟨.nils, dh, X, stp (by rw [qx]; rfl) (fun _ _ _ _ e => by cases e), RX.le.refl X, I, by simp [RV], Step.refl X h dh⟩
    · exact fin hs
  · rename_i j
    split at hs
    case h_2 => exact (T.sem_fail hs).elim
    rename_i z' c hR
    split at hs
    case isFalse => exact (T.sem_fail hs).elim
    rename_i hz
    subst hz
    split at hs
    case h_2 => exact (T.sem_fail hs).elim
    rename_i c' js hj
    split at hs
    case isFalse => exact (T.sem_fail hs).elim
    rename_i hjs
    rcases T.sem_br hs with ⟨hr, hs⟩ | ⟨_, hs⟩
    case inr => exact (T.sem_fail hs).elim
    cases T.sem_ret hs
    have hjn : j ∉ js := by
      intro hm
      rw [List.all_eq_true] at hjs
      have := hjs j hm
      simp at this
    obtain ⟨X1, le1, rr1, cc1, I1, O1, S1, N1⟩ := u42 js I
    have hR1 : (freeze js h.R)[j]? = some (.live false z c) := by rw [u43 js _ _ hjn]; exact hR
    have hlen1 : (freeze js h.R).length = h.R.length := u4k js h.R
    rcases u53 I qx hR with ⟨q1, q2, q3⟩ | ⟨i, m, b, q1, q2, q3, q4, q5, q6, q7⟩
    · -- nothing so far
      obtain ⟨j1, j2⟩ := sJoin_ok le1 I hj O1 q3 r2
      rw [List.nil_append] at j1
      obtain ⟨I2, S2⟩ := killRow I1 (j := j) (u02 hR1)
      cases hrows : rows with
      | nil =>
        rw [hrows] at j1
        obtain ⟨X', g1, g2, g3, g4⟩ := newNil I2 j1
        refine ⟨.nils, dh, X', stp (by rw [q1, hrows]; rfl) (fun _ _ _ _ e => by cases e), le1.trans g1, g2, ?_, (S1.trans S2).trans g4⟩
        simpa [hlen1] using g3
      | cons r0 rs =>
        rw [hrows] at j1
        obtain ⟨X', g1, g2, g3, g4, g5⟩ := newRow I2 j1
        have hl : c'.len = (r0 :: rs).length := j1.len
        refine ⟨.sl (dh.new true z (r0 :: rs)).1 dh.c 0 (r0 :: rs).length, _, X', stp (by rw [q1, hrows]; rfl) (fun i m o n' e => by cases e; rw [← hl]; exact hr), le1.trans g1, g2, ?_, (S1.trans S2).trans g5⟩
        have := u5B (h := { h with R := (freeze js h.R).set j .dead }) g3 g4
        simp only [List.length_set, hlen1] at this
        rwa [hl] at this
    · obtain ⟨j1, j2⟩ := sJoin_ok le1 I hj O1 q7 r2
      have R := I.row _ _ _ _ hR
      unfold RowOk at R
      rw [q2] at R
      obtain ⟨_, b', w1, w2, w3, w4, w5, w6⟩ := R
      rw [q3] at w1; cases w1
      simp only [FzOk] at w6
      have htake : b.xs.take c.len = b.xs := by rw [w6.2, List.take_length]
      rw [htake] at j1
      by_cases hrows : rows = []
      · subst hrows
        rw [List.append_nil] at j1
        obtain ⟨X', g1, g2, g3, g4⟩ := u6M (mk := m) (cc := dh.c) I1 hR1 (by rw [rr1]; exact q2) q3 j1
        have hset : ({ dh with R := dh.R.set i ⟨m, z, b.xs⟩, c := dh.c } : Hp) = dh := by
          have : (⟨m, z, b.xs⟩ : Blk) = b := by cases b; simp at q4 q5 ⊢; exact ⟨q4.symm, q5.symm⟩
          rw [this, u6a q3]
        rw [hset] at g2 g4
        have hcl : c'.len = c.len := by rw [j2, r2.len]; rfl
        refine ⟨.sl i m 0 c.len, dh, X', stp (by
          rw [q1]
          simp only [u1j, u0x q3 q4, q5, ne_eq, not_true_eq_false, if_false, List.length_nil, if_true]) (fun i' m' o n' e => by cases e; rw [← hcl]; exact hr), le1.trans g1, g2, ?_, S1.trans g4⟩
        rw [← hcl]
        simpa [hlen1] using g3
      · have hn0 : rows.length ≠ 0 := fun e => hrows (List.eq_nil_of_length_eq_zero e)
        obtain ⟨X', g1, g2, g3, g4⟩ := u6M (mk := dh.c) (cc := dh.c + 1) I1 hR1 (by rw [rr1]; exact q2) q3 j1
        have hcl : c'.len = c.len + rows.length := by rw [j2, r2.len]
        refine ⟨.sl i dh.c 0 (c.len + rows.length), _, X', stp (by
          rw [q1]
          simp only [u1j, u0x q3 q4, q5, ne_eq, not_true_eq_false, if_false, hn0]
          rw [if_pos (by rw [Nat.zero_add]; exact w6.2), List.drop_zero]) (fun i' m' o n' e => by cases e; rw [← hcl]; exact hr), le1.trans g1, ?_, ?_, S1.trans ?_⟩
        · simpa [Hp.put] using g2
        · rw [← hcl]
          simpa [hlen1] using g3
        · simpa [Hp.put] using g4

theorem callS_ok {K : Oracle} {sp : Specs} (SO : u0F K sp) {X : RX} {h h' : SH} {dh : Hp} {l : List SV} {dl : List DV} (I : Inv X h dh) (L : RVs X l dl) {ap : List (Nat × SV)} {dap ap0 : List (Nat × Opd)} (A : ApOk X dl ap dap) {f : Opd} {args : List Opd} {v : SV}
    (hs : (stepS sp l h ap (.call f args ap0)).sem = some (v, h')) : Sim2 K X h dh dl (.call f args dap) v h' := by
  simp only [stepS] at hs
  have q := sv_ok L f
  split at hs
  case h_2 => exact (T.sem_fail hs).elim
  rename_i g cap e
  rw [e] at q
  simp only [RV] at q
  obtain ⟨dcap, e1, e2⟩ := q
  have hargs := (svs_ok L args).append e2
  split at hs
  · rename_i fl run hg
    split at hs
    case isFalse => exact (T.sem_fail hs).elim
    rename_i hl
    obtain ⟨hcap, hl⟩ := hl
    obtain ⟨v', h1, h2⟩ := T.sem_bind hs
    cases T.sem_ret h2
    obtain ⟨d, k1, k2, _⟩ := SO g _ hg X h dh _ (args.map fun x => Opd.ev dl x) dcap v (cap_ok hcap e2) I hargs h1
    refine ⟨d, dh, X, ?_, RX.le.refl X, I, k1, Step.refl X h dh⟩
    simp only [step, e1, k2]
    rw [if_pos]
    refine A.all (fun n p q hp hq => ?_) hl
    obtain ⟨cs, hc⟩ := look_ok I hp hq
    simp only [keeps, hc]
    exact DV.beqL_refl cs
  · rename_i run hg
    split at hs
    case isFalse => exact (T.sem_fail hs).elim
    rename_i hl
    obtain ⟨hcap, hl⟩ := hl
    have hcap0 : dcap = [] := (cap_ok (fl := false) (by simpa using hcap) e2).resolve_left (by simp)
    obtain ⟨d, dh', X', k1, k2, k3, k4, k5, k6⟩ := SO g _ hg X h dh _ (args.map fun x => Opd.ev dl x) dcap v h' hcap0 I hargs hs
    refine ⟨d, dh', X', ?_, k2, k3, k4, k5⟩
    simp only [step, e1, k1]
    rw [if_pos]
    refine A.all (fun n p q hp hq => ?_) hl
    simp only [Bool.and_eq_true] at hp
    obtain ⟨hp1, hp2⟩ := hp
    obtain ⟨cs, hc⟩ := look_ok I hp1 hq
    have same : look dh' n (q.ev dl) = look dh n (q.ev dl) := by
      unfold offArgs at hp2
      split at hp2
      · simp only [RV] at hq
        rcases hq with ⟨ds, hq, _⟩ | ⟨i, m, e', o, b, r, hq, z1, z2, z3, z4⟩
        · rw [hq]; rfl
        · rw [hq]
          have hb := I.z _ _ z1
          have hb' : dh'.R[i]? = some b := by
            rw [k5.rows i (u02 hb) ?_]
            · exact hb
            · rintro ⟨j, zz, c, m', w1, w2⟩
              have R := I.row _ _ _ _ w1
              unfold RowOk at R
              rw [w2] at R
              obtain ⟨_, _, _, _, _, _, _, w6⟩ := R
              simp only [FzOk] at w6
              rw [w6.1] at z1; cases z1
          simp only [look, u0x hb z2, u0x hb' z2]
      · rename_i i o
        simp only [RV] at hq
        obtain ⟨hi, hq⟩ := hq
        rw [hq]
        have := k6 i hi (fun o' hm => by
          rw [List.all_eq_true] at hp2
          have := hp2 _ hm
          simp at this)
        simp only [look, Hp.blk, Hp.heap, Bool.false_eq_true, if_false, this]
      · cases hp2
    simp only [keeps, same, hc]
    exact DV.beqL_refl cs
  · exact (T.sem_fail hs).elim

theorem stepS_ok {K : Oracle} {sp : Specs} (SO : u0F K sp) {X : RX} {h h' : SH} {dh : Hp} {l : List SV} {dl : List DV} (I : Inv X h dh) (L : RVs X l dl) {ap : List (Nat × SV)} {dap : List (Nat × Opd)} (A : ApOk X dl ap dap) {o : DOp} {v : SV}
    (hs : (stepS sp l h ap o).sem = some (v, h')) : Sim2 K X h dh dl (o.withAp dap) v h' := by
  cases o with
  | alloc esc z cs => exact allocS_ok I L hs
  | box esc z x => exact boxS_ok I L hs
  | buildSlice z len zero ps => exact buildSliceS_ok I L hs
  | store z x y ap0 => exact storeS_ok I L A hs
  | toBytes x => exact toBytesS_ok I L hs
  | makeSlice z bytes zero a c => exact makeSliceS_ok I L hs
  | slice zz x lo hi => exact sliceS_ok SO I L hs
  | append z bytes st x y => exact append_ok' I L hs
  | call f args ap0 => exact callS_ok SO I L A hs
  | _ => exact Sim2.quiet SO I L hs

end Go.Dv
/- The engine, second storey: regions. -/
set_option linter.unusedVariables false
set_option linter.unusedSimpArgs false
namespace Go.Dv

theorem RVs.retell {X : RX} {l : List SV} {dl : List DV} {t : Nat} {v : SV} (L : RVs X l dl) (h : RV X v (gt dl t)) : RVs X (l.set t v) dl := by
  by_cases ht : t < dl.length
  · have e : dl.set t (gt dl t) = dl := u6a (by
      unfold gt
      rw [List.getD_eq_getElem?_getD, List.getElem?_eq_getElem ht]; rfl)
    have := RVs.set h t L
    rwa [e] at this
  · have : l.set t v = l := List.set_eq_of_length_le (by rw [L.length]; omega)
    rw [this]; exact L
theorem u4i {α : Type} {X : RX} {l : List SV} {dl : List DV} (L : RVs X l dl) {g : Option (Nat × Bool)} {on off : List SV → T α} {r : α} (h : (guarded l g on off).sem = some r) :
    (wants dl g = some true ∧ ∃ l1, RVs X l1 dl ∧ (on l1).sem = some r) ∨ (wants dl g = some false ∧ ∃ l1, RVs X l1 dl ∧ (off l1).sem = some r) := by
  unfold guarded at h
  split at h
  · exact .inl ⟨rfl, l, L, h⟩
  · rename_i t b
    have q := L.gs t
    split at h
    · rename_i e
      rw [e] at q
      simp only [RV] at q
      split at h
      · exact .inl ⟨by simp [wants, q], l, L, h⟩
      · exact .inr ⟨by simp [wants, q], l, L, h⟩
    · rename_i e
      rw [e] at q
      simp only [RV] at q
      split at h
      · exact .inr ⟨by simp [wants, q], l, L, h⟩
      · exact .inl ⟨by simp [wants, q], l, L, h⟩
    · rename_i x e
      rw [e] at q
      simp only [RV] at q
      split at h
      · rcases T.sem_br h with ⟨rfl, h⟩ | ⟨rfl, h⟩
        · exact .inl ⟨by simp [wants, q], _, L.retell (v := .tt) (by simp [RV, q]), h⟩
        · exact .inr ⟨by simp [wants, q], _, L.retell (v := .ff) (by simp [RV, q]), h⟩
      · rcases T.sem_br h with ⟨rfl, h⟩ | ⟨rfl, h⟩
        · exact .inr ⟨by simp [wants, q], _, L.retell (v := .tt) (by simp [RV, q]), h⟩
        · exact .inl ⟨by simp [wants, q], _, L.retell (v := .ff) (by simp [RV, q]), h⟩
    · rename_i vs e
      rw [e] at q
      simp only [RV] at q
      obtain ⟨ds, q, _⟩ := q
      exact .inr ⟨by simp [wants, q], l, L, h⟩
    · exact (T.sem_fail h).elim

theorem u38 {X : RX} {l : List SV} {dl : List DV} (L : RVs X l dl) {v : SV} {d : DV} (k : RV X v d) (dst : Option Nat) : RVs X (putS l dst v) (putT dl dst d) := by
  cases dst with
  | none => exact L
  | some t => exact RVs.set k t L
theorem tup_ok {X : RX} : RV X (.tup []) (.tup []) := ⟨[], rfl, by simp [RVs]⟩
theorem bare_ok {o : DOp} (h : o.bare = true) : o.withAp [] = o := by
  cases o <;> first
    | rfl
    | (simp only [DOp.bare, List.isEmpty_iff] at h; subst h; rfl)

theorem opsS_ok {K : Oracle} {sp : Specs} (SO : u0F K sp) : ∀ (os : List DOper) {X : RX} {h h' : SH} {dh : Hp} {l l' : List SV} {dl : List DV}, Inv X h dh → RVs X l dl → (opsS sp os l h).sem = some (l', h') →
    ∃ dl' dh' X', ops K os dl dh = some (dl', dh') ∧ X.le X' ∧ Inv X' h' dh' ∧ RVs X' l' dl' ∧ Step X h dh X' h' dh'
  | [], X, h, h', dh, l, l', dl, I, L, hs => by
    simp only [opsS] at hs
    cases T.sem_ret hs
    exact ⟨dl, dh, X, rfl, RX.le.refl X, I, L, Step.refl X h dh⟩
  | o :: r, X, h, h', dh, l, l', dl, I, L, hs => by
    simp only [opsS] at hs
    rcases u4i L hs with ⟨hw, l1, L1, hs⟩ | ⟨hw, l1, L1, hs⟩
    · split at hs
      case h_2 => exact (T.sem_fail hs).elim
      rename_i hb
      obtain ⟨p, h1, h2⟩ := T.sem_bind hs
      obtain ⟨d, dh1, X1, k1, k2, k3, k4, k5⟩ := stepS_ok SO I L1 (ap := []) (dap := []) trivial h1
      rw [bare_ok hb] at k1
      obtain ⟨dl', dh', X', g1, g2, g3, g4, g5⟩ := opsS_ok SO r k3 (u38 (L1.mono k2) k4 o.dst) h2
      exact ⟨dl', dh', X', by simp only [ops, hw, k1, g1], k2.trans g2, g3, g4, k5.trans g5⟩
    · obtain ⟨dl', dh', X', g1, g2, g3, g4, g5⟩ := opsS_ok SO r I (u38 L1 tup_ok o.dst) hs
      exact ⟨dl', dh', X', by simp only [ops, hw, g1], g2, g3, g4, g5⟩

def LogR (X : RX) : SLog → Log → Prop
  | [], [] => True
  | a :: g, b :: g' => a.1 = b.1 ∧ a.2.1 = b.2.1 ∧ RV X a.2.2 b.2.2 ∧ LogR X g g'
  | _, _ => False
theorem LogR.mono {X Y : RX} (le : X.le Y) : ∀ {g : SLog} {g' : Log}, LogR X g g' → LogR Y g g'
  | [], [], _ => trivial
  | _ :: _, _ :: _, h => ⟨h.1, h.2.1, h.2.2.1.mono le, LogR.mono le h.2.2.2⟩
  | [], _ :: _, h => h.elim
  | _ :: _, [], h => h.elim
theorem LogR.pick {X : RX} {dl : List DV} (ck : List Nat) : ∀ {g : SLog} {g' : Log}, LogR X g g' → ApOk X dl (spick g ck) (pick g' ck)
  | [], [], _ => trivial
  | a :: g, b :: g', h => by
    obtain ⟨h1, h2, h3, h4⟩ := h
    have ih := LogR.pick (dl := dl) ck h4
    unfold spick Go.Dv.pick at ih ⊢
    rw [List.filterMap_cons, List.filterMap_cons, h1]
    cases ck.contains b.1 with
    | true => exact ⟨h2, h3, ih⟩
    | false => exact ih
  | [], _ :: _, h => h.elim
  | _ :: _, [], h => h.elim
theorem LogR.log {X : RX} {l : List SV} {dl : List DV} (L : RVs X l dl) (i : Nat) (op : DOp) {g : SLog} {g' : Log} (h : LogR X g g') : LogR X (slogOf i op l g) (logOf i op dl g') := by
  unfold slogOf logOf
  cases u3t op with
  | none => exact h
  | some q => exact ⟨rfl, rfl, sv_ok L _, h⟩

theorem drawsS_ok {K : Oracle} {sp : Specs} (SO : u0F K sp) : ∀ (os : List DRow) {X : RX} {h h' : SH} {dh : Hp} {l l' : List SV} {dl : List DV} {g : SLog} {g' : Log}, Inv X h dh → RVs X l dl → LogR X g g' → (drawsS sp os l h g).sem = some (l', h') →
    ∃ dl' dh' X', draws K os dl dh g' = some (dl', dh') ∧ X.le X' ∧ Inv X' h' dh' ∧ RVs X' l' dl' ∧ Step X h dh X' h' dh'
  | [], X, h, h', dh, l, l', dl, g, g', I, L, G, hs => by
    simp only [drawsS] at hs
    cases T.sem_ret hs
    exact ⟨dl, dh, X, rfl, RX.le.refl X, I, L, Step.refl X h dh⟩
  | o :: r, X, h, h', dh, l, l', dl, g, g', I, L, G, hs => by
    simp only [drawsS] at hs
    rcases u4i L hs with ⟨hw, l1, L1, hs⟩ | ⟨hw, l1, L1, hs⟩
    · obtain ⟨p, h1, h2⟩ := T.sem_bind hs
      obtain ⟨d, dh1, X1, k1, k2, k3, k4, k5⟩ := stepS_ok SO I L1 (G.pick o.ck) h1
      obtain ⟨dl', dh', X', g1, g2, g3, g4, g5⟩ := drawsS_ok SO r k3 (u38 (L1.mono k2) k4 o.o.dst) ((G.log L1 o.i o.o.op).mono k2) h2
      exact ⟨dl', dh', X', by simp only [draws, hw, k1, g1], k2.trans g2, g3, g4, k5.trans g5⟩
    · obtain ⟨dl', dh', X', g1, g2, g3, g4, g5⟩ := drawsS_ok SO r I (u38 L1 tup_ok o.o.dst) G hs
      exact ⟨dl', dh', X', by simp only [draws, hw, g1], g2, g3, g4, g5⟩

theorem opsQ_ok {K : Oracle} {sp : Specs} (SO : u0F K sp) {X : RX} {h : SH} {dh : Hp} (I : Inv X h dh) : ∀ (os : List DOper) {l l' : List SV} {dl : List DV}, RVs X l dl → (opsQ sp os l h).sem = some l' →
    ∃ dl', ops K os dl dh = some (dl', dh) ∧ RVs X l' dl'
  | [], l, l', dl, L, hs => by
    simp only [opsQ] at hs
    cases T.sem_ret hs
    exact ⟨dl, rfl, L⟩
  | o :: r, l, l', dl, L, hs => by
    simp only [opsQ] at hs
    rcases u4i L hs with ⟨hw, l1, L1, hs⟩ | ⟨hw, l1, L1, hs⟩
    · obtain ⟨p, h1, h2⟩ := T.sem_bind hs
      obtain ⟨d, k1, k2⟩ := stepQ_ok SO I L1 h1
      obtain ⟨dl', g1, g2⟩ := opsQ_ok SO I r (u38 L1 k2 o.dst) h2
      exact ⟨dl', by simp only [ops, hw, k1, g1], g2⟩
    · obtain ⟨dl', g1, g2⟩ := opsQ_ok SO I r (u38 L1 tup_ok o.dst) hs
      exact ⟨dl', by simp only [ops, hw, g1], g2⟩
theorem stepQ_ap {sp : Specs} {l : List SV} {h : SH} {o : DOp} {v : SV} (hs : (stepQ sp l h o).sem = some v) {ap : List (Nat × Opd)} (hc : ap = [] ∨ plainOp o = true) : (stepQ sp l h (o.withAp ap)).sem = some v := by
  cases o <;> first
    | exact hs
    | skip
  · rename_i f args ap0
    rcases hc with rfl | hc
    · cases ap0 with
      | nil => exact hs
      | cons a b =>
        simp only [stepQ] at hs
        split at hs
        · split at hs <;> exact (T.sem_fail hs).elim
        · exact (T.sem_fail hs).elim
    · simp [plainOp] at hc
theorem drawsQ_ok {K : Oracle} {sp : Specs} (SO : u0F K sp) {X : RX} {h : SH} {dh : Hp} (I : Inv X h dh) : ∀ (os : List DRow) {l l' : List SV} {dl : List DV} (g : Log), RVs X l dl → (drawsQ sp os l h).sem = some l' →
    ∃ dl', draws K os dl dh g = some (dl', dh) ∧ RVs X l' dl'
  | [], l, l', dl, g, L, hs => by
    simp only [drawsQ] at hs
    cases T.sem_ret hs
    exact ⟨dl, rfl, L⟩
  | o :: r, l, l', dl, g, L, hs => by
    simp only [drawsQ] at hs
    rcases u4i L hs with ⟨hw, l1, L1, hs⟩ | ⟨hw, l1, L1, hs⟩
    · split at hs
      case h_2 => exact (T.sem_fail hs).elim
      rename_i hc
      obtain ⟨p, h1, h2⟩ := T.sem_bind hs
      have hc' : pick g o.ck = [] ∨ plainOp o.o.op = true := by
        rw [Bool.or_eq_true] at hc
        rcases hc with hc | hc
        · left
          rw [List.isEmpty_iff] at hc
          rw [hc]
          simp [pick]
        · exact .inr hc
      obtain ⟨d, k1, k2⟩ := stepQ_ok SO I L1 (stepQ_ap h1 hc')
      obtain ⟨dl', g1, g2⟩ := drawsQ_ok SO I r (logOf o.i o.o.op dl g) (u38 L1 k2 o.o.dst) h2
      exact ⟨dl', by simp only [draws, hw, k1, g1], g2⟩
    · obtain ⟨dl', g1, g2⟩ := drawsQ_ok SO I r g (u38 L1 tup_ok o.o.dst) hs
      exact ⟨dl', by simp only [draws, hw, g1], g2⟩

theorem putT_at {l : List DV} {d : Option Nat} {v : DV} {n : Nat} (h : ∀ u, d = some u → u ≠ n) : (putT l d v)[n]? = l[n]? ∧ (putT l d v).length = l.length := by
  cases d with
  | none => exact ⟨rfl, rfl⟩
  | some u => exact ⟨by simp only [putT]; rw [List.getElem?_set, if_neg (h u rfl)], by simp [putT]⟩
theorem u6b {l : List DV} {d : Option Nat} {v : DV} : (putT l d v).length = l.length := by
  cases d <;> simp [putT]
theorem u55 {K : Oracle} : ∀ (os : List DOper) {l l' : List DV} {h h' : Hp}, ops K os l h = some (l', h') → l'.length = l.length ∧ ∀ n, n ∉ dsts os → l'[n]? = l[n]?
  | [], l, l', h, h', e => by simp only [ops, Option.some.injEq, Prod.mk.injEq] at e; rw [e.1]; exact ⟨rfl, fun _ _ => rfl⟩
  | o :: r, l, l', h, h', e => by
    have sub : ∀ n, n ∉ dsts (o :: r) → (∀ u, o.dst = some u → u ≠ n) ∧ n ∉ dsts r := by
      intro n hn
      simp only [dsts] at hn
      split at hn
      · rename_i d hd
        simp only [List.mem_cons, not_or] at hn
        exact ⟨fun u hu => (by rw [hd] at hu; cases hu; exact fun e => hn.1 e.symm), hn.2⟩
      · rename_i hd
        exact ⟨fun u hu => (by rw [hd] at hu; cases hu), hn⟩
    simp only [ops] at e
    split at e
    · split at e
      · obtain ⟨g1, g2⟩ := u55 r e
        exact ⟨g1.trans u6b, fun n hn => (g2 n (sub n hn).2).trans (putT_at (sub n hn).1).1⟩
      · cases e
    · obtain ⟨g1, g2⟩ := u55 r e
      exact ⟨g1.trans u6b, fun n hn => (g2 n (sub n hn).2).trans (putT_at (sub n hn).1).1⟩
    · cases e
theorem u4n {K : Oracle} : ∀ (os : List DRow) {l l' : List DV} {h h' : Hp} {g : Log}, draws K os l h g = some (l', h') → l'.length = l.length ∧ ∀ n, n ∉ ddsts os → l'[n]? = l[n]?
  | [], l, l', h, h', g, e => by simp only [draws, Option.some.injEq, Prod.mk.injEq] at e; rw [e.1]; exact ⟨rfl, fun _ _ => rfl⟩
  | o :: r, l, l', h, h', g, e => by
    have sub : ∀ n, n ∉ ddsts (o :: r) → (∀ u, o.o.dst = some u → u ≠ n) ∧ n ∉ ddsts r := by
      intro n hn
      simp only [ddsts] at hn
      split at hn
      · rename_i d hd
        simp only [List.mem_cons, not_or] at hn
        exact ⟨fun u hu => (by rw [hd] at hu; cases hu; exact fun e => hn.1 e.symm), hn.2⟩
      · rename_i hd
        exact ⟨fun u hu => (by rw [hd] at hu; cases hu), hn⟩
    simp only [draws] at e
    split at e
    · split at e
      · obtain ⟨g1, g2⟩ := u4n r e
        exact ⟨g1.trans u6b, fun n hn => (g2 n (sub n hn).2).trans (putT_at (sub n hn).1).1⟩
      · cases e
    · obtain ⟨g1, g2⟩ := u4n r e
      exact ⟨g1.trans u6b, fun n hn => (g2 n (sub n hn).2).trans (putT_at (sub n hn).1).1⟩
    · cases e

theorem RVs.mk {X : RX} : ∀ {l : List SV} {dl : List DV}, l.length = dl.length → (∀ (n : Nat) (v : SV) (d : DV), l[n]? = some v → dl[n]? = some d → RV X v d) → RVs X l dl
  | [], [], _, _ => by simp [RVs]
  | [], _ :: _, h, _ => by simp at h
  | _ :: _, [], h, _ => by simp at h
  | v :: l, d :: dl, h, k => by
    simp only [RVs]
    exact ⟨k 0 v d rfl rfl, RVs.mk (by simpa using h) fun n v' d' e1 e2 => k (n + 1) v' d' (by simpa using e1) (by simpa using e2)⟩
theorem wipe_at : ∀ (ds : List Nat) (l : List SV) (n : Nat) (v : SV), (wipe ds l)[n]? = some v → v = .undef ∨ (n ∉ ds ∧ l[n]? = some v)
  | [], l, n, v, h => .inr ⟨by simp, h⟩
  | d :: ds, l, n, v, h => by
    simp only [wipe] at h
    rcases wipe_at ds _ n v h with h | ⟨h1, h2⟩
    · exact .inl h
    · rw [List.getElem?_set] at h2
      by_cases hd : d = n
      · subst hd
        rw [if_pos rfl] at h2
        split at h2
        · cases h2; exact .inl rfl
        · cases h2
      · rw [if_neg hd] at h2
        exact .inr ⟨by simp only [List.mem_cons, not_or]; exact ⟨fun e => hd e.symm, h1⟩, h2⟩
theorem wipe_len : ∀ (ds : List Nat) (l : List SV), (wipe ds l).length = l.length
  | [], _ => rfl
  | d :: ds, l => by simp [wipe, wipe_len ds]
theorem wiped {X : RX} {l : List SV} {dl dl' : List DV} {ds : List Nat} (L : RVs X l dl) (h1 : dl'.length = dl.length) (h2 : ∀ n, n ∉ ds → dl'[n]? = dl[n]?) : RVs X (wipe ds l) dl' := by
  refine RVs.mk (by rw [wipe_len, L.length, h1]) fun n v d e1 e2 => ?_
  rcases wipe_at ds l n v e1 with rfl | ⟨g1, g2⟩
  · simp [RV]
  · rw [h2 n g1] at e2
    obtain ⟨d', k1, k2⟩ := L.get g2
    rw [e2] at k1; cases k1; exact k2

theorem u2x {X : RX} {v : SV} {d : DV} (hu : v ≠ .undef) (h : RV X v d) : (∃ cs, v = .agg cs ∧ ∃ ds, d = .agg ds) ∨ (v.isAgg = false ∧ d.cells = [d]) := by
  cases v with
  | undef => exact absurd rfl hu
  | agg cs => simp only [RV] at h; obtain ⟨ds, rfl, _⟩ := h; exact .inl ⟨cs, rfl, ds, rfl⟩
  | tup vs => simp only [RV] at h; obtain ⟨ds, rfl, _⟩ := h; exact .inr ⟨rfl, rfl⟩
  | _ =>
    have hc := h.isCell rfl
    refine .inr ⟨rfl, ?_⟩
    cases d <;> first
      | rfl
      | (simp [DV.isCell] at hc)
theorem valE_ok {X : RX} {s : Sh} {x : El s} {D : List DV} {d : DV} (h : RE s x D) (hd : D = d.cells) (ha : s.isAgg = true → ∃ ds, d = .agg ds) (hb : s.isAgg = false → d.cells = [d]) : RV X (valE s x) d := by
  cases s with
  | int k => have := hb rfl; simp only [RE] at h; rw [h, this] at hd; simp only [List.cons.injEq, and_true] at hd; simp only [valE, RV]; exact hd.symm
  | bool => have := hb rfl; simp only [RE] at h; rw [h, this] at hd; simp only [List.cons.injEq, and_true] at hd; simp only [valE, RV]; exact hd.symm
  | str => have := hb rfl; simp only [RE] at h; rw [h, this] at hd; simp only [List.cons.injEq, and_true] at hd; simp only [valE, RV]; exact hd.symm
  | list s =>
    have := hb rfl
    obtain ⟨d', rfl, h⟩ := h
    rw [this] at hd
    simp only [List.cons.injEq, and_true] at hd
    subst hd
    simp only [valE, RV]; exact h
  | pair a b =>
    obtain ⟨ds, rfl⟩ := ha rfl
    simp only [valE, RV]
    refine ⟨ds, rfl, ?_⟩
    have := h.cells (X := X) (r := []) (dr := []) (by simp [RVs])
    rw [List.append_nil, hd] at this
    exact this
  | tree a =>
    obtain ⟨ds, rfl⟩ := ha rfl
    simp only [valE, RV]
    refine ⟨ds, rfl, ?_⟩
    have := h.cells (X := X) (r := []) (dr := []) (by simp [RVs])
    rw [List.append_nil, hd] at this
    exact this
  | uno a =>
    obtain ⟨ds, rfl⟩ := ha rfl
    simp only [valE, RV]
    refine ⟨ds, rfl, ?_⟩
    have := h.cells (X := X) (r := []) (dr := []) (by simp [RVs])
    rw [List.append_nil, hd] at this
    exact this
  | mark a =>
    obtain ⟨ds, rfl⟩ := ha rfl
    simp only [valE, RV]
    refine ⟨ds, rfl, ?_⟩
    have := h.cells (X := X) (r := []) (dr := []) (by simp [RVs])
    rw [List.append_nil, hd] at this
    exact this

theorem KTy.hd_mk (k : K) (ks : List K) (x : k.Ty) (r : KTy ks) : KTy.hd k ks (KTy.mk k ks x r) = x := by
  cases ks <;> rfl
theorem KTy.tl_mk (k : K) (ks : List K) (x : k.Ty) (r : KTy ks) : KTy.tl k ks (KTy.mk k ks x r) = r := by
  cases ks with
  | nil => rfl
  | cons _ _ => rfl

theorem u4o (t : Lv) (h : SH) : ∀ (s : Sh) (r : List SV), decE t h s (.undef :: r) = none
  | .int _, _ | .bool, _ | .str, _ => rfl
  | .list s, _ => by simp only [decE, slL]
  | .pair a b, r => by simp only [decE, u4o t h a r]
  | .tree a, r => by simp only [decE, u4o t h a r]
  | .uno a, r => by simp only [decE, u4o t h a r]
  | .mark a, r => rfl
theorem join_ok {X : RX} {h : SH} {dh : Hp} (I : Inv X h dh) : ∀ (gs : List (Nat × Sh)) {l' l : List SV} {dl : List DV} {x : KTy (u58 gs)}, joinDec h gs l' = some x → RVs X l' dl → RVs X l dl → RVs X (u5G gs x l) dl
  | [], l', l, dl, x, _, _, L => L
  | (n, s) :: r, l', l, dl, x, hj, L', L => by
    simp only [joinDec] at hj
    split at hj
    case isFalse => cases hj
    rename_i hag
    split at hj
    case h_2 => cases hj
    rename_i y hy
    split at hj
    case h_2 => cases hj
    rename_i z hz
    cases hj
    simp only [u5G]
    rw [KTy.hd_mk, KTy.tl_mk]
    refine join_ok I r hz L' (L.retell ?_)
    have q := L'.gs n
    have hu : Go.Dv.gs l' n ≠ .undef := by
      intro e
      rw [e] at hy
      rw [show SV.undef.cells = [SV.undef] from rfl, u4o] at hy
      cases hy
    obtain ⟨us, ds, dr, g1, g2, g3, g4⟩ := u4H (Y := X) I (t := .no) (by simp) ⟨fun _ _ e => e, fun j hj => (nomatch hj)⟩ hy (q.cellsOf hu)
    cases dr with
    | cons _ _ => simp [RVs] at g4
    | nil =>
      rw [List.append_nil] at g2
      refine valE_ok g3 g2.symm (fun ha => ?_) (fun ha => ?_)
      · rcases u2x hu q with ⟨_, _, ds, e⟩ | ⟨e, _⟩
        · exact ⟨ds, e⟩
        · rw [hag, e] at ha; cases ha
      · rcases u2x hu q with ⟨cs, e, _⟩ | ⟨_, e⟩
        · rw [hag, e] at ha; cases ha
        · exact e

theorem T.sure_sem {α : Type} (d : α) : ∀ {t : T α}, t.sure = true → t.sem = some (t.pick d)
  | .ret a, _ => rfl
  | .br b t f, h => by
    simp only [T.sure, Bool.and_eq_true] at h
    cases b
    · exact T.sure_sem (t := f) d h.2
    · exact T.sure_sem (t := t) d h.1
  | .fail, h => by simp [T.sure] at h
  | .ask _ _ _, h => by simp [T.sure] at h
  | .cs _ _ _ _ _, h => by simp [T.sure] at h
theorem joined_sem {ρ : Type} {gs : List (Nat × Sh)} {ds : List Nat} {t : T (List SV)} {l : List SV} {h : SH} {k : List SV → SH → T ρ} {r : ρ} (hs : (joined gs ds t l h k).sem = some r) :
    ∃ l' x, t.sem = some l' ∧ joinDec h gs l' = some x ∧ (k (u5G gs x (wipe ds l)) h).sem = some r := by
  simp only [joined] at hs
  split at hs
  · rename_i hsu
    have := T.sure_sem (joinDflt gs) hsu
    obtain ⟨l', h1, h2⟩ := T.sem_bind this
    exact ⟨l', _, h1, T.sem_ofO h2, hs⟩
  · obtain ⟨x, h0, h3⟩ := T.sem_ask hs
    obtain ⟨l', h1, h2⟩ := T.sem_bind h0
    exact ⟨l', x, h1, T.sem_ofO h2, h3⟩

end Go.Dv
/- The engine, second storey: states told by types. -/
set_option linter.unusedVariables false
set_option linter.unusedSimpArgs false
namespace Go.Dv

def ownJs : List G → List (List SV) → List (Option Nat)
  | .kd (.own _ _ _) :: gs, c :: cs => (match c with
    | [.own j] => some j
    | _ => none) :: ownJs gs cs
  | _ :: gs, _ :: cs => ownJs gs cs
  | _, _ => []
theorem u3l {h : SH} {v : Bool} {z : Nat} {s : Sh} {used : List Nat} {c : List SV} {l : List (El s)} {u w : List Nat} (e : decOwn h v z s used c = some (l, u, w)) :
    (c = [.nil] ∧ l = [] ∧ u = [] ∧ w = []) ∨ ∃ j, c = [.own j] ∧ u = [j] ∧ j ∉ used ∧ ((∃ v' s' l', h.R[j]? = some (.live false z (.typed v' s' l')) ∧ l.length = l'.length ∧ (∀ (X Y : RX) (rows : List (List DV)), (∀ i k, X.z i = some k → Y.z i = some k) → RRows (RP X v' s') l' rows → RRows (RP Y v s) l rows) ∧ w = []) ∨
      ∃ rows, h.R[j]? = some (.live false z (.raw rows)) ∧ rowsL (lvOf v) h s rows = some l ∧ w = (rows.map u0m).flatten) := by
  unfold decOwn at e
  split at e
  · cases e; exact .inl ⟨rfl, rfl, rfl, rfl⟩
  · rename_i j
    split at e
    · cases e
    · rename_i hu
      have hu' : j ∉ used := by simpa using hu
      split at e
      · rename_i z' v' s' l' hR
        split at e
        · rename_i hz
          rw [Option.map_eq_some_iff] at e
          obtain ⟨l2, h1, h2⟩ := e
          cases h2
          obtain ⟨rfl, hv⟩ := hz
          obtain ⟨rfl, rfl⟩ := u1i h1
          refine .inr ⟨j, rfl, rfl, hu', .inl ⟨v', _, l', hR, rfl, fun X Y rows hz hr => hr.mono fun x r q => ?_, rfl⟩⟩
          rcases hv with rfl | hv
          · exact RP.mono hz q
          · exact RE.toP hv ((RP_bare hv).1 q)
        · split at e
          · rename_i hz
            rw [Option.map_eq_some_iff] at e
            obtain ⟨l2, h1, h2⟩ := e
            cases h2
            obtain ⟨rfl, rfl, rfl⟩ := hz
            unfold markL at h1
            split at h1
            · rename_i s0
              rw [Option.map_eq_some_iff] at h1
              obtain ⟨l3, h3, rfl⟩ := h1
              obtain ⟨rfl, rfl⟩ := u1i h3
              refine .inr ⟨j, rfl, rfl, hu', .inl ⟨false, _, l', hR, by simp [mkM], fun X Y rows hz hr => ?_, rfl⟩⟩
              have go : ∀ (m : List (El s')) (rows : List (List DV)), RRows (RE s') m rows → RRows (RP Y true (.mark s')) (m.map fun x => (false, x)) rows := by
                intro m
                induction m with
                | nil => intro rows hm; cases rows with
                  | nil => trivial
                  | cons _ _ => exact hm.elim
                | cons a m ih => intro rows hm; cases rows with
                  | nil => exact hm.elim
                  | cons r rows => exact ⟨hm.1, ih rows hm.2⟩
              exact go _ _ hr
            · cases h1
          · cases e
      · rename_i z' rows hR
        split at e
        · rename_i hz
          rw [Option.map_eq_some_iff] at e
          obtain ⟨l2, h1, h2⟩ := e
          cases h2
          subst hz
          exact .inr ⟨j, rfl, rfl, hu', .inr ⟨rows, hR, h1, rfl⟩⟩
        · cases e
      · cases e
  · cases e

section inv
variable {st : Lv} {h : SH} {gs : List G} {css : List (List SV)} {used seen : List Nat}
theorem u6j {v v' : SV} {x : KTy (kinds gs)} (e : decG st h (.fix v :: gs) ([v'] :: css) used seen = some x) : u1B v v' = true ∧ decG st h gs css used seen = some x := by
  have e' : (if u1B v v' = true then decG st h gs css used seen else none) = (some x : Option (KTy (kinds gs))) := e
  by_cases hf : u1B v v' = true
  · rw [if_pos hf] at e'; exact ⟨hf, e'⟩
  · rw [if_neg hf] at e'; cases e'
theorem u5j {s : Sh} {c : List SV} {x : KTy (.val s :: kinds gs)} (e : decG st h (.kd (.val s) :: gs) (c :: css) used seen = some x) :
    ∃ y r, decE st h s c = some (y, []) ∧ decG st h gs css used seen = some r ∧ x = KTy.mk (.val s) (kinds gs) y r := by
  simp only [decG] at e
  split at e
  · rename_i y hy
    split at e
    · rename_i r hr; cases e; exact ⟨y, r, hy, hr, rfl⟩
    · cases e
  · cases e
theorem decG_at {s : Sh} {c : List SV} {x : KTy (.at_ s :: kinds gs)} (e : decG st h (.kd (.at_ s) :: gs) (c :: css) used seen = some x) :
    ∃ y r, decAt st h s c = some y ∧ decG st h gs css used seen = some r ∧ x = KTy.mk (.at_ s) (kinds gs) y r := by
  simp only [decG] at e
  split at e
  · rename_i y hy
    split at e
    · rename_i r hr; cases e; exact ⟨y, r, hy, hr, rfl⟩
    · cases e
  · cases e
theorem u6k {f : FuncId} {s : Sh} {c : List SV} {x : KTy (.clo f s :: kinds gs)} (e : decG st h (.kd (.clo f s) :: gs) (c :: css) used seen = some x) :
    ∃ y r, decClo st h f s c = some y ∧ decG st h gs css used seen = some r ∧ x = KTy.mk (.clo f s) (kinds gs) y r := by
  simp only [decG] at e
  split at e
  · rename_i y hy
    split at e
    · rename_i r hr; cases e; exact ⟨y, r, hy, hr, rfl⟩
    · cases e
  · cases e
theorem decClo_is {t : Lv} {h : SH} {f : FuncId} {s : Sh} {c : List SV} {y : El s} (e : decClo t h f s c = some y) : ∃ v, c = [.fn f [v]] ∧ decAt t h s [v] = some y := by
  unfold decClo at e
  split at e
  · split at e
    · rename_i hg; subst hg; exact ⟨_, rfl, e⟩
    · cases e
  · cases e
theorem decG_view {v : Bool} {s : Sh} {c : List SV} {x : KTy (.view v s :: kinds gs)} (e : decG st h (.kd (.view v s) :: gs) (c :: css) used seen = some x) :
    ∃ y r, decE (Lv.of v) h s c = some (y, []) ∧ decG st h gs css used (u0m c ++ seen) = some r ∧ x = KTy.mk (.view v s) (kinds gs) y r := by
  simp only [decG] at e
  split at e
  · rename_i y hy
    split at e
    · rename_i r hr; cases e; exact ⟨y, r, hy, hr, rfl⟩
    · cases e
  · cases e
theorem decG_own {v : Bool} {z : Nat} {s : Sh} {c : List SV} {x : KTy (.own v z s :: kinds gs)} (e : decG st h (.kd (.own v z s) :: gs) (c :: css) used seen = some x) :
    s.size = z ∧ ∃ l u w r, decOwn h v z s used c = some (l, u, w) ∧ decG st h gs css (u ++ used) (w ++ seen) = some r ∧ x = KTy.mk (.own v z s) (kinds gs) l r := by
  simp only [decG] at e
  split at e
  · cases e
  · rename_i hz
    split at e
    · rename_i l u w hd
      split at e
      · rename_i r hr; cases e; exact ⟨by simpa using hz, l, u, w, r, hd, hr, rfl⟩
      · cases e
    · cases e
theorem decG_nil {x : KTy (kinds [])} (e : decG st h [] css used seen = some x) : css = [] ∧ ∀ j ∈ used, j ∉ seen := by
  cases css with
  | cons _ _ => simp [decG] at e
  | nil =>
    simp only [decG] at e
    split at e
    · rename_i hc
      rw [List.all_eq_true] at hc
      exact ⟨rfl, fun j hj => by simpa using hc j hj⟩
    · cases e
theorem u5k {g : G} {x : KTy (kinds (g :: gs))} {cs : List (List SV)} (e : decG st h (g :: gs) cs used seen = some x) : ∃ c css, cs = c :: css ∧ ∀ v, g = .fix v → ∃ v', c = [v'] := by
  cases cs with
  | nil => cases g with
    | fix _ => simp [decG] at e
    | kd k => cases k <;> simp [decG] at e
  | cons c css =>
    refine ⟨c, css, rfl, fun v hv => ?_⟩
    subst hv
    match c, e with
    | [], e => simp [decG] at e
    | [v'], e => exact ⟨v', rfl⟩
    | _ :: _ :: _, e => simp [decG] at e
end inv

theorem decG_disj {st : Lv} {h : SH} : ∀ {gs : List G} {css : List (List SV)} {used seen : List Nat} {x : KTy (kinds gs)}, decG st h gs css used seen = some x →
    (∀ j, some j ∈ ownJs gs css → j ∉ used) ∧ (∀ (a b : Nat) (j : Nat), (ownJs gs css)[a]? = some (some j) → (ownJs gs css)[b]? = some (some j) → a = b) ∧ ∀ j, (j ∈ used ∨ some j ∈ ownJs gs css) → j ∉ seen ∧ j ∉ u24 h gs css := by
  intro gs
  induction gs with
  | nil =>
    intro css used seen x e
    obtain ⟨rfl, hc⟩ := decG_nil e
    refine ⟨(fun j hj => by rw [show ownJs [] [] = [] from rfl] at hj; cases hj), (fun a b j ha => by rw [show ownJs [] [] = [] from rfl] at ha; simp at ha), fun j hj => ⟨?_, by rw [show u24 h [] [] = [] from rfl]; simp⟩⟩
    rcases hj with hj | hj
    · exact hc j hj
    · rw [show ownJs [] [] = [] from rfl] at hj; cases hj
  | cons g gs ih =>
    intro cs used seen x e
    obtain ⟨c, css, rfl, hfix⟩ := u5k e
    cases g with
    | fix v =>
      obtain ⟨v', rfl⟩ := hfix v rfl
      exact ih (u6j e).2
    | kd k =>
      cases k with
      | val s => obtain ⟨y, r, _, hr, _⟩ := u5j e; exact ih hr
      | at_ s => obtain ⟨y, r, _, hr, _⟩ := decG_at e; exact ih hr
      | clo f s => obtain ⟨y, r, _, hr, _⟩ := u6k e; exact ih hr
      | view v s =>
        obtain ⟨y, r, _, hr, _⟩ := decG_view e
        obtain ⟨i1, i2, i3⟩ := ih hr
        refine ⟨i1, i2, fun j hj => ?_⟩
        obtain ⟨g1, g2⟩ := i3 j hj
        simp only [List.mem_append, not_or] at g1
        exact ⟨g1.2, by simp only [u24, List.mem_append, not_or]; exact ⟨g1.1, g2⟩⟩
      | own v z s =>
        obtain ⟨_, l, u, w, r, hd, hr, _⟩ := decG_own e
        obtain ⟨i1, i2, i3⟩ := ih hr
        rcases u3l hd with ⟨rfl, rfl, rfl, rfl⟩ | ⟨j0, rfl, rfl, hju, hw⟩
        · simp only [List.nil_append] at i1 i3
          refine ⟨fun j hj => ?_, fun a b j ha hb => ?_, fun j hj => ?_⟩
          · simp only [ownJs, List.mem_cons, reduceCtorEq, false_or] at hj; exact i1 j hj
          · simp only [ownJs] at ha hb
            cases a with
            | zero => simp at ha
            | succ a => cases b with
              | zero => simp at hb
              | succ b => exact congrArg (· + 1) (i2 a b j (by simpa using ha) (by simpa using hb))
          · simp only [ownJs, List.mem_cons, reduceCtorEq, false_or] at hj
            obtain ⟨g1, g2⟩ := i3 j hj
            exact ⟨g1, by simp only [u24, u6D, List.nil_append]; exact g2⟩
        · have hraw : u6D h [.own j0] = w := by
            rcases hw with ⟨v', s', l', hR, _, _, rfl⟩ | ⟨rows, hR, _, rfl⟩ <;> simp [u6D, hR]
          refine ⟨fun j hj => ?_, fun a b j ha hb => ?_, fun j hj => ?_⟩
          · simp only [ownJs, List.mem_cons, Option.some.injEq] at hj
            rcases hj with rfl | hj
            · exact hju
            · have := i1 j hj
              simp only [List.cons_append, List.nil_append, List.mem_cons, not_or] at this
              exact this.2
          · simp only [ownJs] at ha hb
            have one : ∀ q, (ownJs gs css)[q]? = some (some j0) → False := fun q hq => by
              have := i1 j0 (List.mem_of_getElem? hq)
              simp at this
            cases a with
            | zero =>
              simp at ha; subst ha
              cases b with
              | zero => rfl
              | succ b => exact (one b (by simpa using hb)).elim
            | succ a => cases b with
              | zero => simp at hb; subst hb; exact (one a (by simpa using ha)).elim
              | succ b => exact congrArg (· + 1) (i2 a b j (by simpa using ha) (by simpa using hb))
          · have : j ∈ [j0] ++ used ∨ some j ∈ ownJs gs css := by
              rcases hj with hj | hj
              · exact .inl (by simp [hj])
              · simp only [ownJs, List.mem_cons, Option.some.injEq] at hj
                rcases hj with rfl | hj
                · exact .inl (by simp)
                · exact .inr hj
            obtain ⟨g1, g2⟩ := i3 j this
            simp only [List.mem_append, not_or] at g1
            exact ⟨g1.2, by simp only [u24, hraw, List.mem_append, not_or]; exact ⟨g1.1, g2⟩⟩

def RGs (X Y : RX) : List G → List (List SV) → List (List DV) → Prop
  | [], [], [] => True
  | .kd _ :: gs, c :: cs, D :: Ds => RVs X c D ∧ RGs X Y gs cs Ds
  | .fix v :: gs, _ :: cs, D :: Ds => (∃ d, D = [d] ∧ RV Y v d) ∧ RGs X Y gs cs Ds
  | _, _, _ => False
def RGv (Y : RX) : List G → List SV → List (List DV) → Prop
  | [], [], [] => True
  | .kd k :: gs, v :: vs, D :: Ds => (RVs Y v.cells D ∧ v.isAgg = k.isAgg ∧ v ≠ .undef) ∧ RGv Y gs vs Ds
  | .fix v :: gs, w :: vs, D :: Ds => (w = v ∧ ∃ d, D = [d] ∧ RV Y v d) ∧ RGv Y gs vs Ds
  | _, _, _ => False
def RowNew (X Y : RX) (h : SH) (dh : Hp) (o : Option Nat) (rb : RB) : Prop :=
  ∃ z c, rb = .live false z c ∧ match o with
    | none => RCon Y z c []
    | some j => (∃ z0 c0, h.R[j]? = some (.live false z0 c0)) ∧ c.len = (X.R j).2 ∧ match (X.R j).1 with
      | none => RCon Y z c []
      | some (i, m) => ∃ b, dh.R[i]? = some b ∧ b.s = m ∧ b.z = z ∧ c.len = b.xs.length ∧ X.z i = none ∧ RCon Y z c b.xs

theorem u4b (s : Sh) (x : El s) : (valE s x).cells = u0f s x [] ∧ (valE s x).isAgg = s.isAgg ∧ valE s x ≠ .undef := by
  cases s <;> exact ⟨rfl, rfl, by simp [valE]⟩
theorem u5o (v : Bool) (s : Sh) (x : El s) : (valV v s x).cells = u2C v s x [] ∧ (valV v s x).isAgg = s.isAgg ∧ valV v s x ≠ .undef := by
  cases s <;> exact ⟨rfl, rfl, by simp [valV]⟩
theorem decE0 {X Y : RX} {h : SH} {dh : Hp} (I : Inv X h dh) {t : Lv} (ht : t ≠ .all) {s : Sh} {cs : List SV} {D : List DV} {x : El s} (o : Over X Y h dh (ow t cs)) (e : decE t h s cs = some (x, [])) (k : RVs X cs D) : RL Y t s x D := by
  obtain ⟨us, ds, dr, g1, g2, g3, g4⟩ := u4H I ht o e k
  cases dr with
  | nil => rw [List.append_nil] at g2; subst g2; exact g3
  | cons _ _ => simp [RVs] at g4
theorem u4D {X Y : RX} {h : SH} {dh : Hp} (hz : ∀ i k, X.z i = some k → Y.z i = some k) (cs : List SV) : Over X Y h dh (ow .no cs) := ⟨hz, fun j hj => nomatch hj⟩

theorem decAt_no {X Y : RX} {h : SH} {dh : Hp} (I : Inv X h dh) (hz : ∀ i k, X.z i = some k → Y.z i = some k) {s : Sh} {c : List SV} {D : List DV} {y : El s} (hy : decAt .no h s c = some y) (h1 : RVs X c D) : RVs Y [.fp (u0f s y [])] D := by
  unfold decAt at hy
  split at hy
  · rename_i cs'
    split at hy
    · rename_i y' hy'
      cases hy
      obtain ⟨d, dr, rfl, q1, q2⟩ := u0A h1
      cases dr with
      | cons _ _ => simp [RVs] at q2
      | nil =>
        simp only [RVs]
        refine ⟨?_, trivial⟩
        simp only [RV] at q1 ⊢
        rcases q1 with ⟨ds, rfl, q1⟩ | ⟨i, m, e', o, k, r, rfl, w1, w2, w3, w4⟩
        · have q : RE s y ds := decE0 I (by simp) (u4D hz _) hy' q1
          exact .inl ⟨ds, rfl, by simpa using q.cells (X := Y) (r := []) (dr := []) (by simp [RVs])⟩
        · have q : RE s y _ := decE0 I (by simp) (u4D hz _) hy' w4
          exact .inr ⟨i, m, e', o, k, r, rfl, hz _ _ w1, w2, w3, by simpa using q.cells (X := Y) (r := []) (dr := []) (by simp [RVs])⟩
    · cases hy
  · simp at hy
  · cases hy
theorem encG_ok {X Y : RX} {h : SH} {dh : Hp} (I : Inv X h dh) (hz : ∀ i k, X.z i = some k → Y.z i = some k) : ∀ {gs : List G} {css : List (List SV)} {Ds : List (List DV)} {used seen : List Nat} {x : KTy (kinds gs)} (R : List RB),
    decG .no h gs css used seen = some x → RGs X Y gs css Ds → Over X Y h dh (u24 h gs css) →
    (∀ (k : Nat) (o : Option Nat), (ownJs gs css)[k]? = some o → R.length + k < Y.c ∧ Y.R (R.length + k) = (match o with | some j => X.R j | none => (none, 0))) →
    ∃ vs N, encG gs x R = (vs, R ++ N) ∧ RGv Y gs vs Ds ∧ N.length = (ownJs gs css).length ∧ ∀ (k : Nat) (rb : RB) (o : Option Nat), N[k]? = some rb → (ownJs gs css)[k]? = some o → RowNew X Y h dh o rb := by
  intro gs
  induction gs with
  | nil =>
    intro css Ds used seen x R e hr ho hR
    obtain ⟨rfl, _⟩ := decG_nil e
    cases Ds with
    | cons _ _ => exact hr.elim
    | nil => exact ⟨[], [], by simp [encG], trivial, rfl, fun k rb o hk => by simp at hk⟩
  | cons g gs ih =>
    intro cs Ds used seen x R e hr ho hR
    obtain ⟨c, css, rfl, hfix⟩ := u5k e
    cases Ds with
    | nil => cases g <;> exact hr.elim
    | cons D Ds =>
    cases g with
    | fix v =>
      obtain ⟨v', rfl⟩ := hfix v rfl
      obtain ⟨h1, h2⟩ := hr
      obtain ⟨vs, N, g1, g2, g3, g4⟩ := ih R (u6j e).2 h2 ho hR
      exact ⟨v :: vs, N, by simp only [encG]; rw [g1], ⟨⟨rfl, h1⟩, g2⟩, g3, g4⟩
    | kd k =>
      obtain ⟨h1, h2⟩ := hr
      cases k with
      | val s =>
        obtain ⟨y, r, hy, hr', rfl⟩ := u5j e
        obtain ⟨vs, N, g1, g2, g3, g4⟩ := ih R hr' h2 ho hR
        have q : RE s y D := decE0 I (by simp) (u4D hz c) hy h1
        refine ⟨valE s y :: vs, N, ?_, ⟨⟨?_, (u4b s y).2.1, (u4b s y).2.2⟩, g2⟩, g3, g4⟩
        · simp only [encG, KTy.hd_mk, KTy.tl_mk]; rw [g1]
        · rw [(u4b s y).1]
          simpa using q.cells (X := Y) (r := []) (dr := []) (by simp [RVs])
      | at_ s =>
        obtain ⟨y, r, hy, hr', rfl⟩ := decG_at e
        obtain ⟨vs, N, g1, g2, g3, g4⟩ := ih R hr' h2 ho hR
        refine ⟨.fp (u0f s y []) :: vs, N, ?_, ⟨⟨?_, rfl, by simp⟩, g2⟩, g3, g4⟩
        · simp only [encG, KTy.hd_mk, KTy.tl_mk]; rw [g1]
        · exact decAt_no I hz hy h1
      | clo f s =>
        obtain ⟨y, r, hy, hr', rfl⟩ := u6k e
        obtain ⟨vs, N, g1, g2, g3, g4⟩ := ih R hr' h2 ho hR
        refine ⟨.fn f [.fp (u0f s y [])] :: vs, N, ?_, ⟨⟨?_, rfl, by simp⟩, g2⟩, g3, g4⟩
        · simp only [encG, KTy.hd_mk, KTy.tl_mk]; rw [g1]
        · obtain ⟨v, rfl, hv⟩ := decClo_is hy
          obtain ⟨d, dr, rfl, q1, q2⟩ := u0A h1
          cases dr with
          | cons _ _ => simp [RVs] at q2
          | nil =>
            simp only [RV] at q1
            obtain ⟨ds, rfl, q1⟩ := q1
            simp only [SV.cells, RVs, RV]
            exact ⟨⟨ds, rfl, decAt_no I hz hv q1⟩, trivial⟩
      | view v s =>
        obtain ⟨y, r, hy, hr', rfl⟩ := decG_view e
        obtain ⟨vs, N, g1, g2, g3, g4⟩ := ih R hr' h2 (ho.sub fun j hj => by simp only [u24]; exact List.mem_append_right _ hj) hR
        have q := decE0 I (t := Lv.of v) (by cases v <;> simp [Lv.of]) (ho.sub fun j hj => by
          simp only [u24]
          exact List.mem_append_left _ (by cases v <;> exact hj)) hy h1
        have q' : RW Y v s y D := by cases v <;> exact q
        refine ⟨valV v s y :: vs, N, ?_, ⟨⟨?_, (u5o v s y).2.1, (u5o v s y).2.2⟩, g2⟩, g3, g4⟩
        · simp only [encG, KTy.hd_mk, KTy.tl_mk]; rw [g1]
        · rw [(u5o v s y).1]
          simpa using q'.cells (r := []) (dr := []) (by simp [RVs])
      | own v z s =>
        obtain ⟨hsz, l, u, w, r, hd, hr', rfl⟩ := decG_own e
        have h0 := hR 0 _ (by simp only [ownJs]; rfl)
        obtain ⟨vs, N, g1, g2, g3, g4⟩ := ih (R ++ [.live false z (.typed v s l)]) hr' h2 (ho.sub fun j hj => by simp only [u24]; exact List.mem_append_right _ hj) (fun k o hk => by
          have := hR (k + 1) o (by simp only [ownJs]; simpa using hk)
          rw [List.length_append, List.length_singleton]
          rwa [show R.length + (k + 1) = R.length + 1 + k by omega] at this)
        rw [List.append_assoc] at g1
        refine ⟨.own R.length :: vs, .live false z (.typed v s l) :: N, ?_, ⟨⟨?_, rfl, by simp⟩, g2⟩, by simp [ownJs, g3], ?_⟩
        · simp only [encG, KTy.hd_mk, KTy.tl_mk]; rw [g1]; rfl
        · obtain ⟨d, dr, e1, q1, q2⟩ : ∃ d dr, D = d :: dr ∧ RVs X c (d :: dr) ∧ dr.length + 1 = c.length := by
            cases D with
            | nil => rcases u3l hd with ⟨rfl, _⟩ | ⟨j, rfl, _⟩ <;> simp [RVs] at h1
            | cons d dr => exact ⟨d, dr, rfl, h1, by rw [h1.length]; rfl⟩
          subst e1
          simp only [Nat.add_zero] at h0
          rcases u3l hd with ⟨rfl, rfl, rfl, rfl⟩ | ⟨j, rfl, rfl, _, hw⟩
          · simp only [RVs] at q1
            cases dr with
            | cons _ _ => simp [RVs] at q1
            | nil =>
              simp only [SV.cells, RVs]
              refine ⟨?_, trivial⟩
              have := q1.1
              simp only [RV] at this ⊢
              rw [h0.2]
              exact ⟨h0.1, this, rfl⟩
          · simp only [RVs] at q1
            cases dr with
            | cons _ _ => simp [RVs] at q1
            | nil =>
              simp only [SV.cells, RVs]
              refine ⟨?_, trivial⟩
              have := q1.1
              simp only [RV] at this ⊢
              rw [h0.2]
              exact ⟨h0.1, this.2⟩
        · intro k rb o hk hko
          simp only [ownJs] at hko
          cases k with
          | succ k => exact g4 k rb o (by simpa using hk) (by simpa using hko)
          | zero =>
            simp only [List.getElem?_cons_zero, Option.some.injEq] at hk hko
            subst hk
            refine ⟨z, .typed v s l, rfl, ?_⟩
            rcases u3l hd with ⟨rfl, rfl, rfl, rfl⟩ | ⟨j, rfl, rfl, _, hw⟩
            · subst hko
              exact ⟨hsz, trivial⟩
            · subst hko
              rcases hw with ⟨v', s', l', hRj, hv, hc, rfl⟩ | ⟨rows, hRj, hl, rfl⟩
              · have RO := I.row _ _ _ _ hRj
                unfold RowOk at RO
                have hl : (RC.typed v s l).len = (RC.typed v' s' l').len := hv
                refine ⟨⟨_, _, hRj⟩, hl.trans RO.1, ?_⟩
                cases ej : (X.R j).1 with
                | none => rw [ej] at RO; exact ⟨hsz, hc X Y _ hz RO.2.2⟩
                | some p =>
                  obtain ⟨i, m⟩ := p
                  rw [ej] at RO
                  obtain ⟨_, b, b1, b2, b3, b4, ⟨b5, b6⟩, b7⟩ := RO
                  simp only [FzOk] at b7
                  have ht : b.xs.take (RC.typed v' s' l').len = b.xs := by rw [b7.2, List.take_length]
                  rw [ht] at b6
                  exact ⟨b, b1, b2, b3, hl.trans b7.2, b7.1, hsz, hc X Y _ hz b6⟩
              · have RO := I.row _ _ _ _ hRj
                unfold RowOk at RO
                have hov : Over X Y h dh (rows.map u0m).flatten := ho.sub fun q hq => by
                  simp only [u24, u6D, hRj]
                  exact List.mem_append_left _ hq
                cases ej : (X.R j).1 with
                | none =>
                  rw [ej] at RO
                  have hq := u4d I hov hl RO.2
                  refine ⟨⟨_, _, hRj⟩, ?_, ?_⟩
                  · rw [← RO.1]
                    simp only [RC.len]
                    rw [hq.length, ← RRows.length RO.2]
                  · rw [ej]; exact ⟨hsz, hq⟩
                | some p =>
                  obtain ⟨i, m⟩ := p
                  rw [ej] at RO
                  obtain ⟨RO1, b, b1, b2, b3, b4, b6, b7⟩ := RO
                  simp only [FzOk] at b7
                  have ht : b.xs.take (RC.raw rows).len = b.xs := by rw [b7.2, List.take_length]
                  rw [ht] at b6
                  have hq := u4d I hov hl b6
                  have hle : (RC.typed v s l).len = (RC.raw rows).len := by
                    simp only [RC.len]
                    rw [hq.length, ← RRows.length b6]
                  refine ⟨⟨_, _, hRj⟩, hle.trans RO1, ?_⟩
                  rw [ej]
                  exact ⟨b, b1, b2, b3, hle.trans b7.2, b7.1, hsz, hq⟩

end Go.Dv
/- The engine, second storey: a state that is told by types stands for the first storey's. -/
set_option linter.unusedVariables false
set_option linter.unusedSimpArgs false
namespace Go.Dv

abbrev RVss (X : RX) : List (List SV) → List (List DV) → Prop := RRows (fun c D => RVs X c D)
theorem fixSame_agg {v v' : SV} (h : u1B v v' = true) : v.isAgg = false := by
  cases v <;> first | rfl | (cases v' <;> simp [u1B] at h)
theorem toRGs {X Y : RX} {st : Lv} {h : SH} (fx : ∀ v v' d, u1B v v' = true → (∀ i o, v = .ptr i o → i < Y.nb) → RV X v' d → RV Y v d) : ∀ {gs : List G} {css : List (List SV)} {Ds : List (List DV)} {used seen : List Nat} {x : KTy (kinds gs)},
    decG st h gs css used seen = some x → fixLt Y.nb gs = true → RVss X css Ds → RGs X Y gs css Ds ∧ ∀ v, G.fix v ∈ gs → v.isAgg = false := by
  intro gs
  induction gs with
  | nil =>
    intro css Ds used seen x e hl k
    obtain ⟨rfl, _⟩ := decG_nil e
    cases Ds with
    | nil => exact ⟨trivial, fun v hv => nomatch hv⟩
    | cons _ _ => exact k.elim
  | cons g gs ih =>
    intro cs Ds used seen x e hl k
    obtain ⟨c, css, rfl, hfix⟩ := u5k e
    cases Ds with
    | nil => exact k.elim
    | cons D Ds =>
    obtain ⟨k1, k2⟩ := k
    cases g with
    | fix v =>
      obtain ⟨v', rfl⟩ := hfix v rfl
      obtain ⟨hs, e'⟩ := u6j e
      have hl' : fixLt Y.nb gs = true ∧ ∀ i o, v = .ptr i o → i < Y.nb := by
        cases v <;> first
          | (simp only [fixLt, Bool.and_eq_true, decide_eq_true_eq] at hl; exact ⟨hl.2, fun i o e => by cases e; exact hl.1⟩)
          | exact ⟨hl, fun i o e => by cases e⟩
      obtain ⟨g1, g2⟩ := ih e' hl'.1 k2
      obtain ⟨d, dr, rfl, q1, q2⟩ := u0A k1
      cases dr with
      | cons _ _ => simp [RVs] at q2
      | nil =>
        refine ⟨⟨⟨d, rfl, fx v v' d hs hl'.2 q1⟩, g1⟩, fun w hw => ?_⟩
        rcases List.mem_cons.1 hw with hw | hw
        · cases hw; exact fixSame_agg hs
        · exact g2 w hw
    | kd k =>
      have sub : ∃ used seen r, decG st h gs css used seen = some r := by
        cases k with
        | val s => obtain ⟨y, r, _, hr, _⟩ := u5j e; exact ⟨_, _, r, hr⟩
        | at_ s => obtain ⟨y, r, _, hr, _⟩ := decG_at e; exact ⟨_, _, r, hr⟩
        | clo f s => obtain ⟨y, r, _, hr, _⟩ := u6k e; exact ⟨_, _, r, hr⟩
        | view v s => obtain ⟨y, r, _, hr, _⟩ := decG_view e; exact ⟨_, _, r, hr⟩
        | own v z s => obtain ⟨_, l, u, w, r, hd, hr, _⟩ := decG_own e; exact ⟨_, _, r, hr⟩
      obtain ⟨_, _, r, hr⟩ := sub
      obtain ⟨g1, g2⟩ := ih hr hl k2
      exact ⟨⟨k1, g1⟩, fun w hw => by
        rcases List.mem_cons.1 hw with hw | hw
        · cases hw
        · exact g2 w hw⟩

def cutD : List G → List DV → List (List DV)
  | [], _ => []
  | g :: gs, cs => cs.take g.size :: cutD gs (cs.drop g.size)
theorem cut_rvs {X : RX} : ∀ (gs : List G) {cs : List SV} {ds : List DV}, RVs X cs ds → RVss X (cutB gs cs) (cutD gs ds)
  | [], _, _, _ => trivial
  | g :: gs, cs, ds, h => ⟨h.take g.size, cut_rvs gs (h.drop g.size)⟩
theorem u46 : ∀ (gs : List G) (ds : List DV), ds.length = gsize gs → (cutD gs ds).flatten = ds
  | [], ds, h => by simp only [gsize] at h; simp [cutD, List.eq_nil_of_length_eq_zero h]
  | g :: gs, ds, h => by
    simp only [gsize] at h
    simp only [cutD, List.flatten_cons]
    rw [u46 gs (ds.drop g.size) (by simp; omega), List.take_append_drop]
theorem u23 : ∀ (gs : List G) (ds : List DV), (cutD gs ds).length = gs.length
  | [], _ => rfl
  | g :: gs, ds => by simp [cutD, u23 gs]

def SlotD (dl : List DV) : List (Nat × SG) → List (List DV) → Prop
  | [], [] => True
  | (n, .one (.kd k)) :: r, D :: Ds => (D = (gt dl n).cells ∧ (k.isAgg = true → ∃ ds, gt dl n = .agg ds) ∧ (k.isAgg = false → (gt dl n).cells = [gt dl n])) ∧ SlotD dl r Ds
  | (n, .one (.fix _)) :: r, D :: Ds => D = [gt dl n] ∧ SlotD dl r Ds
  | (n, .agg g) :: r, Ds => g.length ≤ Ds.length ∧ gt dl n = .agg (Ds.take g.length).flatten ∧ SlotD dl r (Ds.drop g.length)
  | _, _ => False
theorem u2R {X : RX} {l : List SV} {dl : List DV} (L : RVs X l dl) : ∀ {slots : List (Nat × SG)} {cs : List (List SV)}, u1S l slots = some cs → ∃ Ds, RVss X cs Ds ∧ SlotD dl slots Ds
  | [], cs, h => by simp only [u1S, Option.some.injEq] at h; subst h; exact ⟨[], trivial, trivial⟩
  | (n, .one (.kd k)) :: r, cs, h => by
    simp only [u1S] at h
    split at h
    case isFalse => cases h
    rename_i hf
    split at h
    case h_2 => cases h
    rename_i cs' hr
    cases h
    obtain ⟨Ds, g1, g2⟩ := u2R L hr
    have q := L.gs n
    simp only [G.fits, Bool.and_eq_true, beq_iff_eq] at hf
    obtain ⟨hf, hdef⟩ := hf
    have hne : gs l n ≠ .undef := by intro e; rw [e] at hdef; cases hdef
    refine ⟨(gt dl n).cells :: Ds, ⟨q.cellsOf hne, g1⟩, ⟨rfl, fun ha => ?_, fun ha => ?_⟩, g2⟩
    · rcases u2x hne q with ⟨_, _, ds, e⟩ | ⟨e, _⟩
      · exact ⟨ds, e⟩
      · rw [hf, e] at ha; cases ha
    · rcases u2x hne q with ⟨cs, e, _⟩ | ⟨_, e⟩
      · rw [hf, e] at ha; cases ha
      · exact e
  | (n, .one (.fix v)) :: r, cs, h => by
    simp only [u1S] at h
    split at h
    case h_2 => cases h
    rename_i cs' hr
    cases h
    obtain ⟨Ds, g1, g2⟩ := u2R L hr
    exact ⟨[gt dl n] :: Ds, ⟨by simp only [RVs]; exact ⟨L.gs n, trivial⟩, g1⟩, rfl, g2⟩
  | (n, .agg g) :: r, cs, h => by
    simp only [u1S] at h
    split at h
    case isFalse => cases h
    rename_i hf
    split at h
    case h_2 => cases h
    rename_i cs' hr
    cases h
    obtain ⟨Ds, g1, g2⟩ := u2R L hr
    have q := L.gs n
    have hne : gs l n ≠ .undef := by intro e; rw [e] at hf; cases hf.1
    rcases u2x hne q with ⟨as, e1, ds, e2⟩ | ⟨e, _⟩
    · rw [e1, e2] at q
      simp only [RV] at q
      obtain ⟨ds', e3, q⟩ := q
      cases e3
      rw [e1] at hf
      simp only [SV.cells] at hf
      have hl : ds.length = gsize g := by rw [← q.length]; exact hf.2
      refine ⟨cutD g ds ++ Ds, ?_, ?_⟩
      · rw [e1]
        simp only [SV.cells]
        exact RRows.append (cut_rvs g q) g1
      · refine ⟨by rw [List.length_append, u23]; exact Nat.le_add_right _ _, ?_, ?_⟩
        · rw [← u23 g ds, List.take_left, u46 g ds hl, e2]
        · rw [← u23 g ds, List.drop_left]; exact g2
    · rw [e] at hf; cases hf.1

theorem RGv.length {Y : RX} : ∀ {gs : List G} {vs : List SV} {Ds : List (List DV)}, RGv Y gs vs Ds → vs.length = gs.length ∧ Ds.length = gs.length
  | [], [], [], _ => ⟨rfl, rfl⟩
  | .kd _ :: _, _ :: _, _ :: _, h => by obtain ⟨h1, h2⟩ := RGv.length h.2; simp [h1, h2]
  | .fix _ :: _, _ :: _, _ :: _, h => by obtain ⟨h1, h2⟩ := RGv.length h.2; simp [h1, h2]
  | [], [], _ :: _, h => h.elim
  | [], _ :: _, _, h => h.elim
  | .kd _ :: _, [], _, h => h.elim
  | .kd _ :: _, _ :: _, [], h => h.elim
  | .fix _ :: _, [], _, h => h.elim
  | .fix _ :: _, _ :: _, [], h => h.elim
theorem RGv.flat {Y : RX} : ∀ {gs : List G} {vs : List SV} {Ds : List (List DV)}, (∀ v, G.fix v ∈ gs → v.isAgg = false) → RGv Y gs vs Ds → RVs Y (vs.map SV.cells).flatten Ds.flatten
  | [], [], [], _, _ => by simp [RVs]
  | .kd _ :: _, _ :: _, _ :: _, hf, h => by
    simp only [List.map_cons, List.flatten_cons]
    exact RVs.append h.1.1 (RGv.flat (fun v hv => hf v (List.mem_cons_of_mem _ hv)) h.2)
  | .fix v :: gs, w :: _, _ :: _, hf, h => by
    simp only [List.map_cons, List.flatten_cons]
    obtain ⟨⟨rfl, d, rfl, h1⟩, h2⟩ := h
    refine RVs.append ?_ (RGv.flat (fun v hv => hf v (List.mem_cons_of_mem _ hv)) h2)
    have : w.cells = [w] := by
      have := hf w List.mem_cons_self
      cases w <;> first | rfl | cases this
    rw [this]
    simp only [RVs]; exact ⟨h1, trivial⟩
  | [], [], _ :: _, _, h => h.elim
  | [], _ :: _, _, _, h => h.elim
  | .kd _ :: _, [], _, _, h => h.elim
  | .kd _ :: _, _ :: _, [], _, h => h.elim
  | .fix _ :: _, [], _, _, h => h.elim
  | .fix _ :: _, _ :: _, [], _, h => h.elim
theorem RGv.split {Y : RX} : ∀ {gs gs' : List G} {vs : List SV} {Ds : List (List DV)}, RGv Y (gs ++ gs') vs Ds → RGv Y gs (vs.take gs.length) (Ds.take gs.length) ∧ RGv Y gs' (vs.drop gs.length) (Ds.drop gs.length)
  | [], gs', vs, Ds, h => by simpa [RGv] using h
  | .kd _ :: gs, gs', v :: vs, D :: Ds, h => by
    obtain ⟨h1, h2⟩ := h
    have := RGv.split h2
    exact ⟨⟨h1, this.1⟩, this.2⟩
  | .fix _ :: gs, gs', v :: vs, D :: Ds, h => by
    obtain ⟨h1, h2⟩ := h
    have := RGv.split h2
    exact ⟨⟨h1, this.1⟩, this.2⟩
  | .kd _ :: _, _, [], _, h => h.elim
  | .kd _ :: _, _, _ :: _, [], h => h.elim
  | .fix _ :: _, _, [], _, h => h.elim
  | .fix _ :: _, _, _ :: _, [], h => h.elim

theorem val_of_cells {Y : RX} {v : SV} {d : DV} {k : K} (h : RVs Y v.cells d.cells) (ha : v.isAgg = k.isAgg) (h1 : k.isAgg = true → ∃ ds, d = .agg ds) (h2 : k.isAgg = false → d.cells = [d]) : RV Y v d := by
  cases hk : k.isAgg with
  | true =>
    obtain ⟨ds, rfl⟩ := h1 hk
    rw [hk] at ha
    cases v <;> simp [SV.isAgg] at ha
    simp only [RV]
    exact ⟨ds, rfl, h⟩
  | false =>
    rw [h2 hk] at h
    rw [hk] at ha
    have : v.cells = [v] := by cases v <;> first | rfl | (simp [SV.isAgg] at ha)
    rw [this] at h
    simp only [RVs] at h
    exact h.1

theorem u5F {Y : RX} {dl : List DV} : ∀ {slots : List (Nat × SG)} {gs' : List G} {vs : List SV} {Ds Bs : List (List DV)} {l0 : List SV}, (∀ v, G.fix v ∈ u14 slots ++ gs' → v.isAgg = false) → RGv Y (u14 slots ++ gs') vs (Ds ++ Bs) → SlotD dl slots Ds → RVs Y l0 dl →
    RVs Y (layS slots (u1l slots vs).1 l0) dl ∧ RGv Y gs' (u1l slots vs).2 Bs
  | [], gs', vs, Ds, Bs, l0, hf, h, hd, L => by
    cases Ds with
    | cons _ _ => exact hd.elim
    | nil => exact ⟨L, h⟩
  | (n, .one (.kd k)) :: r, gs', vs, Ds, Bs, l0, hf, h, hd, L => by
    cases Ds with
    | nil => exact hd.elim
    | cons D Ds =>
    cases vs with
    | nil => exact h.elim
    | cons v vs =>
    obtain ⟨⟨h1, h2, h3⟩, h4⟩ := h
    obtain ⟨⟨rfl, d1, d2⟩, hd⟩ := hd
    have q := u5F (l0 := l0.set n v) (fun v hv => hf v (List.mem_cons_of_mem _ hv)) h4 hd (L.retell (val_of_cells h1 h2 d1 d2))
    simp only [u1l, layS]
    exact q
  | (n, .one (.fix w)) :: r, gs', vs, Ds, Bs, l0, hf, h, hd, L => by
    cases Ds with
    | nil => exact hd.elim
    | cons D Ds =>
    cases vs with
    | nil => exact h.elim
    | cons v vs =>
    obtain ⟨⟨rfl, d, h1, h2⟩, h4⟩ := h
    obtain ⟨rfl, hd⟩ := hd
    simp only [List.cons.injEq, and_true] at h1
    subst h1
    have q := u5F (l0 := l0.set n v) (fun v hv => hf v (List.mem_cons_of_mem _ hv)) h4 hd (L.retell h2)
    simp only [u1l, layS]
    exact q
  | (n, .agg g) :: r, gs', vs, Ds, Bs, l0, hf, h, hd, L => by
    obtain ⟨d1, d2, hd⟩ := hd
    simp only [u14, List.append_assoc] at h hf
    obtain ⟨s1, s2⟩ := RGv.split h
    rw [List.take_append_of_le_length d1] at s1
    rw [List.drop_append_of_le_length d1] at s2
    have fl := RGv.flat (fun v hv => hf v (List.mem_append_left _ hv)) s1
    have q := u5F (l0 := l0.set n (.agg ((vs.take g.length).map SV.cells).flatten)) (fun v hv => hf v (List.mem_append_right _ hv)) s2 hd (L.retell (by rw [d2]; exact ⟨_, rfl, fl⟩))
    simp only [u1l, layS]
    exact q

def BoxD (X : RX) (dh : Hp) : Nat → List (List G) → List (List DV) → Prop
  | _, [], [] => True
  | i, g :: r, Bs => g.length ≤ Bs.length ∧ (∃ z, dh.B[X.bi i]? = some ⟨X.bm i, z, [(Bs.take g.length).flatten]⟩) ∧ BoxD X dh (i + 1) r (Bs.drop g.length)
  | _, [], _ :: _ => False
theorem u4I {X : RX} {h : SH} {dh : Hp} (I : Inv X h dh) : ∀ {boxes : List (List G)} {i : Nat} {bs : List (List SV)}, u1D boxes (h.B.drop i) = some bs → ∃ Bs, RVss X bs Bs ∧ BoxD X dh i boxes Bs
  | [], i, bs, e => by simp only [u1D, Option.some.injEq] at e; subst e; exact ⟨[], trivial, trivial⟩
  | g :: r, i, bs, e => by
    cases hd : h.B.drop i with
    | nil => rw [hd] at e; simp [u1D] at e
    | cons b rest =>
      rw [hd] at e
      simp only [u1D] at e
      split at e
      case isFalse => cases e
      rename_i hl
      rw [Option.map_eq_some_iff] at e
      obtain ⟨l, h1, rfl⟩ := e
      have hb : h.B[i]? = some b := by
        have := congrArg (fun q => q[0]?) hd
        simpa [List.getElem?_drop] using this
      have hrest : rest = h.B.drop (i + 1) := by
        have := congrArg (List.drop 1) hd
        simpa [List.drop_drop] using this.symm
      rw [hrest] at h1
      obtain ⟨Bs, g1, g2⟩ := u4I I h1
      obtain ⟨z, ds, e1, e2⟩ := I.box _ _ hb
      have hlen : ds.length = gsize g := by rw [← e2.length]; exact hl
      refine ⟨cutD g ds ++ Bs, RRows.append (cut_rvs g e2) g1, by rw [List.length_append, u23]; exact Nat.le_add_right _ _, ⟨z, ?_⟩, ?_⟩
      · rw [← u23 g ds, List.take_left, u46 g ds hlen]; exact e1
      · rw [← u23 g ds, List.drop_left]; exact g2
theorem layB_ok {X Y : RX} {dh : Hp} : ∀ {boxes : List (List G)} {i : Nat} {vs : List SV} {Bs : List (List DV)}, (∀ v, G.fix v ∈ boxes.flatten → v.isAgg = false) → RGv Y boxes.flatten vs Bs → BoxD X dh i boxes Bs →
    (layB boxes vs).length = boxes.length ∧ ∀ q cs, (layB boxes vs)[q]? = some cs → ∃ z ds, dh.B[X.bi (i + q)]? = some ⟨X.bm (i + q), z, [ds]⟩ ∧ RVs Y cs ds
  | [], i, vs, Bs, hf, h, hd => ⟨rfl, fun q cs e => by simp [layB] at e⟩
  | g :: r, i, vs, Bs, hf, h, hd => by
    obtain ⟨d1, ⟨z, d2⟩, hd⟩ := hd
    simp only [List.flatten_cons] at h hf
    obtain ⟨s1, s2⟩ := RGv.split h
    have fl := RGv.flat (fun v hv => hf v (List.mem_append_left _ hv)) s1
    obtain ⟨q1, q2⟩ := layB_ok (fun v hv => hf v (List.mem_append_right _ hv)) s2 hd
    refine ⟨by simp [layB, q1], fun q cs e => ?_⟩
    simp only [layB] at e
    cases q with
    | zero =>
      simp only [List.getElem?_cons_zero, Option.some.injEq] at e
      subst e
      exact ⟨z, _, d2, fl⟩
    | succ q =>
      obtain ⟨z, ds, e1, e2⟩ := q2 q cs (by simpa using e)
      rw [show i + 1 + q = i + (q + 1) by omega] at e1
      exact ⟨z, ds, e1, e2⟩

open Classical in
noncomputable def overF (f : Nat → Nat) (X : RX) (h : SH) (dh : Hp) (js : List (Option Nat)) (seen : List Nat) (nb : Nat) : RX where
  z q := match X.z q with
    | some k => some k
    | none => if ∃ j ∈ seen, ∃ fz z c m, h.R[j]? = some (.live fz z c) ∧ (X.R j).1 = some (q, m) then dh.R[q]? else none
  c := js.length
  R q := match js[q]? with
    | some (some j) => X.R j
    | _ => (none, 0)
  nb := nb
  bi q := X.bi (f q)
  bm q := X.bm (f q)

theorem overF_z {f : Nat → Nat} {X : RX} {h : SH} {dh : Hp} (I : Inv X h dh) {js : List (Option Nat)} {seen : List Nat} {nb : Nat} : Over X (overF f X h dh js seen nb) h dh seen := by
  classical
  refine ⟨fun i k e => by simp only [overF, e], fun j hj fz z c i m e1 e2 => ?_⟩
  simp only [overF]
  cases e : X.z i with
  | some k => exact (I.z i k e).symm
  | none => simp only; rw [if_pos ⟨j, hj, fz, z, c, m, e1, e2⟩]

theorem u4f {f : Nat → Nat} {X : RX} {h : SH} {dh : Hp} (I : Inv X h dh) {js : List (Option Nat)} {seen : List Nat} {nb : Nat} {i : Nat} {k : Blk} (e : (overF f X h dh js seen nb).z i = some k) :
    dh.R[i]? = some k ∧ (X.z i = some k ∨ ∃ j ∈ seen, ∃ z c m, h.R[j]? = some (.live false z c) ∧ (X.R j).1 = some (i, m)) := by
  classical
  simp only [overF] at e
  cases e1 : X.z i with
  | some k' =>
    rw [e1] at e
    simp only [Option.some.injEq] at e
    subst e
    exact ⟨I.z i _ e1, .inl rfl⟩
  | none =>
    rw [e1] at e
    simp only at e
    split at e
    · rename_i hm
      obtain ⟨j, hj, fz, z, c, m, a1, a2⟩ := hm
      cases fz with
      | false => exact ⟨e, .inr ⟨j, hj, z, c, m, a1, a2⟩⟩
      | true =>
        have RO := I.row _ _ _ _ a1
        unfold RowOk at RO
        rw [a2] at RO
        obtain ⟨_, b, b1, _, _, _, _, b7⟩ := RO
        simp only [FzOk] at b7
        rw [e1] at b7; cases b7
    · cases e

theorem over_invF {f : Nat → Nat} {X : RX} {h : SH} {dh : Hp} (I : Inv X h dh) {js : List (Option Nat)} {seen : List Nat} {nb : Nat} {N : List RB} {B : List (List SV)}
    (hd1 : ∀ (a b : Nat) (j : Nat), js[a]? = some (some j) → js[b]? = some (some j) → a = b) (hd2 : ∀ j, some j ∈ js → j ∉ seen)
    (hN : N.length = js.length) (hrow : ∀ (k : Nat) (rb : RB) (o : Option Nat), N[k]? = some rb → js[k]? = some o → RowNew X (overF f X h dh js seen nb) h dh o rb)
    (hB : B.length = nb) (hbox : ∀ q cs, B[q]? = some cs → ∃ z ds, dh.B[X.bi (f q)]? = some ⟨X.bm (f q), z, [ds]⟩ ∧ RVs (overF f X h dh js seen nb) cs ds) (hnb : ∀ q, q < nb → f q < X.nb) (hinj : ∀ q q', q < nb → q' < nb → f q = f q' → q = q') :
    Inv (overF f X h dh js seen nb) ⟨B, N⟩ dh ∧ Step X h dh (overF f X h dh js seen nb) ⟨B, N⟩ dh := by
  classical
  have zn : ∀ i k, (overF f X h dh js seen nb).z i = some k → X.z i = some k ∨ WR X h i ∨ dh.R.length ≤ i := by
    intro i k e
    rcases (u4f I e).2 with e | ⟨j, _, z, c, m, a1, a2⟩
    · exact .inl e
    · exact .inr (.inl ⟨j, z, c, m, a1, a2⟩)
  have at_ : ∀ {k : Nat} {fz : Bool} {z : Nat} {c : RC}, N[k]? = some (.live fz z c) → ∃ o, js[k]? = some o ∧ fz = false ∧ RowNew X (overF f X h dh js seen nb) h dh o (.live false z c) := by
    intro k fz z c e
    have hk : k < js.length := by rw [← hN]; exact u02 e
    have hr := hrow k _ _ e (List.getElem?_eq_getElem hk)
    obtain ⟨z', c', h1, h2⟩ := hr
    cases h1
    exact ⟨_, List.getElem?_eq_getElem hk, rfl, z, c, rfl, h2⟩
  -- a block that is taken is not looked at
  have free : ∀ j i m, some j ∈ js → (∃ z0 c0, h.R[j]? = some (.live false z0 c0)) → (X.R j).1 = some (i, m) → X.z i = none → (overF f X h dh js seen nb).z i = none := by
    rintro j i m hj ⟨z0, c0, hR⟩ e hz
    simp only [overF, hz]
    rw [if_neg]
    rintro ⟨j', hj', fz, z, c, m', h1, h2⟩
    cases fz with
    | false =>
      have := I.dist _ _ _ _ _ _ _ _ _ h1 hR h2 e
      subst this
      exact hd2 _ hj hj'
    | true =>
      have RO := I.row _ _ _ _ h1
      unfold RowOk at RO
      rw [h2] at RO
      obtain ⟨_, b, _, _, _, _, _, b7⟩ := RO
      simp only [FzOk] at b7
      rw [hz] at b7; cases b7
  refine ⟨⟨by simp [overF, hN], by simp [overF, hB], hbox, fun i i' hi hi' e => hinj i i' hi hi' (I.bdist _ _ (hnb i hi) (hnb i' hi') e), fun i k e => ?_, fun j fz z c e => ?_, fun j j' z c z' c' i m m' e1 e2 r1 r2 => ?_⟩,
    ⟨fun _ _ _ => rfl, Nat.le_refl _, fun _ _ _ => rfl, Nat.le_refl _, fun i w => ?_, fun i hi => .inl ⟨f i, hnb i hi, rfl⟩, zn⟩⟩
  · simp only [overF] at e
    split at e
    · rename_i k' e'
      cases e
      exact I.z i _ e'
    · split at e
      · exact e
      · cases e
  · obtain ⟨o, ho, rfl, z', c', h1, h2⟩ := at_ e
    cases h1
    unfold RowOk
    simp only [overF, ho]
    cases o with
    | none => exact ⟨h2.len, h2⟩
    | some j0 =>
      obtain ⟨hl, hlen, h2⟩ := h2
      refine ⟨hlen, ?_⟩
      cases e0 : (X.R j0).1 with
      | none => rw [e0] at h2; exact h2
      | some p =>
        obtain ⟨i, m⟩ := p
        rw [e0] at h2
        obtain ⟨b, b1, b2, b3, b4, b5, b6⟩ := h2
        refine ⟨b, b1, b2, b3, by rw [b4]; exact Nat.le_refl _, by rw [b4, List.take_length]; exact b6, ?_, b4⟩
        exact free j0 i m (List.mem_of_getElem? ho) hl e0 b5
  · obtain ⟨o, ho, _, _, _, _, h2⟩ := at_ e1
    obtain ⟨o', ho', _, _, _, _, h2'⟩ := at_ e2
    simp only [overF, ho] at r1
    simp only [overF, ho'] at r2
    cases o with
    | none => cases r1
    | some j0 => cases o' with
      | none => cases r2
      | some j0' =>
        obtain ⟨⟨z0, c0, l0⟩, _⟩ := h2
        obtain ⟨⟨z1, c1, l1⟩, _⟩ := h2'
        have := I.dist _ _ _ _ _ _ _ _ _ l0 l1 r1 r2
        subst this
        exact hd1 _ _ _ ho ho'
  · obtain ⟨j, z, c, m, h1, h2⟩ := w
    obtain ⟨o, ho, _, _, _, _, h3⟩ := at_ h1
    simp only [overF, ho] at h2
    cases o with
    | none => cases h2
    | some j0 =>
      obtain ⟨⟨z0, c0, l0⟩, _⟩ := h3
      exact .inl ⟨j0, z0, c0, m, l0, h2⟩

noncomputable abbrev overT (X : RX) (h : SH) (dh : Hp) (js : List (Option Nat)) (seen : List Nat) (nb : Nat) : RX := overF id X h dh js seen nb
theorem overT_z {X : RX} {h : SH} {dh : Hp} (I : Inv X h dh) {js : List (Option Nat)} {seen : List Nat} {nb : Nat} : Over X (overT X h dh js seen nb) h dh seen := overF_z I
theorem over_inv {X : RX} {h : SH} {dh : Hp} (I : Inv X h dh) {js : List (Option Nat)} {seen : List Nat} {nb : Nat} {N : List RB} {B : List (List SV)}
    (hd1 : ∀ (a b : Nat) (j : Nat), js[a]? = some (some j) → js[b]? = some (some j) → a = b) (hd2 : ∀ j, some j ∈ js → j ∉ seen)
    (hN : N.length = js.length) (hrow : ∀ (k : Nat) (rb : RB) (o : Option Nat), N[k]? = some rb → js[k]? = some o → RowNew X (overT X h dh js seen nb) h dh o rb)
    (hB : B.length = nb) (hbox : ∀ q cs, B[q]? = some cs → ∃ z ds, dh.B[X.bi q]? = some ⟨X.bm q, z, [ds]⟩ ∧ RVs (overT X h dh js seen nb) cs ds) (hnb : nb ≤ X.nb) :
    Inv (overT X h dh js seen nb) ⟨B, N⟩ dh ∧ Step X h dh (overT X h dh js seen nb) ⟨B, N⟩ dh :=
  over_invF (f := id) I hd1 hd2 hN hrow hB hbox (fun q hq => Nat.lt_of_lt_of_le hq hnb) (fun _ _ _ _ e => e)

theorem fix_over {X Y : RX} (hb : Y.bi = X.bi ∧ Y.bm = X.bm) (v v' : SV) (d : DV) (hs : u1B v v' = true) (hi : ∀ i o, v = .ptr i o → i < Y.nb) (k : RV X v' d) : RV Y v d := by
  unfold u1B at hs
  split at hs <;> first
    | (simp only [RV] at k ⊢; exact k)
    | skip
  · rename_i i o i' o'
    simp only [Bool.and_eq_true, beq_iff_eq] at hs
    obtain ⟨rfl, rfl⟩ := hs
    simp only [RV] at k ⊢
    exact ⟨hi _ _ rfl, by rw [hb.1, hb.2]; exact k.2⟩
  · rename_i f g
    have : f = g := by simpa using hs
    subst this
    simp only [RV, RVs] at k ⊢
    obtain ⟨ds, rfl, k⟩ := k
    cases ds with
    | nil => exact ⟨[], rfl, trivial⟩
    | cons _ _ => exact k.elim
  · simp [RV]
  · cases hs

theorem u60 : ∀ {boxes : List (List G)} {B : List (List SV)} {bs : List (List SV)}, u1D boxes B = some bs → boxes.length ≤ B.length
  | [], _, _, _ => Nat.zero_le _
  | g :: r, [], _, h => by simp [u1D] at h
  | g :: r, b :: B, _, h => by
    simp only [u1D] at h
    split at h
    · rw [Option.map_eq_some_iff] at h
      obtain ⟨l, h1, _⟩ := h
      simp [u60 h1]
    · cases h

theorem decT_ok {X : RX} {h : SH} {dh : Hp} {l : List SV} {dl : List DV} {t : Tm} {x : St t} (I : Inv X h dh) (L : RVs X l dl) (e : decT t l h = some x) :
    ∃ Y, Inv Y (enc l.length t x).2 dh ∧ RVs Y (enc l.length t x).1 dl ∧ Step X h dh Y (enc l.length t x).2 dh ∧ Y.nb = t.boxes.length ∧ Y.bi = X.bi ∧ Y.bm = X.bm := by
  unfold decT at e
  split at e
  case h_2 => cases e
  rename_i cs bs hc hb
  split at e
  case isFalse => cases e
  rename_i hfl
  obtain ⟨Ds, s1, s2⟩ := u2R L hc
  obtain ⟨Bs, b1, b2⟩ := u4I I (i := 0) (by simpa using hb)
  have hk : RVss X (cs ++ bs) (Ds ++ Bs) := RRows.append s1 b1
  let Y := overT X h dh (ownJs t.gs (cs ++ bs)) (u24 h t.gs (cs ++ bs)) t.boxes.length
  obtain ⟨g1, g2⟩ := toRGs (X := X) (Y := Y) (fix_over (X := X) (Y := Y) ⟨rfl, rfl⟩) e hfl hk
  have ov := overT_z I (js := ownJs t.gs (cs ++ bs)) (seen := u24 h t.gs (cs ++ bs)) (nb := t.boxes.length)
  obtain ⟨vs, N, e1, e2, e3, e4⟩ := encG_ok I ov.z (R := []) e g1 ov (fun k o hko => by
    refine ⟨by simpa [overT, overF] using u02 hko, ?_⟩
    simp only [overT, overF, List.length_nil, Nat.zero_add, hko]
    cases o <;> rfl)
  rw [List.nil_append] at e1
  obtain ⟨_, d2, d3⟩ := decG_disj e
  have hfix : ∀ v, G.fix v ∈ u14 t.slots ++ t.boxes.flatten → v.isAgg = false := g2
  obtain ⟨y1, y2⟩ := u5F (Y := Y) (l0 := List.replicate l.length .undef) hfix e2 s2 (by
    refine RVs.mk (by rw [List.length_replicate, L.length]) fun n v d h1 _ => ?_
    rw [List.getElem?_replicate] at h1
    split at h1
    · cases h1; simp [RV]
    · cases h1)
  obtain ⟨z1, z2⟩ := layB_ok (fun v hv => hfix v (List.mem_append_right _ hv)) y2 b2
  have hen : enc l.length t x = (layS t.slots (u1l t.slots vs).1 (List.replicate l.length .undef), ⟨layB t.boxes (u1l t.slots vs).2, N⟩) := by
    simp only [enc]; rw [e1]
  rw [hen]
  obtain ⟨i1, i2⟩ := over_inv I (B := layB t.boxes (u1l t.slots vs).2) d2 (fun j hj => (d3 j (.inr hj)).2) e3 e4 z1 (fun q cs hq => by simpa using z2 q cs hq) (by rw [← I.nb]; exact u60 hb)
  exact ⟨Y, i1, y1, i2, rfl, rfl, rfl⟩

end Go.Dv
