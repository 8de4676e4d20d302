/- The engine, second storey: an operation that leaves the memory as it is comes to what the first storey's comes to. -/
import Derived.Test.YtjjhppjdnbahjaaGreatDvE
set_option linter.unusedVariables false
set_option linter.unusedSimpArgs false
namespace Go.Dv

theorem T.sem_br {α : Type} {b : Bool} {t f : T α} {v : α} (h : (T.br b t f).sem = some v) : (b = true ∧ t.sem = some v) ∨ (b = false ∧ f.sem = some v) := by
  cases b
  · exact .inr ⟨rfl, h⟩
  · exact .inl ⟨rfl, h⟩
theorem T.sem_ask {α ρ : Type} {o : Option ρ} {k : ρ → T α} {v : α} (h : (T.ask ρ o k).sem = some v) : ∃ x, o = some x ∧ (k x).sem = some v := by
  cases o with
  | none => simp [T.sem, ob] at h
  | some x => exact ⟨x, rfl, h⟩
theorem T.sem_ret {α : Type} {a v : α} (h : (T.ret a).sem = some v) : v = a := by simp only [T.sem, Option.some.injEq] at h; exact h.symm
theorem T.sem_fail {α : Type} {v : α} (h : (T.fail : T α).sem = some v) : False := by simp [T.sem] at h
theorem T.sem_bind {α β : Type} : ∀ {t : T α} {k : α → T β} {v : β}, (t.bind k).sem = some v → ∃ a, t.sem = some a ∧ (k a).sem = some v
  | .ret a, k, v, h => ⟨a, rfl, h⟩
  | .fail, k, v, h => (T.sem_fail h).elim
  | .br b t f, k, v, h => by
    rcases T.sem_br h with ⟨rfl, h⟩ | ⟨rfl, h⟩
    · exact T.sem_bind (t := t) h
    · exact T.sem_bind (t := f) h
  | .ask ρ o g, k, v, h => by
    obtain ⟨x, rfl, h⟩ := T.sem_ask h
    exact T.sem_bind (t := g x) h
  | .cs a b x f g, k, v, h => by
    cases x with
    | inl x => exact T.sem_bind (t := f x) h
    | inr x => exact T.sem_bind (t := g x) h
theorem T.sem_ofO {α : Type} {o : Option α} {v : α} (h : (T.ofO o).sem = some v) : o = some v := by
  cases o with
  | none => exact (T.sem_fail h).elim
  | some a => rw [T.sem_ret h]

theorem intsOf_ok {k : IntKind} : ∀ {xs : List (List DV)} {l : List Int}, intsOf k xs = some l → RRows (RE (.int k)) l xs
  | [], l, h => by simp only [intsOf, Option.some.injEq] at h; subst h; trivial
  | r :: xs, l, h => by
    unfold intsOf at h
    split at h
    · rename_i heq; cases heq
    · rename_i k' n r' heq
      simp only [List.cons.injEq] at heq
      obtain ⟨rfl, rfl⟩ := heq
      split at h
      · rename_i hk
        subst hk
        rw [Option.map_eq_some_iff] at h
        obtain ⟨l', h1, rfl⟩ := h
        exact ⟨by simp [RE], intsOf_ok h1⟩
      · cases h
    · cases h
theorem ofDV_ok {X : RX} (v : DV) : RV X (ofDV v) v := by
  have cell : ∀ c : DV, RV X (match c with
    | .bool true => SV.tt
    | .bool false => .ff
    | .int k n => .int k n
    | .str s => .str s
    | .nilp => .nilp
    | .nils => .nil
    | _ => .undef) c := by
    intro c
    split <;> simp [RV]
  unfold ofDV
  split <;> first
    | (simp [RV]; done)
    | skip
  · split
    · rename_i hl
      simp only [RV]
      exact .inr ⟨_, rfl, intsOf_ok hl⟩
    · simp [RV]
  · rename_i f cap
    cases cap with
    | nil => exact ⟨[], rfl, by simp [RVs]⟩
    | cons _ _ => simp [RV]
  · rename_i cs
    refine ⟨cs, rfl, ?_⟩
    induction cs with
    | nil => simp [RVs]
    | cons c cs ih => simp only [List.map_cons, RVs]; exact ⟨cell c, ih⟩
theorem sv_ok {X : RX} {l : List SV} {dl : List DV} (L : RVs X l dl) (x : Opd) : RV X (x.sv l) (x.ev dl) := by
  cases x with
  | tmp t => exact L.gs t
  | val v => exact ofDV_ok v
  | frz t =>
    have h := L.gs t
    simp only [Opd.sv, Opd.ev]
    cases hv : Go.Dv.gs l t with
    | lst s xs =>
      rw [hv] at h
      simp only [SV.fzn]
      have h2 := h
      simp only [RV] at h2
      rcases h2 with ⟨e, _⟩ | ⟨rows, e, _⟩ <;> rw [e] at h ⊢ <;> exact h
    | nil => rw [hv] at h; simp only [RV] at h; rw [h]; simp [SV.fzn, DV.fzn, RV]
    | str s => rw [hv] at h; simp only [RV] at h; rw [h]; simp [SV.fzn, DV.fzn, RV]
    | _ => simp [SV.fzn, RV]
theorem svs_ok {X : RX} {l : List SV} {dl : List DV} (L : RVs X l dl) : ∀ (xs : List Opd), RVs X (xs.map fun x => Opd.sv l x) (xs.map fun x => Opd.ev dl x)
  | [] => by simp [RVs]
  | x :: xs => by simp only [List.map_cons, RVs]; exact ⟨sv_ok L x, svs_ok L xs⟩
theorem RV.int {X : RX} {k : IntKind} {n : Int} {d : DV} (h : RV X (.int k n) d) : d = .int k n := by simpa only [RV] using h
theorem RV.str {X : RX} {s : ByteArray} {d : DV} (h : RV X (.str s) d) : d = .str s := by simpa only [RV] using h
theorem RV.cellsOf {X : RX} {v : SV} {d : DV} (hv : v ≠ .undef) (h : RV X v d) : RVs X v.cells d.cells := by
  cases v with
  | undef => exact absurd rfl hv
  | agg cs => simp only [RV] at h; obtain ⟨ds, rfl, h⟩ := h; exact h
  | tt | ff | bool _ | int _ _ | str _ | nilp | nil => simp only [RV] at h; subst h; simp only [SV.cells, DV.cells, RVs, RV]; exact ⟨trivial, trivial⟩
  | lst s l =>
    have h' := h
    simp only [RV] at h
    rcases h with ⟨rfl, _⟩ | ⟨_, rfl, _⟩ <;> (simp only [SV.cells, DV.cells, RVs]; exact ⟨h', trivial⟩)
  | vw v s l =>
    have h' := h
    simp only [RV] at h
    rcases h.toW with (⟨rfl, _⟩ | ⟨_, rfl, _⟩) | ⟨_, _, _, _, rfl, _⟩ <;> (simp only [SV.cells, DV.cells, RVs]; exact ⟨h', trivial⟩)
  | own j =>
    have h' := h
    simp only [RV] at h
    obtain ⟨_, h⟩ := h
    split at h
    · obtain ⟨rfl, _⟩ := h; simp only [SV.cells, DV.cells, RVs]; exact ⟨h', trivial⟩
    · subst h; simp only [SV.cells, DV.cells, RVs]; exact ⟨h', trivial⟩
  | ptr i o => have h' := h; simp only [RV] at h; obtain ⟨_, rfl⟩ := h; simp only [SV.cells, DV.cells, RVs]; exact ⟨h', trivial⟩
  | ep j n o => have h' := h; simp only [RV] at h; obtain ⟨_, _, _, _, _, _, rfl⟩ := h; simp only [SV.cells, DV.cells, RVs]; exact ⟨h', trivial⟩
  | fp cs => have h' := h; simp only [RV] at h; rcases h with ⟨_, rfl, _⟩ | ⟨_, _, _, _, _, _, rfl, _⟩ <;> (simp only [SV.cells, DV.cells, RVs]; exact ⟨h', trivial⟩)
  | fn f cap => have h' := h; simp only [RV] at h; obtain ⟨_, rfl, _⟩ := h; simp only [SV.cells, DV.cells, RVs]; exact ⟨h', trivial⟩
  | tup vs => have h' := h; simp only [RV] at h; obtain ⟨_, rfl, _⟩ := h; simp only [SV.cells, DV.cells, RVs]; exact ⟨h', trivial⟩
theorem RV.isCell {X : RX} {v : SV} {d : DV} (hv : v.isCell = true) (h : RV X v d) : d.isCell = true := by
  cases v with
  | undef | agg _ | tup _ => simp [SV.isCell] at hv
  | tt | ff | bool _ | int _ _ | str _ | nilp | nil => simp only [RV] at h; subst h; rfl
  | lst s l => simp only [RV] at h; exact h.still.2
  | vw v s l => simp only [RV] at h; rcases h.toW with h | ⟨_, _, _, _, rfl, _⟩ <;> first | exact h.still.2 | rfl
  | own j =>
    simp only [RV] at h
    obtain ⟨_, h⟩ := h
    split at h
    · obtain ⟨rfl, _⟩ := h; rfl
    · subst h; rfl
  | ptr i o => simp only [RV] at h; obtain ⟨_, rfl⟩ := h; rfl
  | ep j n o => simp only [RV] at h; obtain ⟨_, _, _, _, _, _, rfl⟩ := h; rfl
  | fp cs => simp only [RV] at h; rcases h with ⟨_, rfl, _⟩ | ⟨_, _, _, _, _, _, rfl, _⟩ <;> rfl
  | fn f cap => simp only [RV] at h; obtain ⟨_, rfl, _⟩ := h; rfl
theorem RVs.allCell {X : RX} : ∀ {vs : List SV} {ds : List DV}, vs.all SV.isCell = true → RVs X vs ds → ds.all DV.isCell = true
  | [], [], _, _ => rfl
  | [], _ :: _, _, h => by simp [RVs] at h
  | _ :: _, [], _, h => by simp [RVs] at h
  | v :: vs, d :: ds, hv, h => by
    simp only [List.all_cons, Bool.and_eq_true] at hv ⊢
    simp only [RVs] at h
    exact ⟨h.1.isCell hv.1, RVs.allCell hv.2 h.2⟩
theorem put_ok {X : RX} {v : SV} {d : DV} (hv : v.cells.all SV.isCell = true) (h : RV X v d) : RVs X v.cells d.cells ∧ d.cells.all DV.isCell = true := by
  have hu : v ≠ .undef := by rintro rfl; simp [SV.cells, SV.isCell] at hv
  exact ⟨h.cellsOf hu, RVs.allCell hv (h.cellsOf hu)⟩

theorem sInt_ok {X : RX} {op : BinOp} {k : IntKind} {a b : Int} {v : SV} (h : (sInt op k a b).sem = some v) : ∃ d, intOp op k a b = some d ∧ RV X v d := by
  cases op <;> simp only [sInt] at h <;> first
    | exact (T.sem_fail h).elim
    | (rw [T.sem_ret h]; exact ⟨_, rfl, by simp [RV]⟩)
    | (rcases T.sem_br h with ⟨hb, h⟩ | ⟨hb, h⟩
       · exact (T.sem_fail h).elim
       · rw [T.sem_ret h]
         have : ¬ b = 0 := by simpa using hb
         exact ⟨_, by simp only [intOp]; rw [if_neg this], by simp [RV]⟩)
theorem sShift_ok {X : RX} {op : BinOp} {k : IntKind} {a b : Int} {v : SV} (h : (sShift op k a b).sem = some v) : ∃ d, u6v op k a b = some d ∧ RV X v d := by
  cases op <;> simp only [sShift] at h <;> first
    | exact (T.sem_fail h).elim
    | (rcases T.sem_br h with ⟨hb, h⟩ | ⟨hb, h⟩
       · exact (T.sem_fail h).elim
       · rw [T.sem_ret h]
         have : ¬ b < 0 := by simpa using hb
         exact ⟨_, by simp only [u6v]; rw [if_neg this], by simp [RV]⟩)
theorem sStr_ok {X : RX} {op : BinOp} {a b : ByteArray} {v : SV} (h : (sStr op a b).sem = some v) : ∃ d, strOp op a b = some d ∧ RV X v d := by
  cases op <;> simp only [sStr] at h <;> first
    | exact (T.sem_fail h).elim
    | (rw [T.sem_ret h]; exact ⟨_, rfl, by simp [RV]⟩)
    | (rcases T.sem_br h with ⟨hb, h⟩ | ⟨hb, h⟩
       · exact (T.sem_fail h).elim
       · rw [T.sem_ret h]
         have : ¬ ((a.size + b.size : Nat) : Int) > IntKind.i64.max := by simpa using hb
         exact ⟨.str (a ++ b), by simp only [strOp, if_neg this], by simp [RV]⟩)
theorem sBin_ok {X : RX} {op : BinOp} {x y v : SV} {p q : DV} (h : (sBin op x y).sem = some v) (hx : RV X x p) (hy : RV X y q) : ∃ d, binOp op p q = some d ∧ RV X v d := by
  unfold sBin at h
  split at h
  · rw [hx.int, hy.int]
    unfold binOp
    split at h
    · exact sShift_ok h
    · exact sShift_ok h
    · rename_i h1 h2
      split at h
      · rename_i hk
        subst hk
        obtain ⟨d, h3, h4⟩ := sInt_ok (X := X) h
        refine ⟨d, ?_, h4⟩
        cases op <;> first
          | exact absurd rfl h1
          | exact absurd rfl h2
          | simpa using h3
      · exact (T.sem_fail h).elim
  · rw [hx.str, hy.str]
    exact sStr_ok h
  · exact (T.sem_fail h).elim
theorem u67 {X : RX} {v : SV} {d : DV} {b : Bool} (h : v.truth = some b) (k : RV X v d) : d = .bool b := by
  cases v <;> simp [SV.truth] at h <;> subst h <;> simpa only [RV] using k
theorem sCell_ok {X : RX} {k : CK} {x y : SV} {p q : DV} {b : Bool} (h : sCell k x y = some b) (hx : RV X x p) (hy : RV X y q) : u5X k p q = some b := by
  unfold sCell at h
  split at h
  · rw [hx.int, hy.int]; exact h
  · rw [hx.str, hy.str]; exact h
  · split at h
    · rename_i a b h1 h2
      rw [u67 h1 hx, u67 h2 hy]
      exact h
    · cases h
  · cases h
theorem u4c : ∀ {ks : List CK} {l m : List SV} {b : Bool}, u2u ks l m = some b → l.length = ks.length ∧ m.length = ks.length
  | [], [], [], _, _ => ⟨rfl, rfl⟩
  | [], [], _ :: _, _, h => by simp [u2u] at h
  | [], _ :: _, _, _, h => by simp [u2u] at h
  | _ :: _, [], _, _, h => by simp [u2u] at h
  | _ :: _, _ :: _, [], _, h => by simp [u2u] at h
  | [k], [a], [b], _, _ => ⟨rfl, rfl⟩
  | [k], [a], _ :: _ :: _, _, h => by simp [u2u] at h
  | [k], a :: b :: l, c :: m, _, h => by
    unfold u2u at h
    split at h <;> simp_all [u2u]
  | k :: k' :: ks, a :: l, b :: m, _, h => by
    simp only [u2u] at h
    split at h
    · rename_i x y h1 h2
      have := u4c h2
      simp [this.1, this.2]
    · cases h
theorem sCells_ok {X : RX} : ∀ {ks : List CK} {l m : List SV} {p q : List DV} {b : Bool}, u2u ks l m = some b → RVs X l p → RVs X m q → u0B ks p q = some b
  | [], [], [], [], [], b, h, _, _ => by simp [u2u] at h; subst h; rfl
  | [], [], [], _ :: _, _, _, _, h, _ => by simp [RVs] at h
  | [], [], [], _, _ :: _, _, _, _, h => by simp [RVs] at h
  | ks, a :: l, m, [], _, _, _, h, _ => by simp [RVs] at h
  | ks, l, a :: m, _, [], _, _, _, h => by simp [RVs] at h
  | [], [], _ :: _, _, _, _, h, _, _ => by simp [u2u] at h
  | [], _ :: _, _, _, _, _, h, _, _ => by simp [u2u] at h
  | _ :: _, [], _, _, _, _, h, _, _ => by simp [u2u] at h
  | _ :: _, _ :: _, [], _, _, _, h, _, _ => by simp [u2u] at h
  | [k], [a], [c], [p], [q], b, h, hp, hq => by
    simp only [u2u] at h
    simp only [RVs] at hp hq
    simp only [u0B, sCell_ok h hp.1 hq.1]
    cases b <;> simp
  | [k], [a], [c], _ :: _ :: _, _, b, h, hp, hq => by simp [RVs] at hp
  | [k], [a], [c], _, _ :: _ :: _, b, h, hp, hq => by simp [RVs] at hq
  | [k], [a], _ :: _ :: _, _, _, _, h, _, _ => by have := u4c h; simp at this
  | [k], _ :: _ :: _, _, _, _, _, h, _, _ => by have := u4c h; simp at this
  | k :: k' :: ks, a :: l, c :: m, p :: pl, q :: ql, b, h, hp, hq => by
    simp only [u2u] at h
    split at h
    · rename_i x y h1 h2
      cases h
      simp only [RVs] at hp hq
      have e1 := sCell_ok h1 hp.1 hq.1
      have e2 := sCells_ok h2 hp.2 hq.2
      have e3 := u4c h2
      rw [u0B, e1]
      cases x
      · simp [← hp.2.length, ← hq.2.length, e3.1, e3.2]
      · simp only [Bool.true_and]; exact e2
    · cases h
theorem sEqv_ok {X : RX} {k : EqK} {x y : SV} {p q : DV} {b : Bool} (h : sEqv k x y = some b) (hx : RV X x p) (hy : RV X y q) : eqv k p q = some b := by
  unfold sEqv at h
  split at h
  · simp only [RV] at hx hy
    obtain ⟨ds, rfl, hx⟩ := hx
    obtain ⟨es, rfl, hy⟩ := hy
    exact sCells_ok h hx hy
  · unfold eqv; exact sCell_ok h hx hy
  all_goals first
    | (cases h; done)
    | (cases h
       simp only [RV] at hx hy
       first
         | (subst hx hy; rfl)
         | (subst hx; obtain ⟨_, rfl⟩ := hy; rfl)
         | (subst hx; obtain ⟨_, _, _, _, _, _, rfl⟩ := hy; rfl)
         | (subst hx; rcases hy with ⟨_, rfl, _⟩ | ⟨_, _, _, _, _, _, rfl, _⟩ <;> rfl)
         | (subst hy; obtain ⟨_, rfl⟩ := hx; rfl)
         | (subst hy; obtain ⟨_, _, _, _, _, _, rfl⟩ := hx; rfl)
         | (subst hy; rcases hx with ⟨_, rfl, _⟩ | ⟨_, _, _, _, _, _, rfl, _⟩ <;> rfl))
theorem sUn_ok {X : RX} {op : UnOp} {x v : SV} {p : DV} (h : (sUn op x).sem = some v) (hx : RV X x p) : ∃ d, unOp op p = some d ∧ RV X v d := by
  unfold sUn at h
  split at h
  · rw [hx.int]
    split at h
    · rw [T.sem_ret h]; exact ⟨_, rfl, by simp [RV]⟩
    · exact sInt_ok h
    · exact (T.sem_fail h).elim
  all_goals first
    | exact (T.sem_fail h).elim
    | (simp only [RV] at hx
       subst hx
       split at h
       · rw [T.sem_ret h]; exact ⟨_, rfl, by simp [RV]⟩
       · exact (T.sem_fail h).elim)
theorem sPick_ok {X : RX} {c a b v : SV} {p q r : DV} (h : (sPick c a b).sem = some v) (hc : RV X c p) (ha : RV X a q) (hb : RV X b r) : ∃ b', p = .bool b' ∧ RV X v (if b' then q else r) := by
  unfold sPick at h
  split at h
  · simp only [RV] at hc; rw [T.sem_ret h]; exact ⟨true, hc, by simpa using ha⟩
  · simp only [RV] at hc; rw [T.sem_ret h]; exact ⟨false, hc, by simpa using hb⟩
  · rename_i x
    simp only [RV] at hc
    refine ⟨x, hc, ?_⟩
    split at h
    · split at h
      · rename_i a' e
        rw [T.sem_ret h]
        have := u67 e ha
        simp only [RV] at hb ⊢
        cases x <;> simp [hb, this]
      · exact (T.sem_fail h).elim
    · split at h
      · split at h
        · rename_i b' e
          rw [T.sem_ret h]
          have := u67 e hb
          simp only [RV] at ha ⊢
          cases x <;> simp [ha, this]
        · exact (T.sem_fail h).elim
      · rcases T.sem_br h with ⟨rfl, h⟩ | ⟨rfl, h⟩
        · rw [T.sem_ret h]; simpa using ha
        · rw [T.sem_ret h]; simpa using hb
  · exact (T.sem_fail h).elim

theorem u4S {X : RX} : ∀ {vs : List SV} {ds : List DV} {cs : List SV} {es : List DV} {off : Nat}, RVs X vs ds → RVs X cs es → RVs X (sover cs off vs) (u07 es off ds)
  | [], [], _, _, _, _, k => k
  | [], _ :: _, _, _, _, h, _ => by simp [RVs] at h
  | _ :: _, [], _, _, _, h, _ => by simp [RVs] at h
  | v :: vs, d :: ds, cs, es, off, h, k => by
    simp only [RVs] at h
    simp only [sover, u07]
    exact u4S h.2 (RVs.set h.1 off k)
theorem sfill_ok {X : RX} : ∀ {ps : List (Nat × List SV)} {qs : List (Nat × List DV)} {cs : List SV} {es : List DV} {r : List SV}, sfill cs ps = some r → RVs X cs es →
    ps.length = qs.length → (∀ (i : Nat) (p : Nat × List SV) (q : Nat × List DV), ps[i]? = some p → qs[i]? = some q → p.1 = q.1 ∧ RVs X p.2 q.2) → ∃ r', fill es qs = some r' ∧ RVs X r r'
  | [], [], cs, es, r, h, k, _, _ => by simp [sfill] at h; subst h; exact ⟨es, rfl, k⟩
  | [], _ :: _, _, _, _, _, _, h, _ => by simp at h
  | _ :: _, [], _, _, _, _, _, h, _ => by simp at h
  | (off, vs) :: ps, (off', ds) :: qs, cs, es, r, h, k, hl, hp => by
    simp only [sfill] at h
    split at h
    · rename_i hc
      obtain ⟨h1, h2⟩ := hp 0 _ _ rfl rfl
      simp only at h1 h2
      subst h1
      have : off + ds.length ≤ es.length := by rw [← h2.length, ← k.length]; exact hc
      simp only [fill, if_pos this]
      exact sfill_ok h (u4S h2 k) (by simpa using hl) fun i p q hi hj => hp (i + 1) p q (by simpa using hi) (by simpa using hj)
    · cases h
theorem sOf_ok {X : RX} {z : Option Nat} {cs : List SV} {v : SV} {ds : List DV} (h : (sOf z cs).sem = some v) (k : RVs X cs ds) :
    (∃ n, z = some n ∧ 0 < n ∧ n ≤ ds.length ∧ RV X v (.agg (ds.take n))) ∨ (z = none ∧ ∃ d r, ds = d :: r ∧ RV X v d) := by
  unfold sOf at h
  split at h
  · rename_i n
    split at h
    · rename_i hn
      rw [T.sem_ret h]
      exact .inl ⟨n, rfl, hn.1, by rw [← k.length]; exact hn.2, _, rfl, k.take n⟩
    · exact (T.sem_fail h).elim
  · split at h
    · rename_i v' r
      rw [T.sem_ret h]
      obtain ⟨d, dr, rfl, k1, _⟩ := u0A k
      exact .inr ⟨rfl, d, dr, rfl, k1⟩
    · exact (T.sem_fail h).elim
theorem getI_ok {α : Type} {l : List α} {n : Int} {x : α} (h : getI l n = some x) : 0 ≤ n ∧ l[n.toNat]? = some x := by
  unfold getI at h
  split at h
  · rename_i hn; exact ⟨hn, h⟩
  · cases h

end Go.Dv
/- The engine, second storey: an operation that leaves the memory as it is. -/
set_option linter.unusedVariables false
set_option linter.unusedSimpArgs false
namespace Go.Dv

def QOk (K : Oracle) (f : FuncId) (fl : Bool) (run : List SV → SH → T SV) : Prop :=
  ∀ (X : RX) (h : SH) (dh : Hp) (as : List SV) (das dcap : List DV) (v : SV), (fl = true ∨ dcap = []) → Inv X h dh → RVs X as (das ++ dcap) → (run as h).sem = some v →
    ∃ d, RV X v d ∧ K.k (.fn f dcap) das dh = some (d, dh) ∧ (u0e dh 8 (.fn f dcap) && das.all (u0e dh 8)) = true ∧ K.q (res dh 8 (.fn f dcap)) (das.map (res dh 8)) = some d ∧
      (d.flat || ((DV.fn f dcap).still && das.all DV.still)) = true
def KOk (K : Oracle) (f : FuncId) (run : List SV → SH → T (SV × SH)) : Prop :=
  ∀ (X : RX) (h : SH) (dh : Hp) (as : List SV) (das dcap : List DV) (v : SV) (h' : SH), dcap = [] → Inv X h dh → RVs X as (das ++ dcap) → (run as h).sem = some (v, h') →
    ∃ d dh' X', K.k (.fn f dcap) das dh = some (d, dh') ∧ X.le X' ∧ Inv X' h' dh' ∧ RV X' v d ∧ Step X h dh X' h' dh' ∧
      ∀ i, i < X.nb → (∀ o, SV.ptr i o ∉ as) → dh'.B[X.bi i]? = dh.B[X.bi i]?
def WOk (K : Oracle) (f : FuncId) (s : Sh) : Prop := ∀ (X : RX) (dh : Hp) (d : DV) (y : El s), (∀ i k, X.z i = some k → dh.R[i]? = some k) → RW X true s y d.cells → (s.isAgg = true → ∃ ds, d = .agg ds) → (s.isAgg = false → d.cells = [d]) → small s y = true →
  ∃ dh', K.k (.fn f []) [d] dh = some (.tup [], dh') ∧ ∀ q, q < dh.B.length → dh'.B[q]? = dh.B[q]?
def u00 (K : Oracle) (f : FuncId) : Spec → Prop
  | .q fl run => QOk K f fl run
  | .k run => KOk K f run
  | .w s => WOk K f s
def u0F (K : Oracle) (sp : Specs) : Prop := ∀ f s, sp f = some s → u00 K f s

theorem u53 {X : RX} {h : SH} {dh : Hp} (I : Inv X h dh) {j : Nat} {d : DV} (k : RV X (.own j) d) {fz : Bool} {z : Nat} {c : RC} (hR : h.R[j]? = some (.live fz z c)) :
    (d = .nils ∧ c.len = 0 ∧ RCon X z c []) ∨ ∃ i m b, d = .sl i m 0 c.len ∧ (X.R j).1 = some (i, m) ∧ dh.R[i]? = some b ∧ b.s = m ∧ b.z = z ∧ c.len ≤ b.xs.length ∧ RCon X z c (b.xs.take c.len) := by
  have R := I.row _ _ _ _ hR
  unfold RowOk at R
  obtain ⟨r1, r2⟩ := R
  simp only [RV] at k
  cases e : (X.R j).1 with
  | none =>
    rw [e] at k r2
    exact .inl ⟨k.2.1, by rw [r1]; exact k.2.2, r2⟩
  | some q =>
    obtain ⟨i, m⟩ := q
    rw [e] at k r2
    obtain ⟨b, b1, b2, b3, b4, b5, _⟩ := r2
    exact .inr ⟨i, m, b, by rw [k.2, r1], rfl, b1, b2, b3, b4, b5⟩
theorem u5f {dh : Hp} {i m off len z : Nat} {b : Blk} (h1 : dh.R[i]? = some b) (h2 : b.s = m) (h3 : b.z = z) (h4 : off + len ≤ b.xs.length) : elems dh z (.sl i m off len) = some ((b.xs.drop off).take len) := by
  simp only [elems, u0x h1 h2, h3, h4, and_self, if_true]
theorem ep_at {X : RX} {h : SH} {dh : Hp} (I : Inv X h dh) {j : Nat} {n : Int} {o : Nat} {d : DV} (k : RV X (.ep j n o) d) {fz : Bool} {z : Nat} {c : RC} (hR : h.R[j]? = some (.live fz z c)) :
    ∃ i m b, d = .ptr true i m n.toNat o ∧ 0 ≤ n ∧ n.toNat < c.len ∧ (X.R j).1 = some (i, m) ∧ dh.R[i]? = some b ∧ b.s = m ∧ b.z = z ∧ c.len ≤ b.xs.length ∧ RCon X z c (b.xs.take c.len) ∧ FzOk X i b c.len fz := by
  have R := I.row _ _ _ _ hR
  unfold RowOk at R
  obtain ⟨r1, r2⟩ := R
  simp only [RV] at k
  obtain ⟨_, k1, k2, i, m, k3, k4⟩ := k
  rw [k3] at r2
  obtain ⟨b, b1, b2, b3, b4, b5, b6⟩ := r2
  exact ⟨i, m, b, k4, k1, by rw [r1]; exact k2, k3, b1, b2, b3, b4, b5, b6⟩

theorem sBound_ok {X : RX} {l : List SV} {dl : List DV} (L : RVs X l dl) {x : Option Opd} {d a : Int} (h : u3N (x.map (·.sv l)) d = some a) :
    (x = none ∧ a = d) ∨ ∃ y k, x = some y ∧ y.ev dl = .int k a := by
  cases x with
  | none => simp only [Option.map_none, u3N, Option.some.injEq] at h; exact .inl ⟨rfl, h.symm⟩
  | some y =>
    simp only [Option.map_some] at h
    have q := sv_ok L y
    cases e : y.sv l <;> rw [e] at h q <;> simp only [u3N, reduceCtorEq, Option.some.injEq] at h
    subst h
    exact .inr ⟨y, _, rfl, q.int⟩

theorem u3H {α : Type} {l : List α} {n i : Nat} {r : α} (h : (l.take n)[i]? = some r) : l[i]? = some r := by
  rw [List.getElem?_take] at h
  by_cases hi : i < n
  · rw [if_pos hi] at h; exact h
  · rw [if_neg hi] at h; cases h
theorem loadC_ok {X : RX} {v : Bool} : ∀ {s : Sh} {x : El s} {cs : List SV} {r : List DV}, (loadC v s x).sem = some cs → RP X v s x r → RVs X cs r := by
  intro s x cs r hs hp
  cases s with
  | mark s =>
    simp only [loadC] at hs
    rcases T.sem_br hs with ⟨_, hs⟩ | ⟨hb, hs⟩
    · exact (T.sem_fail hs).elim
    · rw [T.sem_ret hs]
      obtain ⟨b, x⟩ := x
      simp only at hb
      subst hb
      have h : RE s x r := by
        cases v with
        | true => exact hp
        | false => exact hp
      simpa using h.cells (X := X) (r := []) (dr := []) (by simp [RVs])
  | _ =>
    simp only [loadC] at hs
    rw [T.sem_ret hs]
    exact hp.cells0
theorem load_ok {K : Oracle} {sp : Specs} {X : RX} {h : SH} {dh : Hp} {l : List SV} {dl : List DV} (I : Inv X h dh) (L : RVs X l dl) {z : Option Nat} {x : Opd} {v : SV} (hs : (stepQ sp l h (.load z x)).sem = some v) :
    ∃ d, step K dl dh (.load z x) = some (d, dh) ∧ RV X v d := by
  have q := sv_ok L x
  simp only [stepQ] at hs
  have fin : ∀ {b : Bool} {i m e o : Nat} {k : Blk} {r : List DV} {cs : List SV}, x.ev dl = .ptr b i m e o → dh.blk b i m = some k → k.xs[e]? = some r → RVs X cs (r.drop o) → (sOf z cs).sem = some v →
      ∃ d, step K dl dh (.load z x) = some (d, dh) ∧ RV X v d := by
    intro b i m e o k r cs h1 h2 h3 h4 h5
    simp only [step, h1, h2, h3]
    rcases sOf_ok h5 h4 with ⟨n, rfl, hn0, hn, hv⟩ | ⟨rfl, d, r', hd, hv⟩
    · have : o + n ≤ r.length := by simp at hn; omega
      exact ⟨_, by simp only [if_pos this], hv⟩
    · have : r[o]? = some d := by
        have := congrArg (fun q => q[0]?) hd
        simpa [List.getElem?_drop] using this
      exact ⟨d, by simp only [this], hv⟩
  cases e : x.sv l <;> rw [e] at hs q <;> simp only at hs <;> first
    | exact (T.sem_fail hs).elim
    | skip
  · rename_i i o
    simp only [RV] at q
    split at hs
    · rename_i cs hB
      obtain ⟨zz, ds, b1, b2⟩ := I.box _ _ hB
      refine fin q.2 (k := ⟨X.bm i, zz, [ds]⟩) ?_ rfl (b2.drop o) hs
      simp only [Hp.blk, Hp.heap, Bool.false_eq_true, if_false, b1, if_true]
    · exact (T.sem_fail hs).elim
  · rename_i j n o
    split at hs
    · rename_i fz zz v' s xs hR
      obtain ⟨i, m, b, e1, e2, e3, e4, e5, e6, e7, e8, ⟨e9, e10⟩, _⟩ := ep_at I q hR
      obtain ⟨y, hy, hs⟩ := T.sem_ask hs
      obtain ⟨_, hy⟩ := getI_ok hy
      obtain ⟨r, hr, hp⟩ := e10.get hy
      have hr' : b.xs[n.toNat]? = some r := u3H hr
      obtain ⟨cs', hl, hs⟩ := T.sem_bind hs
      exact fin e1 (u0x e5 e6) hr' ((loadC_ok hl hp).drop o) hs
    · rename_i fz zz r hR
      split at hs
      · rename_i hn
        subst hn
        obtain ⟨i, m, b, e1, e2, e3, e4, e5, e6, e7, e8, e9, _⟩ := ep_at I q hR
        obtain ⟨r', hr, hp⟩ := RRows.get e9 (n := 0) (x := r) rfl
        have hr' : b.xs[0]? = some r' := u3H hr
        exact fin e1 (u0x e5 e6) hr' (hp.2.drop o) hs
      · exact (T.sem_fail hs).elim
    · exact (T.sem_fail hs).elim
  · rename_i cs
    simp only [RV] at q
    rcases q with ⟨ds, q1, q2⟩ | ⟨i, m, e', o, k, r, q1, q2, q3, q4, q5⟩
    · simp only [step, q1]
      rcases sOf_ok hs q2 with ⟨n, rfl, _, hn, hv⟩ | ⟨rfl, d, r', rfl, hv⟩
      · exact ⟨_, by simp only [if_pos hn], hv⟩
      · exact ⟨d, rfl, hv⟩
    · exact fin q1 (u0x (I.z _ _ q2) q3) q4 q5 hs

theorem addr_ok {K : Oracle} {sp : Specs} {X : RX} {h : SH} {dh : Hp} {l : List SV} {dl : List DV} (I : Inv X h dh) (L : RVs X l dl) {z : Nat} {x i : Opd} {v : SV} (hs : (stepQ sp l h (.indexAddr z x i)).sem = some v) :
    ∃ d, step K dl dh (.indexAddr z x i) = some (d, dh) ∧ RV X v d := by
  have q := sv_ok L x
  have qi := sv_ok L i
  simp only [stepQ] at hs
  split at hs
  case h_2 => exact (T.sem_fail hs).elim
  rename_i ki n ei
  rw [ei] at qi
  have qi := qi.int
  -- a list
  have row : ∀ {s : Sh} {xs : List (El s)} {y : El s} {rows : List (List DV)}, RRows (RE s) xs rows → xs[n.toNat]? = some y → 0 ≤ n → z = s.size → x.ev dl = .row s.size rows →
      ∃ d, step K dl dh (.indexAddr z x i) = some (d, dh) ∧ RV X (.fp (u0f s y [])) d := by
    intro s xs y rows hr hy hn hz hx
    obtain ⟨r, hr1, hr2⟩ := hr.get hy
    refine ⟨.fp r, ?_, .inl ⟨r, rfl, by simpa using hr2.cells (X := X) (r := []) (dr := []) (by simp [RVs])⟩⟩
    simp only [step, hx, qi, hn, hz, and_self, if_true, hr1]
  cases e : x.sv l <;> rw [e] at hs q <;> simp only at hs <;> first
    | exact (T.sem_fail hs).elim
    | skip
  · rename_i s xs
    split at hs
    · rename_i hz
      obtain ⟨y, hy, hs⟩ := T.sem_ask hs
      obtain ⟨hn, hy⟩ := getI_ok hy
      rw [T.sem_ret hs]
      simp only [RV] at q
      rcases q with ⟨_, rfl⟩ | ⟨rows, q1, q2⟩
      · simp at hy
      · exact row q2 hy hn hz q1
    · exact (T.sem_fail hs).elim
  · rename_i vv s xs
    split at hs
    · rename_i hz
      obtain ⟨y, hy, hs⟩ := T.sem_ask hs
      obtain ⟨hn, hy⟩ := getI_ok hy
      rw [T.sem_ret hs]
      simp only [RV] at q
      rcases q.parts with ⟨_, rfl⟩ | ⟨rfl, rows, q1, q2⟩ | ⟨ii, m, off, k, q1, q2, q3, q4, q5, q6⟩
      · simp at hy
      · obtain ⟨r, hr1, hr2⟩ := q2.get hy
        have hc : RP X false s y r := hr2
        refine ⟨.fp r, ?_, .inl ⟨r, rfl, hc.cells0⟩⟩
        simp only [step, q1, qi, hn, hz, and_self, if_true, hr1]
      · obtain ⟨r, hr1, hr2⟩ := q6.get hy
        have hlt : n.toNat < xs.length := by
          rcases Nat.lt_or_ge n.toNat xs.length with g | g
          · exact g
          · rw [List.getElem?_eq_none g] at hy; cases hy
        have hr3 := u3H hr1
        rw [List.getElem?_drop] at hr3
        refine ⟨.ptr true ii m (off + n.toNat) 0, ?_, .inr ⟨ii, m, off + n.toNat, 0, k, r, rfl, q2, q3, hr3, by simpa using hr2.cells0⟩⟩
        simp only [step, q1, qi, hn, hlt, and_self, if_true, u0x (I.z _ _ q2) q3, q4, hz]
    · exact (T.sem_fail hs).elim
  · rename_i j
    split at hs
    · rename_i fz z' vv s xs hR
      split at hs
      · rename_i hz
        subst hz
        obtain ⟨y, hy, hs⟩ := T.sem_ask hs
        obtain ⟨hn, hy⟩ := getI_ok hy
        rw [T.sem_ret hs]
        have hlt : n.toNat < xs.length := by
          rcases Nat.lt_or_ge n.toNat xs.length with g | g
          · exact g
          · rw [List.getElem?_eq_none g] at hy; cases hy
        have R := I.row _ _ _ _ hR
        unfold RowOk at R
        have hj := q
        simp only [RV] at hj
        rcases u53 I q hR with ⟨_, k2, _⟩ | ⟨ii, m, b, k1, k2, k3, k4, k5, k6, k7⟩
        · simp only [RC.len] at k2; omega
        · refine ⟨.ptr true ii m (0 + n.toNat) 0, ?_, ?_⟩
          · simp only [step, k1, qi, RC.len, hn, hlt, and_self, if_true, u0x k3 k4, k5]
          · simp only [RV]
            refine ⟨hj.1, hn, ?_, ii, m, k2, by simp⟩
            rw [← R.1]; exact hlt
      · exact (T.sem_fail hs).elim
    · exact (T.sem_fail hs).elim

theorem bytes_ok : ∀ {xs : List Int} {rows : List (List DV)}, RRows (fun x r => r = [.int .u8 x]) xs rows → bytesOf rows = some (xs.map fun n => UInt8.ofNat n.toNat)
  | [], [], _ => rfl
  | x :: xs, r :: rows, h => by
    obtain ⟨h1, h2⟩ := h
    subst h1
    simp only [bytesOf, bytes_ok h2, Option.map_some, List.map_cons]

theorem slL_elems {X : RX} {h : SH} {dh : Hp} (I : Inv X h dh) {c : SV} {d : DV} (k : RV X c d) {xs : List Int}
    (hl : slL .all h (.int .u8) (fun cs => match cs with | [.int .u8 n] => some n | _ => none) c = some xs) : ∃ rows, elems dh 1 d = some rows ∧ RRows (fun x r => r = [DV.int .u8 x]) xs rows := by
  have P : ∀ {v : Bool} {x : Int} {r : List DV}, RP X v (.int .u8) x r → r = [.int .u8 x] := fun {v x r} h => by cases v <;> exact h
  cases c with
  | nil => simp only [slL, Option.some.injEq] at hl; subst hl; simp only [RV] at k; subst k; exact ⟨[], rfl, trivial⟩
  | lst s' l' =>
    simp only [slL] at hl
    obtain ⟨rfl, rfl⟩ := u1i hl
    simp only [RV] at k
    rcases k with ⟨rfl, rfl⟩ | ⟨rows, rfl, k⟩
    · exact ⟨[], rfl, trivial⟩
    · exact ⟨rows, by simp [elems, Sh.size], k⟩
  | vw v s' l' =>
    simp only [slL, Lv.letsV, Lv.lets, if_true] at hl
    obtain ⟨rfl, rfl⟩ := u1i hl
    simp only [RV] at k
    rcases k.toW with (⟨rfl, rfl⟩ | ⟨rows, rfl, k1⟩) | ⟨i, m, off, b, rfl, k1, k2, k3, k4, k5⟩
    · exact ⟨[], rfl, trivial⟩
    · exact ⟨rows, by simp [elems, Sh.size], k1⟩
    · exact ⟨_, u5f (I.z _ _ k1) k2 k3 k4, k5.mono fun x r q => P q⟩
  | own j =>
    simp only [slL] at hl
    split at hl
    · rename_i fz z v s' l' hR
      simp only [Lv.letsO, Lv.lets, if_true] at hl
      obtain ⟨rfl, rfl⟩ := u1i hl
      rcases u53 I k hR with ⟨rfl, k2, _⟩ | ⟨ii, m, b, rfl, k2, k3, k4, k5, k6, k7, k8⟩
      · have : l' = [] := List.eq_nil_of_length_eq_zero k2
        subst this
        exact ⟨[], rfl, trivial⟩
      · simp only [RC.len] at k6 k8 ⊢
        exact ⟨_, u5f k3 k4 (by rw [k5, ← k7]; rfl) (by omega), by simpa using k8.mono fun x r q => P q⟩
    · rename_i fz z rows hR
      split at hl
      case isFalse => cases hl
      rename_i hz
      obtain ⟨hz, _⟩ := hz
      rcases u53 I k hR with ⟨rfl, k2, _⟩ | ⟨ii, m, b, rfl, k2, k3, k4, k5, k6, k7⟩
      · have : rows = [] := List.eq_nil_of_length_eq_zero k2
        subst this
        simp at hl
        subst hl
        exact ⟨[], rfl, trivial⟩
      · simp only [RC.len] at k6 k7 ⊢
        refine ⟨_, u5f k3 k4 (by rw [k5, hz]; rfl) (by omega), ?_⟩
        have := mapM_rows (Q := fun x r => r = [DV.int .u8 x]) (fun a b r e k => ?_) hl k7
        · simpa using this
        · split at e
          · cases e
            obtain ⟨_, k⟩ := k
            obtain ⟨d, dr, rfl, g1, g2⟩ := u0A k
            cases dr with
            | nil => rw [g1.int]
            | cons _ _ => simp [RVs] at g2
          · cases e
    · cases hl
  | _ => simp [slL] at hl

theorem getB_ok {s : ByteArray} {n : Int} {c : Int} (h : getB s n = some c) : 0 ≤ n ∧ ∃ b, s.toList[n.toNat]? = some b ∧ c = b.toNat := by
  unfold getB at h
  split at h
  · rename_i hn
    rw [Option.map_eq_some_iff] at h
    obtain ⟨b, h1, h2⟩ := h
    exact ⟨hn, b, h1, h2.symm⟩
  · cases h

theorem cut_ok {X : RX} {l : List SV} {dl : List DV} (L : RVs X l dl) {lo hi : Option Opd} {a b : Int} {n : Nat} {v v' : SV} (ha : u3N (lo.map (·.sv l)) 0 = some a) (hb : u3N (hi.map (·.sv l)) n = some b)
    (hs : (sCut lo hi a b n v).sem = some v') : v' = v ∧ ∃ a' b', bound (lo.map (·.ev dl)) 0 = some a' ∧ bound (hi.map (·.ev dl)) n = some b' ∧ a' ≤ b' ∧ b' ≤ n ∧ (∀ {α : Type} (xs : List α), xs.length = n → cutL lo hi a b xs = (xs.take b').drop a') ∧ a'  = a.toNat ∧ b' = b.toNat := by
  have bnd : ∀ {k : IntKind} {m : Int} {d : Nat}, 0 ≤ m → bound (some (.int k m)) d = some m.toNat := fun h => by simp only [bound, if_pos h]
  rcases sBound_ok L ha with ⟨rfl, rfl⟩ | ⟨x, kx, rfl, hx⟩ <;> rcases sBound_ok L hb with ⟨rfl, rfl⟩ | ⟨y, ky, rfl, hy⟩ <;> simp only [sCut, cutOk] at hs
  · exact ⟨T.sem_ret hs, 0, n, rfl, rfl, Nat.zero_le _, Nat.le_refl _, fun xs hx => by simp [cutL, ← hx], rfl, rfl⟩
  · rcases T.sem_br hs with ⟨h1, hs⟩ | ⟨_, hs⟩
    · simp only [Bool.and_eq_true, decide_eq_true_eq] at h1
      exact ⟨T.sem_ret hs, 0, b.toNat, rfl, by simp only [Option.map_some, hy]; exact bnd h1.1, Nat.zero_le _, by omega, fun xs hx => by simp [cutL], rfl, rfl⟩
    · exact (T.sem_fail hs).elim
  · rcases T.sem_br hs with ⟨h1, hs⟩ | ⟨_, hs⟩
    · simp only [Bool.and_eq_true, decide_eq_true_eq] at h1
      exact ⟨T.sem_ret hs, a.toNat, n, by simp only [Option.map_some, hx]; exact bnd h1.1, rfl, by omega, Nat.le_refl _, fun xs hx => by simp [cutL, ← hx], rfl, rfl⟩
    · exact (T.sem_fail hs).elim
  · rcases T.sem_br hs with ⟨h1, hs⟩ | ⟨_, hs⟩
    · simp only [Bool.and_eq_true, decide_eq_true_eq] at h1
      exact ⟨T.sem_ret hs, a.toNat, b.toNat, by simp only [Option.map_some, hx]; exact bnd h1.1.1, by simp only [Option.map_some, hy]; exact bnd (by omega), by omega, by omega, fun xs hx => by simp [cutL], rfl, rfl⟩
    · exact (T.sem_fail hs).elim

theorem cutS_ok {K : Oracle} {sp : Specs} {X : RX} {h : SH} {dh : Hp} {l : List SV} {dl : List DV} (I : Inv X h dh) (L : RVs X l dl) {zz : Nat} {x : Opd} {lo hi : Option Opd} {v : SV} (hs : (stepQ sp l h (.slice zz x lo hi)).sem = some v) :
    ∃ d, step K dl dh (.slice zz x lo hi) = some (d, dh) ∧ RV X v d := by
  have q := sv_ok L x
  simp only [stepQ] at hs
  split at hs
  case h_2 => exact (T.sem_fail hs).elim
  rename_i a ha
  have pos : ∀ {s : Sh}, s.size ≠ 0 := by
    intro s
    induction s with
    | pair a b iha ihb => simp [Sh.size]; omega
    | tree a _ => simp [Sh.size]
    | uno a ih => simpa [Sh.size] using ih
    | mark a ih => simpa [Sh.size] using ih
    | _ => simp [Sh.size]
  cases e : x.sv l <;> rw [e] at hs q <;> simp only at hs <;> first
    | exact (T.sem_fail hs).elim
    | skip
  · rename_i s
    split at hs
    · rename_i b hb
      split at hs
      · rename_i hz
        obtain ⟨rfl, a', b', h1, h2, h3, h4, h5, h6, h7⟩ := cut_ok L ha hb hs
        refine ⟨.str (s.extract a' b'), ?_, by rw [h6, h7]; simp [RV]⟩
        simp only [step, q.str, h1, h2, h3, h4, hz, and_self, if_true]
      · exact (T.sem_fail hs).elim
    · exact (T.sem_fail hs).elim
  · split at hs
    · rename_i b hb
      split at hs
      · exact (T.sem_fail hs).elim
      · rename_i hz
        obtain ⟨rfl, a', b', h1, h2, h3, h4, h5, h6, h7⟩ := cut_ok (n := 0) L ha hb hs
        simp only [RV] at q
        refine ⟨.nils, ?_, by simp [RV]⟩
        simp only [step, q, h1, h2]
        rw [if_pos ⟨h3, h4, hz⟩]
    · exact (T.sem_fail hs).elim
  · rename_i s xs
    split at hs
    · rename_i b hb
      split at hs
      · rename_i hz
        obtain ⟨rfl, a', b', h1, h2, h3, h4, h5, h6, h7⟩ := cut_ok L ha hb hs
        rw [h5 xs rfl]
        simp only [RV] at q
        rcases q with ⟨q1, rfl⟩ | ⟨rows, q1, q2⟩
        · refine ⟨.nils, ?_, .inl ⟨rfl, by simp⟩⟩
          simp only [step, q1]
          simp only [List.length_nil] at h2 h4
          simp only [h1, h2]
          rw [if_pos ⟨h3, h4, by rw [hz]; exact pos⟩]
        · refine ⟨.row s.size ((rows.take b').drop a'), ?_, .inr ⟨_, rfl, (q2.take b').drop a'⟩⟩
          simp only [step, q1]
          rw [q2.length] at h2 h4
          simp only [h1, h2]
          rw [if_pos ⟨h3, h4, hz.symm, by rw [hz]; exact pos⟩]
      · exact (T.sem_fail hs).elim
    · exact (T.sem_fail hs).elim
  · rename_i vv s xs
    split at hs
    · rename_i b hb
      split at hs
      · rename_i hz
        obtain ⟨rfl, a', b', h1, h2, h3, h4, h5, h6, h7⟩ := cut_ok L ha hb hs
        rw [h5 xs rfl]
        simp only [RV] at q
        rcases q.parts with ⟨q1, rfl⟩ | ⟨rfl, rows, q1, q2⟩ | ⟨i, m, off, k, q1, q2, q3, q4, q5, q6⟩
        · refine ⟨.nils, ?_, by simp only [RV, List.take_nil, List.drop_nil]; exact RVw.none rfl⟩
          simp only [step, q1]
          simp only [List.length_nil] at h2 h4
          simp only [h1, h2]
          rw [if_pos ⟨h3, h4, by rw [hz]; exact pos⟩]
        · refine ⟨.row s.size ((rows.take b').drop a'), ?_, RVw.froz (.inr ⟨_, rfl, (q2.take b').drop a'⟩)⟩
          simp only [step, q1]
          rw [q2.length] at h2 h4
          simp only [h1, h2]
          rw [if_pos ⟨h3, h4, hz.symm, by rw [hz]; exact pos⟩]
        · have hl : ((xs.take b').drop a').length = b' - a' := by simp; omega
          refine ⟨.sl i m (off + a') (b' - a'), ?_, RVw.hang ⟨i, m, off + a', k, by rw [hl], q2, q3, q4, by rw [hl]; omega, ?_⟩⟩
          · simp only [step, q1, h1, h2, u0x (I.z _ _ q2) q3]
            rw [if_pos ⟨h3, .inl h4, by rw [q4, hz], by rw [hz]; exact pos⟩]
          · have := (q6.take b').drop a'
            rw [hl]
            have e1 : (List.take (b' - a') (List.drop (off + a') k.xs)) = List.drop a' (List.take b' (List.take xs.length (List.drop off k.xs))) := by
              rw [List.take_take, Nat.min_eq_left h4, List.drop_take, List.drop_drop]
            rw [e1]; exact this
      · exact (T.sem_fail hs).elim
    · exact (T.sem_fail hs).elim

theorem cap_ok {X : RX} {fl : Bool} {cap : List SV} {dcap : List DV} (h : (fl || cap.isEmpty) = true) (k : RVs X cap dcap) : fl = true ∨ dcap = [] := by
  rw [Bool.or_eq_true] at h
  rcases h with h | h
  · exact .inl h
  · rw [List.isEmpty_iff] at h
    subst h
    cases dcap with
    | nil => exact .inr rfl
    | cons _ _ => simp [RVs] at k
theorem stepQ_ok {K : Oracle} {sp : Specs} (SO : u0F K sp) {X : RX} {h : SH} {dh : Hp} {l : List SV} {dl : List DV} (I : Inv X h dh) (L : RVs X l dl) {o : DOp} {v : SV} (hs : (stepQ sp l h o).sem = some v) :
    ∃ d, step K dl dh o = some (d, dh) ∧ RV X v d := by
  have fnok : ∀ {f : Opd} {g : FuncId} {cap : List SV}, f.sv l = .fn g cap → ∃ dcap, f.ev dl = .fn g dcap ∧ RVs X cap dcap := by
    intro f g cap e
    have := sv_ok L f
    rw [e] at this
    simpa only [RV] using this
  cases o with
  | move x => simp only [stepQ] at hs; rw [T.sem_ret hs]; exact ⟨_, rfl, sv_ok L x⟩
  | pick c a b =>
    simp only [stepQ] at hs
    obtain ⟨b', h1, h2⟩ := sPick_ok hs (sv_ok L c) (sv_ok L a) (sv_ok L b)
    exact ⟨_, by simp only [step, h1], h2⟩
  | build zero ps =>
    simp only [stepQ] at hs
    split at hs
    · rename_i hc
      rw [List.all_eq_true] at hc
      split at hs
      · rename_i cs hf
        rw [T.sem_ret hs]
        have hp : ∀ p ∈ ps, RVs X (p.2.2.sv l).cells (p.2.2.ev dl).cells ∧ (p.2.2.ev dl).cells.all DV.isCell = true ∧ (p.2.2.ev dl).cells.length = p.2.1 := by
          intro p hpm
          have := hc p hpm
          simp only [Bool.and_eq_true, beq_iff_eq] at this
          obtain ⟨g1, g2⟩ := put_ok this.2 (sv_ok L p.2.2)
          exact ⟨g1, g2, by rw [← g1.length]; exact this.1⟩
        have hz : RVs X (ofDV (.agg zero)).cells zero := by
          have := ofDV_ok (X := X) (.agg zero)
          have q := this.cellsOf (by simp [ofDV])
          simpa [DV.cells] using q
        obtain ⟨r, h1, h2⟩ := sfill_ok (qs := ps.map fun p => (p.1, (p.2.2.ev dl).cells)) hf hz (by simp) (fun i p q hi hj => by
          rw [List.getElem?_map, Option.map_eq_some_iff] at hi hj
          obtain ⟨a, ha, rfl⟩ := hi
          obtain ⟨b, hb, rfl⟩ := hj
          rw [ha] at hb; cases hb
          exact ⟨rfl, (hp a (List.mem_of_getElem? ha)).1⟩)
        refine ⟨.agg r, ?_, r, rfl, h2⟩
        simp only [step]
        rw [if_pos, h1]
        · rfl
        · rw [List.all_eq_true]
          intro p hpm
          simp [(hp p hpm).2.1, (hp p hpm).2.2]
      · exact (T.sem_fail hs).elim
    · exact (T.sem_fail hs).elim
  | load z x => exact load_ok I L hs
  | nilCheck x =>
    have q := sv_ok L x
    simp only [stepQ] at hs
    split at hs <;> first
      | exact (T.sem_fail hs).elim
      | skip
    · rename_i i o e
      rw [T.sem_ret hs]
      rw [e] at q
      have q' := q
      simp only [RV] at q'
      exact ⟨x.ev dl, by simp only [step, q'.2], q⟩
    · rename_i j n o e
      rw [T.sem_ret hs]
      rw [e] at q
      have q' := q
      simp only [RV] at q'
      obtain ⟨_, _, _, i, m, _, q1⟩ := q'
      exact ⟨x.ev dl, by simp only [step, q1], q⟩
    · rename_i cs e
      rw [T.sem_ret hs]
      rw [e] at q
      have q' := q
      simp only [RV] at q'
      rcases q' with ⟨ds, q1, _⟩ | ⟨i, m, ee, o, k, r, q1, _⟩ <;> exact ⟨x.ev dl, by simp only [step, q1], q⟩
  | bin op x y =>
    simp only [stepQ] at hs
    obtain ⟨d, h1, h2⟩ := sBin_ok hs (sv_ok L x) (sv_ok L y)
    exact ⟨d, by simp only [step, h1, Option.map_some], h2⟩
  | eqv k ng x y =>
    simp only [stepQ] at hs
    split at hs
    · rename_i b hb
      rw [T.sem_ret hs]
      have := sEqv_ok hb (sv_ok L x) (sv_ok L y)
      exact ⟨_, by simp only [step, this, Option.map_some]; rfl, by cases ng <;> simp [RV, neg]⟩
    · exact (T.sem_fail hs).elim
  | un op x =>
    simp only [stepQ] at hs
    obtain ⟨d, h1, h2⟩ := sUn_ok hs (sv_ok L x)
    exact ⟨d, by simp only [step, h1, Option.map_some], h2⟩
  | conv k x =>
    have q := sv_ok L x
    simp only [stepQ] at hs
    split at hs
    · rename_i k' n e
      rw [e] at q
      rw [T.sem_ret hs]
      exact ⟨_, by simp only [step, q.int]; rfl, by simp [RV]⟩
    · exact (T.sem_fail hs).elim
  | toStr x =>
    simp only [stepQ] at hs
    split at hs
    · rename_i xs e
      rw [T.sem_ret hs]
      obtain ⟨rows, h1, h2⟩ := slL_elems I (sv_ok L x) e
      exact ⟨_, by simp only [step, h1, bytes_ok h2, Option.map_some]; rfl, by simp [RV]⟩
    · exact (T.sem_fail hs).elim
  | same x =>
    have q := sv_ok L x
    simp only [stepQ] at hs
    split at hs
    · rename_i s e
      rw [e] at q
      rw [T.sem_ret hs]
      exact ⟨_, by simp only [step, q.str]; rfl, by simp [RV]⟩
    · exact (T.sem_fail hs).elim
  | slice zz x lo hi => exact cutS_ok I L hs
  | fieldAddr off x =>
    have q := sv_ok L x
    simp only [stepQ] at hs
    split at hs <;> first
      | exact (T.sem_fail hs).elim
      | skip
    · rename_i i o e
      rw [T.sem_ret hs]
      rw [e] at q
      simp only [RV] at q
      exact ⟨_, by simp only [step, q.2]; rfl, by simp only [RV]; exact ⟨q.1, trivial⟩⟩
    · rename_i j n o e
      rw [T.sem_ret hs]
      rw [e] at q
      simp only [RV] at q
      obtain ⟨q0, q1, q2, i, m, q3, q4⟩ := q
      exact ⟨_, by simp only [step, q4]; rfl, by simp only [RV]; exact ⟨q0, q1, q2, i, m, q3, rfl⟩⟩
    · rename_i cs e
      rw [T.sem_ret hs]
      rw [e] at q
      simp only [RV] at q
      rcases q with ⟨ds, q1, q2⟩ | ⟨i, m, ee, o, k, r, q1, q2, q3, q4, q5⟩
      · exact ⟨_, by simp only [step, q1], .inl ⟨_, rfl, q2.drop off⟩⟩
      · exact ⟨_, by simp only [step, q1], .inr ⟨i, m, ee, o + off, k, r, rfl, q2, q3, q4, by have := q5.drop off; rwa [List.drop_drop] at this⟩⟩
  | field off z x =>
    have q := sv_ok L x
    simp only [stepQ] at hs
    split at hs
    · rename_i cs e
      rw [e] at q
      simp only [RV] at q
      obtain ⟨ds, q1, q2⟩ := q
      split at hs
      · rename_i n
        split at hs
        · rename_i hn
          rw [T.sem_ret hs]
          refine ⟨.agg ((ds.drop off).take n), ?_, _, rfl, (q2.drop off).take n⟩
          simp only [step, q1]
          rw [if_pos (by rw [← q2.length]; exact hn)]
        · exact (T.sem_fail hs).elim
      · split at hs
        · rename_i v' hv
          rw [T.sem_ret hs]
          obtain ⟨d, h1, h2⟩ := q2.get hv
          exact ⟨d, by simp only [step, q1, h1], h2⟩
        · exact (T.sem_fail hs).elim
    · exact (T.sem_fail hs).elim
  | indexAddr z x i => exact addr_ok I L hs
  | indexStr x i =>
    have q := sv_ok L x
    have qi := sv_ok L i
    simp only [stepQ] at hs
    split at hs
    · rename_i s k n e1 e2
      rw [e1] at q
      rw [e2] at qi
      obtain ⟨c, hc, hs⟩ := T.sem_ask hs
      rw [T.sem_ret hs]
      obtain ⟨hn, b, hb, rfl⟩ := getB_ok hc
      exact ⟨_, by simp only [step, q.str, qi.int, if_pos hn, hb]; rfl, by simp [RV]⟩
    · exact (T.sem_fail hs).elim
  | extract i x =>
    have q := sv_ok L x
    simp only [stepQ] at hs
    split at hs
    · rename_i vs e
      rw [e] at q
      simp only [RV] at q
      obtain ⟨ds, q1, q2⟩ := q
      split at hs
      · rename_i v' hv
        rw [T.sem_ret hs]
        obtain ⟨d, h1, h2⟩ := q2.get hv
        exact ⟨d, by simp only [step, q1, h1], h2⟩
      · exact (T.sem_fail hs).elim
    · exact (T.sem_fail hs).elim
  | len st x =>
    have q := sv_ok L x
    simp only [stepQ] at hs
    split at hs
    · split at hs
      · rename_i s e
        rw [e] at q
        rw [T.sem_ret hs]
        exact ⟨_, by simp only [step, q.str]; rfl, by simp [RV]⟩
      · exact (T.sem_fail hs).elim
    · split at hs <;> first
        | exact (T.sem_fail hs).elim
        | skip
      · rename_i e
        rw [e] at q
        simp only [RV] at q
        rw [T.sem_ret hs]
        exact ⟨_, by simp only [step, q]; rfl, by simp [RV]⟩
      · rename_i s xs e
        rw [e] at q
        simp only [RV] at q
        rw [T.sem_ret hs]
        rcases q with ⟨q1, rfl⟩ | ⟨rows, q1, q2⟩
        · exact ⟨_, by simp only [step, q1]; rfl, by simp [RV]⟩
        · exact ⟨_, by simp only [step, q1]; rfl, by simp [RV, q2.length]⟩
      · rename_i vv s xs e
        rw [e] at q
        simp only [RV] at q
        rw [T.sem_ret hs]
        rcases q.toW with (⟨q1, rfl⟩ | ⟨rows, q1, q2⟩) | ⟨i, m, off, k, q1, _⟩
        · exact ⟨_, by simp only [step, q1]; rfl, by simp [RV]⟩
        · exact ⟨_, by simp only [step, q1]; rfl, by simp [RV, q2.length]⟩
        · exact ⟨_, by simp only [step, q1]; rfl, by simp [RV]⟩
      · rename_i j e
        rw [e] at q
        split at hs <;> first
          | exact (T.sem_fail hs).elim
          | skip
        all_goals
          rename_i hR
          rw [T.sem_ret hs]
          rcases u53 I q hR with ⟨q1, q2, _⟩ | ⟨i, m, b, q1, _⟩
          · simp only [RC.len] at q2
            exact ⟨_, by simp only [step, q1]; rfl, by simp [RV, q2]⟩
          · simp only [RC.len] at q1
            exact ⟨_, by simp only [step, q1]; rfl, by simp [RV]⟩
  | maxm mx xs =>
    have q := svs_ok L xs
    simp only [stepQ] at hs
    split at hs
    · rename_i k a k' b e
      rw [e] at q
      obtain ⟨d1, dr, e1, q1, q2⟩ := u0A q
      obtain ⟨d2, dr2, e2, q3, q4⟩ := u0A q2
      cases dr2 with
      | cons _ _ => simp [RVs] at q4
      | nil =>
        subst e2
        rw [T.sem_ret hs]
        refine ⟨.int k (if mx then (if b > a then b else a) else (if b < a then b else a)), ?_, ?_⟩
        · simp only [step, e1, q1.int, q3.int]
        · cases mx <;> simp [RV]
    · exact (T.sem_fail hs).elim
  | makeFunc f xs =>
    simp only [stepQ] at hs
    rw [T.sem_ret hs]
    exact ⟨_, rfl, _, rfl, svs_ok L xs⟩
  | call f args ap =>
    simp only [stepQ] at hs
    split at hs
    · rename_i g cap e
      obtain ⟨dcap, e1, e2⟩ := fnok e
      split at hs
      · rename_i fl run hg
        split at hs
        · split at hs
          case isFalse => exact (T.sem_fail hs).elim
          rename_i hc
          obtain ⟨d, k1, k2, _⟩ := SO g _ hg X h dh _ (args.map fun x => Opd.ev dl x) dcap v (cap_ok hc e2) I ((svs_ok L args).append e2) hs
          exact ⟨d, by simp only [step, e1, k2, List.all_nil, if_true], k1⟩
        · exact (T.sem_fail hs).elim
      · exact (T.sem_fail hs).elim
    · exact (T.sem_fail hs).elim
  | callq f args =>
    simp only [stepQ] at hs
    split at hs
    · rename_i g cap e
      obtain ⟨dcap, e1, e2⟩ := fnok e
      split at hs
      · rename_i fl run hg
        split at hs
        case isFalse => exact (T.sem_fail hs).elim
        rename_i hc
        obtain ⟨d, k1, _, k3, k4, k5⟩ := SO g _ hg X h dh _ (args.map fun x => Opd.ev dl x) dcap v (cap_ok hc e2) I ((svs_ok L args).append e2) hs
        refine ⟨d, ?_, k1⟩
        simp only [step, e1]
        rw [if_pos k3, k4]
        simp only
        rw [if_pos k5]
      · exact (T.sem_fail hs).elim
    · exact (T.sem_fail hs).elim
  | _ => simp only [stepQ] at hs; exact (T.sem_fail hs).elim

end Go.Dv
/- The engine, second storey: an operation that makes memory, or writes it. -/
set_option linter.unusedVariables false
set_option linter.unusedSimpArgs false
namespace Go.Dv

theorem u02 {α : Type} {l : List α} {i : Nat} {x : α} (h : l[i]? = some x) : i < l.length := by
  rcases Nat.lt_or_ge i l.length with g | g
  · exact g
  · rw [List.getElem?_eq_none g] at h; cases h

theorem RowOk.mono {X Y : RX} {dh dk : Hp} (le : X.le Y) {j : Nat} {fz : Bool} {z : Nat} {c : RC} (hj : j < X.c)
    (hR : ∀ i m, (X.R j).1 = some (i, m) → dk.R[i]? = dh.R[i]?) (hz : fz = false → ∀ i m, (X.R j).1 = some (i, m) → X.z i = none → Y.z i = none) (h : RowOk X dh j fz z c) : RowOk Y dk j fz z c := by
  unfold RowOk at h ⊢
  rw [le.R j hj]
  refine ⟨h.1, ?_⟩
  have h2 := h.2
  cases e : (X.R j).1 with
  | none => rw [e] at h2; exact h2.mono le
  | some q =>
    obtain ⟨i, m⟩ := q
    rw [e] at h2
    obtain ⟨k, k1, k2, k3, k4, k5, k6⟩ := h2
    refine ⟨k, by rw [hR i m e]; exact k1, k2, k3, k4, k5.mono le, ?_⟩
    cases fz with
    | true => exact le.z _ _ k6
    | false => exact ⟨hz rfl i m e k6.1, k6.2⟩

theorem newBox {X : RX} {h : SH} {dh : Hp} (I : Inv X h dh) {cs : List SV} {ds : List DV} (k : RVs X cs ds) (z : Nat) :
    ∃ X', X.le X' ∧ Inv X' { h with B := h.B ++ [cs] } (dh.new false z [ds]).2 ∧ RV X' (.ptr h.B.length 0) (.ptr false (dh.new false z [ds]).1 dh.c 0 0) ∧ Step X h dh X' { h with B := h.B ++ [cs] } (dh.new false z [ds]).2 := by
  let X' : RX := { X with nb := X.nb + 1, bi := fun i => if i = X.nb then dh.B.length else X.bi i, bm := fun i => if i = X.nb then dh.c else X.bm i }
  have le : X.le X' := ⟨fun _ _ e => e, Nat.le_refl _, fun _ _ => rfl, Nat.le_succ _, fun i hi => by simp [X', Nat.ne_of_lt hi]⟩
  have hlt : ∀ i, i < X.nb → X.bi i < dh.B.length := fun i hi => by
    obtain ⟨cs', hcs⟩ : ∃ cs', h.B[i]? = some cs' := ⟨_, List.getElem?_eq_getElem (by rw [I.nb]; exact hi)⟩
    obtain ⟨z, ds, e, _⟩ := I.box i cs' hcs
    exact u02 e
  have hB : (dh.new false z [ds]).2 = { dh with B := dh.B ++ [⟨dh.c, z, [ds]⟩], c := dh.c + 1 } := by simp [Hp.new]
  have hb1 : (dh.new false z [ds]).1 = dh.B.length := by simp [Hp.new]
  refine ⟨X', le, ?_, ?_, ?_⟩
  · rw [hB]
    refine ⟨I.c, by simp [X', I.nb], fun i cs' hi => ?_, fun i i' hi hi' e => ?_, I.z, fun j fz z c hj => (I.row j fz z c hj).mono le (by rw [← I.c]; exact u02 hj) (fun _ _ _ => rfl) (fun _ _ _ _ e => e), I.dist⟩
    · rw [List.getElem?_append] at hi
      split at hi
      · rename_i hlt'
        rw [I.nb] at hlt'
        obtain ⟨z', ds', e1, e2⟩ := I.box i cs' hi
        refine ⟨z', ds', ?_, e2.mono le⟩
        simp only [X', if_neg (Nat.ne_of_lt hlt')]
        rw [List.getElem?_append_left (hlt i hlt')]; exact e1
      · rename_i hge
        rw [I.nb] at hge hi
        rw [List.getElem?_singleton] at hi
        split at hi
        · rename_i h0
          cases hi
          have : i = X.nb := by omega
          subst this
          exact ⟨z, ds, by simp [X'], k.mono le⟩
        · cases hi
    · simp only [X'] at hi hi' e
      by_cases h1 : i = X.nb <;> by_cases h2 : i' = X.nb
      · rw [h1, h2]
      · simp only [h1, if_true, if_neg h2] at e
        have := hlt i' (by omega); omega
      · simp only [h2, if_true, if_neg h1] at e
        have := hlt i (by omega); omega
      · simp only [if_neg h1, if_neg h2] at e
        exact I.bdist i i' (by omega) (by omega) e
  · simp only [RV, hb1]
    exact ⟨by rw [I.nb]; exact Nat.lt_succ_self _, by simp [X', I.nb]⟩
  · rw [hB]
    refine ⟨fun _ _ _ => rfl, Nat.le_refl _, fun q hq _ => List.getElem?_append_left hq, by simp, fun i w => .inl w, fun i hi => ?_, fun _ _ e => .inl e⟩
    simp only [X'] at hi ⊢
    by_cases h1 : i = X.nb
    · right; simp [h1]
    · left; exact ⟨i, by omega, by simp [h1]⟩

theorem newRow {X : RX} {h : SH} {dh : Hp} (I : Inv X h dh) {z : Nat} {c : RC} {rows : List (List DV)} (k : RCon X z c rows) :
    ∃ X', X.le X' ∧ Inv X' { h with R := h.R ++ [.live false z c] } (dh.new true z rows).2 ∧ X'.R h.R.length = (some ((dh.new true z rows).1, dh.c), c.len) ∧ h.R.length < X'.c ∧ Step X h dh X' { h with R := h.R ++ [.live false z c] } (dh.new true z rows).2 := by
  let X' : RX := { X with c := X.c + 1, R := fun j => if j = X.c then (some (dh.R.length, dh.c), c.len) else X.R j }
  have le : X.le X' := ⟨fun _ _ e => e, Nat.le_succ _, fun j hj => by simp [X', Nat.ne_of_lt hj], Nat.le_refl _, fun _ _ => ⟨rfl, rfl⟩⟩
  have hB : (dh.new true z rows).2 = { dh with R := dh.R ++ [⟨dh.c, z, rows⟩], c := dh.c + 1 } := by simp [Hp.new]
  have hb1 : (dh.new true z rows).1 = dh.R.length := by simp [Hp.new]
  have hzl : ∀ i k, X.z i = some k → i < dh.R.length := fun i k e => u02 (I.z i k e)
  have hz0 : X.z dh.R.length = none := by
    cases e : X.z dh.R.length with
    | none => rfl
    | some k => exact absurd (hzl _ _ e) (Nat.lt_irrefl _)
  have hRl : ∀ j fz z c i m, h.R[j]? = some (.live fz z c) → (X.R j).1 = some (i, m) → i < dh.R.length := fun j fz z c i m hj e => by
    have := I.row j fz z c hj
    unfold RowOk at this
    rw [e] at this
    obtain ⟨_, k, k1, _⟩ := this
    exact u02 k1
  refine ⟨X', le, ?_, ?_, by rw [I.c]; exact Nat.lt_succ_self _, ?_⟩
  · rw [hB]
    refine ⟨by simp [X', I.c], I.nb, fun i cs hi => let ⟨z, ds, e1, e2⟩ := I.box i cs hi; ⟨z, ds, e1, e2.mono le⟩, I.bdist, fun i k e => ?_, fun j fz z' c' hj => ?_, fun j j' z1 c1 z2 c2 i m m' h1 h2 e1 e2 => ?_⟩
    · rw [List.getElem?_append_left (hzl i k e)]; exact I.z i k e
    · rw [List.getElem?_append] at hj
      split at hj
      · rename_i hlt
        exact (I.row j fz z' c' hj).mono le (by rw [← I.c]; exact hlt) (fun i m e => List.getElem?_append_left (hRl _ _ _ _ i m hj e)) (fun _ _ _ _ e => e)
      · rename_i hge
        rw [List.getElem?_singleton] at hj
        split at hj
        · rename_i h0
          cases hj
          have : j = X.c := by rw [← I.c]; omega
          subst this
          unfold RowOk
          simp only [X', if_true]
          refine ⟨trivial, ⟨dh.c, z, rows⟩, by simp, rfl, rfl, by rw [k.len]; exact Nat.le_refl _, ?_, hz0, k.len⟩
          have : rows.take c.len = rows := by rw [k.len, List.take_length]
          simp only [this]
          exact k.mono le
        · cases hj
    · rw [List.getElem?_append] at h1 h2
      simp only [X'] at e1 e2
      split at h1 <;> split at h2
      · rename_i g1 g2
        rw [I.c] at g1 g2
        rw [if_neg (Nat.ne_of_lt g1)] at e1
        rw [if_neg (Nat.ne_of_lt g2)] at e2
        exact I.dist _ _ _ _ _ _ _ _ _ h1 h2 e1 e2
      · rename_i g1 g2
        rw [List.getElem?_singleton] at h2
        split at h2
        · rename_i h0
          have : j' = X.c := by rw [← I.c]; omega
          rw [if_pos this] at e2
          rw [I.c] at g1
          rw [if_neg (Nat.ne_of_lt g1)] at e1
          simp only [Option.some.injEq, Prod.mk.injEq] at e2
          have := hRl _ _ _ _ _ _ h1 e1
          omega
        · cases h2
      · rename_i g1 g2
        rw [List.getElem?_singleton] at h1
        split at h1
        · rename_i h0
          have : j = X.c := by rw [← I.c]; omega
          rw [if_pos this] at e1
          rw [I.c] at g2
          rw [if_neg (Nat.ne_of_lt g2)] at e2
          simp only [Option.some.injEq, Prod.mk.injEq] at e1
          have := hRl _ _ _ _ _ _ h2 e2
          omega
        · cases h1
      · rename_i g1 g2
        rw [List.getElem?_singleton] at h1 h2
        split at h1
        · split at h2
          · omega
          · cases h2
        · cases h1
  · simp [X', I.c, hb1]
  · rw [hB]
    refine ⟨fun i hi _ => List.getElem?_append_left hi, by simp, fun _ _ _ => rfl, Nat.le_refl _, fun i w => ?_, fun i hi => .inl ⟨i, hi, rfl⟩, fun _ _ e => .inl e⟩
    obtain ⟨j, z', c', m, h1, h2⟩ := w
    simp only at h1
    rw [List.getElem?_append] at h1
    simp only [X'] at h2
    split at h1
    · rename_i g
      rw [I.c] at g
      rw [if_neg (Nat.ne_of_lt g)] at h2
      exact .inl ⟨j, z', c', m, h1, h2⟩
    · rename_i g
      rw [List.getElem?_singleton] at h1
      split at h1
      · have : j = X.c := by rw [← I.c]; omega
        rw [if_pos this] at h2
        simp only [Option.some.injEq, Prod.mk.injEq] at h2
        right; omega
      · cases h1

theorem freeze1 {X : RX} {h : SH} {dh : Hp} (I : Inv X h dh) {j : Nat} {fz : Bool} {z : Nat} {c : RC} (hj : h.R[j]? = some (.live fz z c)) :
    ∃ X', X.le X' ∧ X'.R = X.R ∧ X'.c = X.c ∧ Inv X' { h with R := h.R.set j (.live true z c) } dh ∧ (∀ i m, (X.R j).1 = some (i, m) → X'.z i = dh.R[i]?) ∧ Step X h dh X' { h with R := h.R.set j (.live true z c) } dh ∧
      (∀ i, X.nb = X'.nb ∧ X'.bi i = X.bi i) := by
  classical
  let X' : RX := { X with z := fun q => if ∃ m, (X.R j).1 = some (q, m) then dh.R[q]? else X.z q }
  have le : X.le X' := by
    refine ⟨fun i k e => ?_, Nat.le_refl _, fun _ _ => rfl, Nat.le_refl _, fun _ _ => ⟨rfl, rfl⟩⟩
    simp only [X']
    split
    · exact I.z i k e
    · exact e
  have hR := I.row j fz z c hj
  have zn : ∀ i k, X'.z i = some k → X.z i = some k ∨ WR X h i ∨ dh.R.length ≤ i := by
    intro i k e
    simp only [X'] at e
    split at e
    · rename_i hm
      obtain ⟨m, hm⟩ := hm
      cases fz with
      | false => exact .inr (.inl ⟨j, z, c, m, hj, hm⟩)
      | true =>
        unfold RowOk at hR
        rw [hm] at hR
        obtain ⟨_, b, b1, _, _, _, _, b7⟩ := hR
        simp only [FzOk] at b7
        rw [b1] at e
        cases e
        exact .inl b7
    · exact .inl e
  have set_ne : ∀ {j' : Nat} {b : RB}, (h.R.set j (.live true z c))[j']? = some b → (j' = j ∧ b = .live true z c) ∨ (j' ≠ j ∧ h.R[j']? = some b) := by
    intro j' b e
    rw [List.getElem?_set] at e
    by_cases hjj : j = j'
    · subst hjj
      rw [if_pos rfl, if_pos (u02 hj)] at e
      cases e; exact .inl ⟨rfl, rfl⟩
    · rw [if_neg hjj] at e; exact .inr ⟨fun h => hjj h.symm, e⟩
  have wr : ∀ i, WR X' { h with R := h.R.set j (.live true z c) } i → WR X h i := by
    rintro i ⟨j', z', c', m, h1, h2⟩
    rcases set_ne h1 with ⟨_, h1⟩ | ⟨_, h1⟩
    · cases h1
    · exact ⟨j', z', c', m, h1, h2⟩
  refine ⟨X', le, rfl, rfl, ⟨by simp [X', I.c], I.nb, fun i cs hi => let ⟨z, ds, e1, e2⟩ := I.box i cs hi; ⟨z, ds, e1, e2.mono le⟩, I.bdist, fun i k e => ?_, fun j' fz' z' c' hj' => ?_, fun j1 j2 z1 c1 z2 c2 i m m' h1 h2 e1 e2 => ?_⟩, fun i m e => ?_,
    ⟨fun _ _ _ => rfl, Nat.le_refl _, fun _ _ _ => rfl, Nat.le_refl _, fun i w => .inl (wr i w), fun i hi => .inl ⟨i, hi, rfl⟩, zn⟩, fun i => ⟨rfl, rfl⟩⟩
  · simp only [X'] at e
    split at e
    · exact e
    · exact I.z i k e
  · rcases set_ne hj' with ⟨rfl, h1⟩ | ⟨hne, h1⟩
    · cases h1
      have R := hR
      unfold RowOk at R ⊢
      refine ⟨R.1, ?_⟩
      have R2 := R.2
      cases e : (X.R j').1 with
      | none =>
        rw [e] at R2
        exact R2.mono le
      | some q =>
        obtain ⟨i, m⟩ := q
        rw [e] at R2
        obtain ⟨k, k1, k2, k3, k4, k5, k6⟩ := R2
        refine ⟨k, k1, k2, k3, k4, k5.mono le, ?_⟩
        simp only [FzOk, X']
        rw [if_pos ⟨m, e⟩]; exact k1
    · refine (I.row j' fz' z' c' h1).mono le (by rw [← I.c]; exact u02 h1) (fun _ _ _ => rfl) (fun hf i m e hz => ?_)
      simp only [X']
      rw [if_neg]
      · exact hz
      · rintro ⟨m', e'⟩
        cases fz with
        | true =>
          have R := hR
          unfold RowOk at R
          rw [e'] at R
          obtain ⟨_, k, _, _, _, _, _, k6⟩ := R
          simp only [FzOk] at k6
          rw [k6] at hz; cases hz
        | false => subst hf; exact hne (I.dist _ _ _ _ _ _ _ _ _ h1 hj e e')
  · rcases set_ne h1 with ⟨_, h1⟩ | ⟨_, h1⟩
    · cases h1
    rcases set_ne h2 with ⟨_, h2⟩ | ⟨_, h2⟩
    · cases h2
    exact I.dist _ _ _ _ _ _ _ _ _ h1 h2 e1 e2
  · simp only [X']
    rw [if_pos ⟨m, e⟩]

theorem u43 : ∀ (js : List Nat) (R : List RB) (j : Nat), j ∉ js → (freeze js R)[j]? = R[j]?
  | [], _, _, _ => rfl
  | i :: js, R, j, h => by
    simp only [List.mem_cons, not_or] at h
    simp only [freeze]
    split
    · rw [u43 js _ j h.2, List.getElem?_set, if_neg (fun e => h.1 e.symm)]
    · exact u43 js R j h.2
theorem u4k : ∀ (js : List Nat) (R : List RB), (freeze js R).length = R.length
  | [], _ => rfl
  | i :: js, R => by
    simp only [freeze]
    split
    · rw [u4k js]; simp
    · exact u4k js R
theorem u42 {dh : Hp} : ∀ (js : List Nat) {X : RX} {h : SH}, Inv X h dh →
    ∃ X', X.le X' ∧ X'.R = X.R ∧ X'.c = X.c ∧ Inv X' { h with R := freeze js h.R } dh ∧ Over X X' h dh js ∧ Step X h dh X' { h with R := freeze js h.R } dh ∧ (∀ i, X.nb = X'.nb ∧ X'.bi i = X.bi i)
  | [], X, h, I => ⟨X, RX.le.refl X, rfl, rfl, I, ⟨fun _ _ e => e, fun j hj => nomatch hj⟩, Step.refl X h dh, fun _ => ⟨rfl, rfl⟩⟩
  | j :: js, X, h, I => by
    simp only [freeze]
    split
    · rename_i fz z c hj
      obtain ⟨X1, l1, r1, c1, I1, o1, s1, n1⟩ := freeze1 I hj
      obtain ⟨X2, l2, r2, c2, I2, o2, s2, n2⟩ := u42 js I1
      refine ⟨X2, l1.trans l2, r2.trans r1, c2.trans c1, I2, ⟨fun i k e => l2.z i k (l1.z i k e), fun j' hj' fz' z' c' i m e1 e2 => ?_⟩, s1.trans s2, fun i => ⟨(n1 i).1.trans (n2 i).1, (n2 i).2.trans (n1 i).2⟩⟩
      by_cases hjj : j' = j
      · subst hjj
        have h1 := o1 i m e2
        rw [hj] at e1; cases e1
        have R := I.row _ _ _ _ hj
        unfold RowOk at R
        rw [e2] at R
        obtain ⟨_, k, k1, _⟩ := R
        rw [k1] at h1 ⊢
        exact l2.z _ _ h1
      · have : j' ∈ js := by
          rcases List.mem_cons.1 hj' with h | h
          · exact absurd h hjj
          · exact h
        refine o2.own j' this fz' z' c' i m ?_ (by rw [r1]; exact e2)
        simp only
        rw [List.getElem?_set, if_neg (fun e => hjj e.symm)]; exact e1
    · rename_i hn
      obtain ⟨X2, l2, r2, c2, I2, o2, s2, n2⟩ := u42 js I
      refine ⟨X2, l2, r2, c2, I2, ⟨l2.z, fun j' hj' fz' z' c' i m e1 e2 => ?_⟩, s2, n2⟩
      rcases List.mem_cons.1 hj' with h | h
      · subst h; exact absurd e1 (hn fz' z' c')
      · exact o2.own j' h fz' z' c' i m e1 e2

theorem storeRow {X : RX} {h : SH} {dh : Hp} (I : Inv X h dh) {j i m z : Nat} {c c' : RC} {b b' : Blk} (hj : h.R[j]? = some (.live false z c)) (e : (X.R j).1 = some (i, m)) (hb : dh.R[i]? = some b) (hs : b'.s = b.s) (hz : b'.z = b.z)
    (hl : b'.xs.length = b.xs.length) (hc : c'.len = c.len) (k : RCon X z c' b'.xs) : Inv X (h.setR j (.live false z c')) (dh.put true i b') ∧ Step X h dh X (h.setR j (.live false z c')) (dh.put true i b') := by
  have R := I.row _ _ _ _ hj
  unfold RowOk at R
  rw [e] at R
  obtain ⟨R1, k0, k1, k2, k3, k4, k5, k6⟩ := R
  rw [hb] at k1; cases k1
  simp only [FzOk] at k6
  have hi := u02 hb
  have put : dh.put true i b' = { dh with R := dh.R.set i b' } := by simp [Hp.put]
  have set_ne : ∀ {j' : Nat} {x : RB}, (h.R.set j (.live false z c'))[j']? = some x → (j' = j ∧ x = .live false z c') ∨ (j' ≠ j ∧ h.R[j']? = some x) := by
    intro j' x e
    rw [List.getElem?_set] at e
    by_cases hjj : j = j'
    · subst hjj
      rw [if_pos rfl, if_pos (u02 hj)] at e
      cases e; exact .inl ⟨rfl, rfl⟩
    · rw [if_neg hjj] at e; exact .inr ⟨fun h => hjj h.symm, e⟩
  have ne : ∀ j' fz z' c2 i' m', h.R[j']? = some (.live fz z' c2) → j' ≠ j → (X.R j').1 = some (i', m') → i ≠ i' := by
    intro j' fz z' c2 i' m' h1 hne e1 hii
    subst hii
    cases fz with
    | false => exact hne (I.dist _ _ _ _ _ _ _ _ _ h1 hj e1 e)
    | true =>
      have R := I.row _ _ _ _ h1
      unfold RowOk at R
      rw [e1] at R
      obtain ⟨_, q, _, _, _, _, _, q6⟩ := R
      simp only [FzOk] at q6
      rw [k6.1] at q6; cases q6
  rw [put]
  refine ⟨⟨by simp [SH.setR, I.c], I.nb, I.box, I.bdist, fun q k e' => ?_, fun j' fz' z' c2 hj' => ?_, fun j1 j2 z1 c1 z2 c2 q m1 m2 h1 h2 e1 e2 => ?_⟩, ⟨fun q hq hw => ?_, by simp, fun _ _ _ => rfl, Nat.le_refl _, fun q w => ?_, fun q hq => .inl ⟨q, hq, rfl⟩, fun _ _ e => .inl e⟩⟩
  · simp only
    rw [List.getElem?_set, if_neg]
    · exact I.z q k e'
    · rintro rfl; rw [k6.1] at e'; cases e'
  · rcases set_ne hj' with ⟨rfl, h1⟩ | ⟨hne, h1⟩
    · cases h1
      unfold RowOk
      rw [e]
      refine ⟨hc.trans R1, b', by simp [hi], hs.trans k2, hz.trans k3, by rw [hc, hl]; exact k4, ?_, k6.1, by rw [hc, hl]; exact k6.2⟩
      have : b'.xs.take c'.len = b'.xs := by rw [hc, k6.2, ← hl, List.take_length]
      rw [this]; exact k
    · exact (I.row j' fz' z' c2 h1).mono (RX.le.refl X) (by rw [← I.c]; exact u02 h1) (fun i' m' e1 => by simp only; rw [List.getElem?_set, if_neg (ne _ _ _ _ _ _ h1 hne e1)]) (fun _ _ _ _ e => e)
  · have pull : ∀ {j' : Nat} {z' : Nat} {c2 : RC}, (h.R.set j (.live false z c'))[j']? = some (.live false z' c2) → ∃ z3 c3, h.R[j']? = some (.live false z3 c3) := by
      intro j' z' c2 e
      rcases set_ne e with ⟨rfl, _⟩ | ⟨_, e⟩
      · exact ⟨_, _, hj⟩
      · exact ⟨_, _, e⟩
    obtain ⟨_, _, g1⟩ := pull h1
    obtain ⟨_, _, g2⟩ := pull h2
    exact I.dist _ _ _ _ _ _ _ _ _ g1 g2 e1 e2
  · simp only
    rw [List.getElem?_set, if_neg]
    rintro rfl
    exact hw ⟨j, z, c, m, hj, e⟩
  · obtain ⟨j', z', c2, m', h1, h2⟩ := w
    rcases set_ne h1 with ⟨rfl, _⟩ | ⟨_, h1⟩
    · exact .inl ⟨j', z, c, m', hj, h2⟩
    · exact .inl ⟨j', z', c2, m', h1, h2⟩
theorem storeBox {X : RX} {h : SH} {dh : Hp} (I : Inv X h dh) {i : Nat} {cs cs' : List SV} {z : Nat} {ds ds' : List DV} (hi : h.B[i]? = some cs) (hb : dh.B[X.bi i]? = some ⟨X.bm i, z, [ds]⟩) (k : RVs X cs' ds') :
    Inv X { h with B := h.B.set i cs' } (dh.put false (X.bi i) ⟨X.bm i, z, [ds']⟩) ∧ Step X h dh X { h with B := h.B.set i cs' } (dh.put false (X.bi i) ⟨X.bm i, z, [ds']⟩) := by
  have hlt := u02 hi
  rw [I.nb] at hlt
  have put : dh.put false (X.bi i) ⟨X.bm i, z, [ds']⟩ = { dh with B := dh.B.set (X.bi i) ⟨X.bm i, z, [ds']⟩ } := by simp [Hp.put]
  rw [put]
  refine ⟨⟨I.c, by simp [I.nb], fun i' cs2 h1 => ?_, I.bdist, I.z, I.row, I.dist⟩, ⟨fun _ _ _ => rfl, Nat.le_refl _, fun q hq hn => ?_, by simp, fun q w => .inl w, fun q hq => .inl ⟨q, hq, rfl⟩, fun _ _ e => .inl e⟩⟩
  · simp only at h1 ⊢
    rw [List.getElem?_set] at h1
    by_cases hii : i = i'
    · subst hii
      rw [if_pos rfl, if_pos (u02 hi)] at h1
      cases h1
      exact ⟨z, ds', by rw [List.getElem?_set, if_pos rfl, if_pos (u02 hb)], k⟩
    · rw [if_neg hii] at h1
      obtain ⟨z2, ds2, e1, e2⟩ := I.box i' cs2 h1
      have hlt' := u02 h1
      rw [I.nb] at hlt'
      refine ⟨z2, ds2, ?_, e2⟩
      rw [List.getElem?_set, if_neg]
      · exact e1
      · intro e; exact hii (I.bdist i i' hlt hlt' e)
  · simp only
    rw [List.getElem?_set, if_neg (hn i hlt)]

theorem u4d {X Y : RX} {h : SH} {dh : Hp} (I : Inv X h dh) {v : Bool} {s : Sh} {z : Nat} : ∀ {rows : List (List SV)} {rs : List (List DV)} {l : List (El s)}, Over X Y h dh (rows.map u0m).flatten →
    rowsL (lvOf v) h s rows = some l → RRows (fun cs r => cs.length = z ∧ RVs X cs r) rows rs → RRows (RP Y v s) l rs
  | [], [], l, o, h, _ => by simp [rowsL] at h; subst h; trivial
  | cs :: rows, r :: rs, l, o, hl, k => by
    simp only [rowsL, List.mapM_cons, Option.pure_def, Option.bind_eq_bind, Option.bind_eq_some_iff] at hl
    obtain ⟨b, h1, l', h2, h3⟩ := hl
    cases h3
    have ho : ∀ j ∈ ow (lvOf v) cs, j ∈ ((cs :: rows).map u0m).flatten := by
      intro j hj
      cases v with
      | false => exact nomatch hj
      | true => simp only [List.map_cons, List.flatten_cons]; exact List.mem_append_left _ hj
    refine ⟨?_, u4d I (o.sub fun j hj => by simp only [List.map_cons, List.flatten_cons]; exact List.mem_append_right _ hj) h2 k.2⟩
    split at h1
    · rename_i x e
      cases h1
      obtain ⟨us, ds, dr, g1, g2, g3, g4⟩ := u4H I (by cases v <;> simp [lvOf]) (o.sub ho) e k.1.2
      cases dr with
      | nil =>
        rw [List.append_nil] at g2
        subst g2
        cases v <;> exact g3
      | cons _ _ => simp [RVs] at g4
    · cases h1
  | [], _ :: _, _, _, _, h => h.elim
  | _ :: _, [], _, _, _, h => h.elim

theorem sElems_ok {X : RX} {h : SH} {dh : Hp} (I : Inv X h dh) {z : Nat} {st : Bool} {v : SV} {d : DV} {n : Nat} {c : RC} (hs : sElems h z st v = some (n, c)) (k : RV X v d) :
    ∃ rows, u1n dh z st d = some rows ∧ RCon X z c rows ∧ n = rows.length := by
  cases st with
  | true =>
    simp only [sElems] at hs
    split at hs
    · rename_i b
      split at hs
      · rename_i hz
        cases hs
        subst hz
        rw [k.str]
        refine ⟨b.toList.map fun x => [.int .u8 x.toNat], by simp [u1n, u68], ⟨rfl, ?_⟩, by rw [List.length_map, ByteArray.toList_eq]; exact Array.length_toList.symm⟩
        generalize b.toList = l
        induction l with
        | nil => trivial
        | cons x l ih => exact ⟨rfl, ih⟩
      · cases hs
    · cases hs
  | false =>
    simp only [sElems] at hs
    simp only [u1n, Bool.false_eq_true, if_false]
    cases v <;> simp only [reduceCtorEq] at hs
    · cases hs
      simp only [RV] at k
      subst k
      exact ⟨[], rfl, trivial, rfl⟩
    · rename_i s l
      split at hs
      · rename_i hz
        cases hs
        simp only [RV] at k
        rcases k with ⟨rfl, rfl⟩ | ⟨rows, rfl, k⟩
        · exact ⟨[], rfl, ⟨hz.symm, trivial⟩, rfl⟩
        · exact ⟨rows, by simp [elems, hz], ⟨hz.symm, k⟩, k.length⟩
      · cases hs
    · rename_i vv s l
      split at hs
      · rename_i hz
        cases hs
        simp only [RV] at k
        rcases k.parts with ⟨rfl, rfl⟩ | ⟨rfl, rows, rfl, k1⟩ | ⟨i, m, off, b, rfl, k1, k2, k3, k4, k5⟩
        · exact ⟨[], rfl, ⟨hz.symm, trivial⟩, rfl⟩
        · exact ⟨rows, by simp [elems, hz], ⟨hz.symm, k1⟩, k1.length⟩
        · exact ⟨_, u5f (I.z _ _ k1) k2 (by rw [k3, hz]) k4, ⟨hz.symm, k5⟩, k5.length⟩
      · cases hs
    · rename_i j
      split at hs <;> first
        | (cases hs; done)
        | skip
      all_goals
        rename_i hR
        split at hs
        · rename_i hz
          cases hs
          subst hz
          rcases u53 I k hR with ⟨rfl, k2, k3⟩ | ⟨i, m, b, rfl, k2, k3, k4, k5, k6, k7⟩
          · exact ⟨[], rfl, k3, k2⟩
          · refine ⟨_, u5f k3 k4 k5 (by omega), by simpa using k7, ?_⟩
            simp only [List.drop_zero]
            exact k7.len
        · cases hs

theorem sJoin_ok {X Y : RX} (le : X.le Y) {h : SH} {dh : Hp} (I : Inv X h dh) {z : Nat} {a b c : RC} {js : List Nat} {ra rb : List (List DV)} (hs : sJoin h a b = some (c, js)) (o : Over X Y h dh js) (ha : RCon X z a ra) (hb : RCon X z b rb) :
    RCon Y z c (ra ++ rb) ∧ c.len = a.len + b.len := by
  unfold sJoin at hs
  split at hs
  · rename_i v s l v' s' m
    split at hs
    case isFalse => cases hs
    rename_i hv
    subst hv
    rw [Option.map_eq_some_iff] at hs
    obtain ⟨m', h1, h2⟩ := hs
    cases h2
    obtain ⟨rfl, rfl⟩ := u1i h1
    exact ⟨⟨ha.1, (ha.2.mono fun x r q => RP.mono le.z q).append (hb.2.mono fun x r q => RP.mono le.z q)⟩, by simp [RC.len]⟩
  · rename_i v s l rows
    rw [Option.map_eq_some_iff] at hs
    obtain ⟨m', h1, h2⟩ := hs
    cases h2
    have q := u4d I o h1 hb
    exact ⟨⟨ha.1, (ha.2.mono fun x r q => RP.mono le.z q).append q⟩, by simp [RC.len, q.length, ← RRows.length hb]⟩
  · rename_i v s l
    cases hs
    cases ra with
    | nil => exact ⟨⟨hb.1, hb.2.mono fun x r q => q.mono le.z⟩, by simp [RC.len]⟩
    | cons _ _ => exact ha.elim
  · rename_i rows rows'
    cases hs
    exact ⟨RRows.append (RRows.mono (fun x r q => ⟨q.1, q.2.mono le⟩) ha) (RRows.mono (fun x r q => ⟨q.1, q.2.mono le⟩) hb), by simp [RC.len]⟩
  · rename_i rows v s l hne
    rw [Option.map_eq_some_iff] at hs
    obtain ⟨m', h1, h2⟩ := hs
    cases h2
    have q := u4d I o h1 ha
    exact ⟨⟨hb.1, q.append (hb.2.mono fun x r q => RP.mono le.z q)⟩, by simp [RC.len, q.length, ← RRows.length ha]⟩

end Go.Dv
/- The engine, second storey: an operation. -/
set_option linter.unusedVariables false
set_option linter.unusedSimpArgs false
namespace Go.Dv

def ApOk (X : RX) (dl : List DV) : List (Nat × SV) → List (Nat × Opd) → Prop
  | [], [] => True
  | p :: ps, q :: qs => p.1 = q.1 ∧ RV X p.2 (q.2.ev dl) ∧ ApOk X dl ps qs
  | _, _ => False
theorem ApOk.all {X : RX} {dl : List DV} {P : Nat × SV → Bool} {Q : Nat × Opd → Bool} (hpq : ∀ n p q, P (n, p) = true → RV X p (q.ev dl) → Q (n, q) = true) : ∀ {ps : List (Nat × SV)} {qs : List (Nat × Opd)}, ApOk X dl ps qs → ps.all P = true → qs.all Q = true
  | [], [], _, _ => rfl
  | [], _ :: _, h, _ => h.elim
  | _ :: _, [], h, _ => h.elim
  | (n, p) :: ps, (n', q) :: qs, h, k => by
    obtain ⟨h1, h2, h3⟩ := h
    simp only at h1 h2
    subst h1
    simp only [List.all_cons, Bool.and_eq_true] at k ⊢
    exact ⟨hpq n p q k.1 h2, ApOk.all hpq h3 k.2⟩

theorem apart_ok {X : RX} {h : SH} {dh : Hp} (I : Inv X h dh) {x y : SV} {d e : DV} {z z' : Nat} (hs : sApart x z y z' = true) (hx : RV X x d) (hy : RV X y e)
    (hw : ∀ j n o, x = .ep j n o → ∀ i m, (X.R j).1 = some (i, m) → X.z i = none) : u26 d z e z' = true := by
  unfold sApart at hs
  split at hs
  · simp only [RV] at hx hy
    obtain ⟨h1, rfl⟩ := hx
    obtain ⟨h2, rfl⟩ := hy
    simp only [Bool.or_eq_true, bne_iff_ne, ne_eq, decide_eq_true_eq] at hs
    simp only [u26, Bool.or_eq_true, bne_iff_ne, ne_eq, decide_eq_true_eq]
    rcases hs with (hs | hs) | hs
    · exact .inl (.inl (.inl (.inr fun e => hs (I.bdist _ _ h1 h2 e))))
    · exact .inl (.inr hs)
    · exact .inr hs
  · simp only [RV] at hx hy
    obtain ⟨h1, rfl⟩ := hx
    rcases hy with ⟨_, rfl, _⟩ | ⟨_, _, _, _, _, _, rfl, _⟩ <;> simp [u26]
  · simp only [RV] at hx hy
    obtain ⟨h1, rfl⟩ := hx
    obtain ⟨_, _, _, _, _, _, rfl⟩ := hy
    simp [u26]
  · simp only [RV] at hx hy
    obtain ⟨_, _, _, _, _, _, rfl⟩ := hx
    obtain ⟨_, _, _, _, _, _, rfl⟩ := hy
    simp only [Bool.or_eq_true, decide_eq_true_eq] at hs
    simp only [u26, Bool.or_eq_true, decide_eq_true_eq]
    rcases hs with hs | hs
    · exact .inl (.inr hs)
    · exact .inr hs
  · rename_i j n o cs
    have hw' := hw j n o rfl
    simp only [RV] at hx hy
    obtain ⟨_, _, _, i, m, hi, rfl⟩ := hx
    rcases hy with ⟨_, rfl, _⟩ | ⟨i', m', e', o', k, r, rfl, h2, _⟩
    · simp [u26]
    · have h1 := hw' i m hi
      have : i ≠ i' := by rintro rfl; rw [h1] at h2; cases h2
      simp [u26, this]
  · simp only [RV] at hx hy
    obtain ⟨_, _, _, _, _, _, rfl⟩ := hx
    obtain ⟨h1, rfl⟩ := hy
    simp [u26]
  · cases hs

theorem look_ok {X : RX} {h : SH} {dh : Hp} (I : Inv X h dh) {n : Nat} {p : SV} {d : DV} (hs : lookOk h n p = true) (k : RV X p d) : ∃ cs, look dh n d = some cs := by
  unfold lookOk at hs
  split at hs
  · simp only [decide_eq_true_eq] at hs
    simp only [RV] at k
    rcases k with ⟨ds, rfl, k⟩ | ⟨i, m, e, o, b, r, rfl, k1, k2, k3, k4⟩
    · exact ⟨ds.take n, by simp only [look]; rw [if_pos (by rw [← k.length]; exact hs.2)]⟩
    · have hl := k4.length
      simp at hl
      exact ⟨(r.drop o).take n, by simp only [look, u0x (I.z _ _ k1) k2, k3]; rw [if_pos (by omega)]⟩
  · split at hs
    · rename_i i o cs hB
      simp only [decide_eq_true_eq] at hs
      simp only [RV] at k
      obtain ⟨k1, rfl⟩ := k
      obtain ⟨z, ds, e1, e2⟩ := I.box _ _ hB
      refine ⟨(ds.drop i).take n, ?_⟩
      simp only [look, Hp.blk, Hp.heap, Bool.false_eq_true, if_false, e1, if_true, List.getElem?_cons_zero]
      rw [if_pos (by rw [← e2.length]; exact hs)]
    · cases hs
  · cases hs

def Sim2 (K : Oracle) (X : RX) (h : SH) (dh : Hp) (dl : List DV) (o : DOp) (v : SV) (h' : SH) : Prop :=
  ∃ d dh' X', step K dl dh o = some (d, dh') ∧ X.le X' ∧ Inv X' h' dh' ∧ RV X' v d ∧ Step X h dh X' h' dh'
theorem Sim2.quiet {K : Oracle} {sp : Specs} (SO : u0F K sp) {X : RX} {h h' : SH} {dh : Hp} {l : List SV} {dl : List DV} (I : Inv X h dh) (L : RVs X l dl) {o : DOp} {v : SV}
    (hs : ((stepQ sp l h o).bind fun v => T.ret (v, h)).sem = some (v, h')) : Sim2 K X h dh dl o v h' := by
  obtain ⟨v', h1, h2⟩ := T.sem_bind hs
  cases T.sem_ret h2
  obtain ⟨d, k1, k2⟩ := stepQ_ok SO I L h1
  exact ⟨d, dh, X, k1, RX.le.refl X, I, k2, Step.refl X h dh⟩

theorem u5B {X' : RX} {h : SH} {i m n : Nat} (hR : X'.R h.R.length = (some (i, m), n)) (hc : h.R.length < X'.c) : RV X' (.own h.R.length) (.sl i m 0 n) := by
  simp only [RV, hR]
  exact ⟨hc, trivial⟩

theorem u4V {X : RX} {z : Nat} : ∀ (n : Nat) {cs : List SV} {ds : List DV}, RVs X cs ds → cs.length = n * z → RRows (fun cs r => cs.length = z ∧ RVs X cs r) (u6x z n cs) (chunk z n ds)
  | 0, _, _, _, _ => trivial
  | n + 1, cs, ds, h, hl => by
    simp only [u6x, chunk]
    refine ⟨⟨?_, h.take z⟩, u4V n (h.drop z) (by simp [hl, Nat.add_mul])⟩
    simp [hl, Nat.add_mul]
theorem schunk_len {z : Nat} : ∀ (n : Nat) (l : List SV), (u6x z n l).length = n
  | 0, _ => rfl
  | n + 1, l => by simp [u6x, schunk_len n]
theorem u6q : ∀ (vs cs : List SV) (off : Nat), (sover cs off vs).length = cs.length
  | [], _, _ => rfl
  | v :: vs, cs, off => by simp [sover, u6q vs]
theorem u2I : ∀ (vs cs : List DV) (off : Nat), (u07 cs off vs).length = cs.length
  | [], _, _ => rfl
  | v :: vs, cs, off => by simp [u07, u2I vs]
theorem sfill_len : ∀ {ps : List (Nat × List SV)} {cs r : List SV}, sfill cs ps = some r → r.length = cs.length
  | [], _, _, h => by simp [sfill] at h; subst h; rfl
  | (off, vs) :: ps, cs, r, h => by
    simp only [sfill] at h
    split at h
    · rw [sfill_len h, u6q]
    · cases h
theorem u6m {X : RX} (zero : List DV) : RVs X (ofDV (.agg zero)).cells zero := by
  have q := (ofDV_ok (X := X) (.agg zero)).cellsOf (by simp [ofDV])
  simpa [DV.cells] using q
theorem RVs.flatten {X : RX} : ∀ {as : List (List SV)} {bs : List (List DV)}, RRows (fun a b => RVs X a b) as bs → RVs X as.flatten bs.flatten
  | [], [], _ => by simp [RVs]
  | a :: as, b :: bs, h => by simp only [List.flatten_cons]; exact RVs.append h.1 (RVs.flatten h.2)
  | [], _ :: _, h => h.elim
  | _ :: _, [], h => h.elim

theorem allocS_ok {K : Oracle} {sp : Specs} {X : RX} {h h' : SH} {dh : Hp} {l : List SV} {dl : List DV} (I : Inv X h dh) (L : RVs X l dl) {ap : List (Nat × SV)} {esc : Bool} {z : Nat} {cs : List DV} {v : SV} (hs : (stepS sp l h ap (.alloc esc z cs)).sem = some (v, h')) :
    Sim2 K X h dh dl (.alloc esc z cs) v h' := by
  simp only [stepS] at hs
  cases esc with
  | false =>
    simp only at hs
    cases T.sem_ret hs
    obtain ⟨X', g1, g2, g3, g4⟩ := newBox I (u6m (X := X) cs) z
    exact ⟨_, _, X', rfl, g1, g2, g3, g4⟩
  | true =>
    simp only at hs
    split at hs
    case isFalse => exact (T.sem_fail hs).elim
    rename_i hz
    cases T.sem_ret hs
    obtain ⟨X', g1, g2, g3, g4, g5⟩ := newRow I (z := z) (c := .raw [(ofDV (.agg cs)).cells]) (rows := [cs]) ⟨⟨by rw [(u6m (X := X) cs).length]; exact hz, u6m cs⟩, trivial⟩
    refine ⟨_, _, X', rfl, g1, g2, ?_, g5⟩
    simp only [RV, g3]
    exact ⟨g4, by simp, by simp [RC.len], _, _, rfl, rfl⟩
theorem boxS_ok {K : Oracle} {sp : Specs} {X : RX} {h h' : SH} {dh : Hp} {l : List SV} {dl : List DV} (I : Inv X h dh) (L : RVs X l dl) {ap : List (Nat × SV)} {esc : Bool} {z : Nat} {x : Opd} {v : SV} (hs : (stepS sp l h ap (.box esc z x)).sem = some (v, h')) :
    Sim2 K X h dh dl (.box esc z x) v h' := by
  simp only [stepS] at hs
  split at hs
  case isFalse => exact (T.sem_fail hs).elim
  rename_i hc
  obtain ⟨k1, k2⟩ := put_ok hc.2 (sv_ok L x)
  have hd : (x.ev dl).cells.length = z ∧ (x.ev dl).cells.all DV.isCell = true := ⟨by rw [← k1.length]; exact hc.1, k2⟩
  cases esc with
  | false =>
    simp only at hs
    cases T.sem_ret hs
    obtain ⟨X', g1, g2, g3, g4⟩ := newBox I k1 z
    exact ⟨_, _, X', by simp only [step]; rw [if_pos hd], g1, g2, g3, g4⟩
  | true =>
    simp only at hs
    cases T.sem_ret hs
    obtain ⟨X', g1, g2, g3, g4, g5⟩ := newRow I (z := z) (c := .raw [(x.sv l).cells]) (rows := [(x.ev dl).cells]) ⟨⟨hc.1, k1⟩, trivial⟩
    refine ⟨_, _, X', by simp only [step]; rw [if_pos hd], g1, g2, ?_, g5⟩
    simp only [RV, g3]
    exact ⟨g4, by simp, by simp [RC.len], _, _, rfl, rfl⟩
theorem buildSliceS_ok {K : Oracle} {sp : Specs} {X : RX} {h h' : SH} {dh : Hp} {l : List SV} {dl : List DV} (I : Inv X h dh) (L : RVs X l dl) {ap : List (Nat × SV)} {z len : Nat} {zero : List DV} {ps : List (Nat × Opd)} {v : SV} (hs : (stepS sp l h ap (.buildSlice z len zero ps)).sem = some (v, h')) :
    Sim2 K X h dh dl (.buildSlice z len zero ps) v h' := by
  simp only [stepS] at hs
  split at hs
  case isFalse => exact (T.sem_fail hs).elim
  rename_i hc
  split at hs
  case h_2 => exact (T.sem_fail hs).elim
  rename_i cs hf
  cases T.sem_ret hs
  obtain ⟨hc0, hc1, hc⟩ := hc
  rw [List.all_eq_true] at hc
  have hp : ∀ p ∈ ps, RVs X (p.2.sv l).cells (p.2.ev dl).cells ∧ (p.2.ev dl).cells.all DV.isCell = true ∧ (p.2.ev dl).cells.length = z := by
    intro p hpm
    have := hc p hpm
    simp only [Bool.and_eq_true, beq_iff_eq] at this
    obtain ⟨g1, g2⟩ := put_ok this.2 (sv_ok L p.2)
    exact ⟨g1, g2, by rw [← g1.length]; exact this.1⟩
  have hz : RVs X (List.replicate len (ofDV (.agg zero)).cells).flatten (List.replicate len zero).flatten := RVs.flatten (RRows.replicate (u6m zero) len)
  obtain ⟨r, h1, h2⟩ := sfill_ok (qs := ps.map fun p => (p.1 * z, (p.2.ev dl).cells)) hf hz (by simp) (fun i p q hi hj => by
    rw [List.getElem?_map, Option.map_eq_some_iff] at hi hj
    obtain ⟨a, ha, rfl⟩ := hi
    obtain ⟨b, hb, rfl⟩ := hj
    rw [ha] at hb; cases hb
    exact ⟨rfl, (hp a (List.mem_of_getElem? ha)).1⟩)
  have hl : cs.length = len * z := by
    rw [sfill_len hf]
    have : (ofDV (.agg zero)).cells.length = z := by rw [(u6m (X := X) zero).length]; exact hc1
    simp [List.length_flatten, this]
  obtain ⟨X', g1, g2, g3, g4, g5⟩ := newRow I (z := z) (c := .raw (u6x z len cs)) (rows := chunk z len r) (u4V len h2 hl)
  refine ⟨.sl (dh.new true z (chunk z len r)).1 dh.c 0 len, _, X', ?_, g1, g2, ?_, g5⟩
  · simp only [step]
    rw [if_pos, h1]
    refine ⟨hc0, ?_⟩
    rw [List.all_eq_true]
    intro p hpm
    simp [(hp p hpm).2.1, (hp p hpm).2.2]
  · have := u5B (h := h) g3 g4
    simpa [RC.len, schunk_len] using this

theorem ownsIn_set : ∀ (cs : List SV) (n : Nat) (v : SV), ∀ j ∈ u0m (cs.set n v), j ∈ u0m cs ∨ j ∈ u0m [v]
  | [], _, _, j, h => by simp [u0m] at h
  | c :: cs, 0, v, j, h => by
    rw [List.set_cons_zero, show v :: cs = [v] ++ cs from rfl, u1c, List.mem_append] at h
    rw [show c :: cs = [c] ++ cs from rfl, u1c, List.mem_append]
    rcases h with h | h
    · exact .inr h
    · exact .inl (.inr h)
  | c :: cs, n + 1, v, j, h => by
    rw [List.set_cons_succ, show c :: cs.set n v = [c] ++ cs.set n v from rfl, u1c, List.mem_append] at h
    rw [show c :: cs = [c] ++ cs from rfl, u1c, List.mem_append]
    rcases h with h | h
    · exact .inl (.inl h)
    · rcases ownsIn_set cs n v j h with h | h
      · exact .inl (.inr h)
      · exact .inr h
theorem u5V : ∀ (vs cs : List SV) (off : Nat), ∀ j ∈ u0m (sover cs off vs), j ∈ u0m cs ∨ j ∈ u0m vs
  | [], _, _, j, h => .inl h
  | v :: vs, cs, off, j, h => by
    rw [show v :: vs = [v] ++ vs from rfl, u1c, List.mem_append]
    rcases u5V vs _ _ j h with h | h
    · rcases ownsIn_set cs off v j h with h | h
      · exact .inl h
      · exact .inr (.inl h)
    · exact .inr (.inr h)
theorem u1y : ∀ (s : Sh) (x : El s) (r : List SV), u0m (u0f s x r) = u0m r
  | .int _, _, _ | .bool, _, _ | .str, _, _ | .list _, _, _ => rfl
  | .pair a b, x, r => by simp only [u0f]; rw [u1y a, u1y b]
  | .tree a, x, r => by simp only [u0f]; rw [u1y a]; rfl
  | .uno a, x, r => u1y a x r
  | .mark a, x, r => u1y a x.2 r
theorem u2w : ∀ (v : Bool) (s : Sh) (x : El s) (r : List SV), u0m (u2C v s x r) = u0m r
  | _, .int _, _, _ | _, .bool, _, _ | _, .str, _, _ | _, .list _, _, _ => rfl
  | v, .pair a b, x, r => by simp only [u2C]; rw [u2w v a, u2w v b]
  | v, .tree a, x, r => by simp only [u2C]; rw [u2w v a]; rfl
  | v, .uno a, x, r => u2w v a x r
  | v, .mark a, x, r => by
    simp only [u2C]
    generalize a.size = n
    induction n with
    | zero => rfl
    | succ n ih => rw [List.replicate_succ]; simpa [u0m] using ih
theorem u52 (v : Bool) (s : Sh) (x : El s) : u0m (cellsR v s x []) = [] := by
  cases v
  · exact u1y s x []
  · exact u2w true s x []
theorem storeC_ok {X Y : RX} {h : SH} {dh : Hp} (I : Inv X h dh) {v : Bool} {o : Nat} {cs : List SV} {ds : List DV} (O : Over X Y h dh (u0m cs)) (hc : RVs X cs ds) :
    ∀ {s : Sh} {x x' : El s} {r : List DV}, (storeC v h o cs s x).sem = some x' → RP X v s x r → RP Y v s x' (u07 r o ds) := by
  intro s x x' r hs hp
  have key : ∀ {t : Lv} (ht : t ≠ .all) {s : Sh} {y : El s} {c0 : List SV}, u0m c0 = [] → RVs X c0 r → decE t h s (sover c0 o cs) = some (y, []) → RL Y t s y (u07 r o ds) := by
    intro t ht s y c0 h0 hr hd
    have hov : ∀ j' ∈ ow t (sover c0 o cs), j' ∈ u0m cs := by
      intro j' hj'
      have hm : j' ∈ u0m (sover c0 o cs) := by
        cases t with
        | no => exact nomatch hj'
        | _ => exact hj'
      rcases u5V _ _ _ j' hm with g | g
      · rw [h0] at g; cases g
      · exact g
    obtain ⟨us, ds', dr, g1, g2, g3, g4⟩ := u4H I ht (O.sub hov) hd (u4S hc hr)
    cases dr with
    | cons _ _ => simp [RVs] at g4
    | nil => rw [List.append_nil] at g2; subst g2; exact g3
  have gen : decE (lvOf v) h s (sover (cellsR v s x []) o cs) = some (x', []) → RP Y v s x' (u07 r o ds) := by
    intro hd
    cases v with
    | true => exact key (t := .deep) (by simp) (u52 true s x) hp.cells0 hd
    | false => exact key (t := .no) (by simp) (u52 false s x) hp.cells0 hd
  cases s with
  | mark s =>
    simp only [storeC] at hs
    cases v with
    | false => exact (T.sem_fail hs).elim
    | true =>
      rcases T.sem_br hs with ⟨_, hs⟩ | ⟨hb, hs⟩
      · exact (T.sem_fail hs).elim
      · split at hs
        case h_2 => exact (T.sem_fail hs).elim
        rename_i y hd
        rw [T.sem_ret hs]
        obtain ⟨b, x⟩ := x
        simp only at hb
        subst hb
        have hr : RE s x r := hp
        show RW Y true s y _
        exact key (t := .deep) (by simp) (u1y s x []) (by simpa using hr.cells (X := X) (r := []) (dr := []) (by simp [RVs])) hd
  | _ =>
    simp only [storeC] at hs
    split at hs
    case h_2 => exact (T.sem_fail hs).elim
    rename_i y hd
    have e := T.sem_ret hs
    subst e
    exact gen hd

theorem storeS_ok {K : Oracle} {sp : Specs} {X : RX} {h h' : SH} {dh : Hp} {l : List SV} {dl : List DV} (I : Inv X h dh) (L : RVs X l dl) {ap : List (Nat × SV)} {dap : List (Nat × Opd)} (A : ApOk X dl ap dap) {z : Nat} {x y : Opd} {ap0 : List (Nat × Opd)} {v : SV}
    (hs : (stepS sp l h ap (.store z x y ap0)).sem = some (v, h')) : Sim2 K X h dh dl (.store z x y dap) v h' := by
  simp only [stepS] at hs
  split at hs
  case isFalse => exact (T.sem_fail hs).elim
  rename_i hc
  obtain ⟨c1, c2, c3⟩ := hc
  have qx := sv_ok L x
  obtain ⟨k1, k2⟩ := put_ok c2 (sv_ok L y)
  have hz : (y.ev dl).cells.length = z := by rw [← k1.length]; exact c1
  have apart : (∀ j n o, x.sv l = .ep j n o → ∀ i m, (X.R j).1 = some (i, m) → X.z i = none) → dap.all (fun p => u26 (x.ev dl) z (p.2.ev dl) p.1) = true := fun hw =>
    A.all (fun n p q e k => apart_ok I e qx k hw) c3
  cases e : x.sv l <;> rw [e] at hs qx <;> simp only at hs <;> first
    | exact (T.sem_fail hs).elim
    | skip
  · rename_i i o
    split at hs
    case h_2 => exact (T.sem_fail hs).elim
    rename_i cs hB
    split at hs
    case isFalse => exact (T.sem_fail hs).elim
    rename_i ho
    cases T.sem_ret hs
    obtain ⟨zz, ds, b1, b2⟩ := I.box _ _ hB
    obtain ⟨g1, g2⟩ := storeBox (cs' := sover cs o (y.sv l).cells) (ds' := u07 ds o (y.ev dl).cells) I hB b1 (u4S k1 b2)
    simp only [RV] at qx
    refine ⟨.undef, _, X, ?_, RX.le.refl X, g1, by simp [RV], g2⟩
    simp only [step, qx.2, Hp.blk, Hp.heap, Bool.false_eq_true, if_false, b1, if_true, List.getElem?_cons_zero, List.set_cons_zero]
    rw [if_pos ⟨hz, by rw [← b2.length]; exact ho, k2, by rw [← qx.2]; exact apart fun j n o e' => by rw [e] at e'; cases e'⟩]
  · rename_i j n o
    split at hs
    · rename_i z' vv s xs hR
      obtain ⟨xv, hx, hs⟩ := T.sem_ask hs
      obtain ⟨hn, hx⟩ := getI_ok hx
      split at hs
      case isFalse => exact (T.sem_fail hs).elim
      rename_i ho
      obtain ⟨ho, hjs⟩ := ho
      obtain ⟨x', hd, hs⟩ := T.sem_bind hs
      cases T.sem_ret hs
      generalize hjsd : u0m (y.sv l).cells = js at *
      have hjn : j ∉ js := by
        intro hj
        rw [List.all_eq_true] at hjs
        have := hjs j hj
        simp at this
      obtain ⟨X1, le1, r1, cc1, I1, O1, S1, N1⟩ := u42 js I
      have hR1 : (freeze js h.R)[j]? = some (.live false z' (.typed vv s xs)) := by rw [u43 js _ _ hjn]; exact hR
      obtain ⟨i, m, b, e1, e2, e3, e4, e5, e6, e7, e8, ⟨e9, e10⟩, e11⟩ := ep_at I qx hR
      have R1 := I1.row _ _ _ _ (show (({ h with R := freeze js h.R } : SH)).R[j]? = _ from hR1)
      unfold RowOk at R1
      rw [r1, e4] at R1
      obtain ⟨_, b', q1, q2, q3, q4, ⟨q5, q6⟩, q7⟩ := R1
      rw [e5] at q1; cases q1
      obtain ⟨r, hr, hp⟩ := e10.get hx
      have hr' := u3H hr
      have hpx : RP X1 vv s x' (u07 r o (y.ev dl).cells) := storeC_ok I (by rw [hjsd]; exact O1) k1 hd hp
      have hxl := hpx.length
      · simp only [FzOk] at q7
        have htake : b.xs.take (RC.typed vv s xs).len = b.xs := by rw [q7.2, List.take_length]
        rw [htake] at q6
        obtain ⟨w1, w2⟩ := storeRow I1 (c' := .typed vv s (xs.set n.toNat x')) (b' := { b with xs := b.xs.set n.toNat (u07 r o (y.ev dl).cells) }) hR1 (by rw [r1]; exact e4) e5 rfl rfl (by simp) (by simp [RC.len]) ⟨q5, RRows.set hpx n.toNat q6⟩
        refine ⟨.undef, _, X1, ?_, le1, w1, by simp [RV], S1.trans w2⟩
        simp only [step, e1, u0x e5 e6, hr']
        have hrl : o + z ≤ r.length := by
          have := hp.length
          omega
        have hap : dap.all (fun p => u26 (.ptr true i m n.toNat o) z (p.2.ev dl) p.1) = true := by
          rw [← e1]
          refine apart fun j' n' o' e' i' m' f => ?_
          rw [e] at e'; cases e'
          rw [e4] at f; cases f
          simp only [FzOk] at e11
          exact e11.1
        rw [if_pos ⟨hz, hrl, k2, hap⟩]
    · rename_i z' r hR
      split at hs
      case isFalse => exact (T.sem_fail hs).elim
      rename_i hn
      obtain ⟨hn, ho⟩ := hn
      subst hn
      cases T.sem_ret hs
      obtain ⟨i, m, b, e1, e2, e3, e4, e5, e6, e7, e8, e9, e11⟩ := ep_at I qx hR
      simp only [FzOk] at e11
      have htake : b.xs.take (RC.raw [r]).len = b.xs := by rw [e11.2, List.take_length]
      rw [htake] at e9
      obtain ⟨r', hr, hp⟩ := RRows.get e9 (n := 0) (x := r) rfl
      have hxs : b.xs = [r'] := by
        match hb : b.xs, e9 with
        | [q], _ => rw [hb] at hr; simp at hr; rw [hr]
        | _ :: _ :: _, h => exact h.2.elim
      obtain ⟨w1, w2⟩ := storeRow I (c' := .raw [sover r o (y.sv l).cells]) (b' := { b with xs := b.xs.set 0 (u07 r' o (y.ev dl).cells) }) hR e4 e5 rfl rfl (by simp) (by simp [RC.len]) (by
        rw [hxs]
        exact ⟨⟨by rw [u6q]; exact hp.1, u4S k1 hp.2⟩, trivial⟩)
      refine ⟨.undef, _, X, ?_, RX.le.refl X, w1, by simp [RV], w2⟩
      simp only [step, e1, Int.toNat_zero, u0x e5 e6, hr]
      have hap : dap.all (fun p => u26 (.ptr true i m 0 o) z (p.2.ev dl) p.1) = true := by
        have : DV.ptr true i m 0 o = x.ev dl := by rw [e1]; rfl
        rw [this]
        refine apart fun j' n' o' e' i' m' f => ?_
        rw [e] at e'; cases e'
        rw [e4] at f; cases f
        exact e11.1
      rw [if_pos ⟨hz, by rw [← hp.2.length]; exact ho, k2, hap⟩]
    · exact (T.sem_fail hs).elim

theorem toBytesS_ok {K : Oracle} {sp : Specs} {X : RX} {h h' : SH} {dh : Hp} {l : List SV} {dl : List DV} (I : Inv X h dh) (L : RVs X l dl) {ap : List (Nat × SV)} {x : Opd} {v : SV} (hs : (stepS sp l h ap (.toBytes x)).sem = some (v, h')) :
    Sim2 K X h dh dl (.toBytes x) v h' := by
  simp only [stepS] at hs
  split at hs
  case h_2 => exact (T.sem_fail hs).elim
  rename_i b e
  have q := sv_ok L x
  rw [e] at q
  cases T.sem_ret hs
  have hr : RRows (RP X false (.int .u8)) (b.toList.map fun x => (x.toNat : Int)) (b.toList.map fun x => [DV.int .u8 x.toNat]) := by
    generalize b.toList = l
    induction l with
    | nil => trivial
    | cons x l ih => exact ⟨rfl, ih⟩
  obtain ⟨X', g1, g2, g3, g4, g5⟩ := newRow I (z := 1) (c := .typed false (.int .u8) (b.toList.map fun x => (x.toNat : Int))) ⟨rfl, hr⟩
  refine ⟨.sl (dh.new true 1 (b.toList.map fun x => [DV.int .u8 x.toNat])).1 dh.c 0 b.size, _, X', by simp only [step, q.str], g1, g2, ?_, g5⟩
  have hb : b.size = (b.toList.map fun x => (x.toNat : Int)).length := by rw [List.length_map, ByteArray.toList_eq]; exact Array.length_toList.symm
  rw [hb]
  exact u5B (h := h) g3 g4
theorem makeSliceS_ok {K : Oracle} {sp : Specs} {X : RX} {h h' : SH} {dh : Hp} {l : List SV} {dl : List DV} (I : Inv X h dh) (L : RVs X l dl) {ap : List (Nat × SV)} {z bytes : Nat} {zero : List DV} {a c : Opd} {v : SV} (hs : (stepS sp l h ap (.makeSlice z bytes zero a c)).sem = some (v, h')) :
    Sim2 K X h dh dl (.makeSlice z bytes zero a c) v h' := by
  simp only [stepS] at hs
  split at hs
  case h_2 => exact (T.sem_fail hs).elim
  rename_i k1 n k2 m e1 e2
  have qa := sv_ok L a
  have qc := sv_ok L c
  rw [e1] at qa
  rw [e2] at qc
  rcases T.sem_br hs with ⟨hc, hs⟩ | ⟨_, hs⟩
  case inr => exact (T.sem_fail hs).elim
  simp only [Bool.and_eq_true, decide_eq_true_eq] at hc
  have fin : ∀ {s : Sh} {x : El s}, RE s x zero → s.size = z → ∃ X', X.le X' ∧ Inv X' { h with R := h.R ++ [.live false z (.typed false s (List.replicate n.toNat x))] } (dh.new true z (List.replicate n.toNat zero)).2 ∧
      RV X' (.own h.R.length) (.sl (dh.new true z (List.replicate n.toNat zero)).1 dh.c 0 n.toNat) ∧ Step X h dh X' { h with R := h.R ++ [.live false z (.typed false s (List.replicate n.toNat x))] } (dh.new true z (List.replicate n.toNat zero)).2 := by
    intro s x hx hz
    obtain ⟨X', g1, g2, g3, g4, g5⟩ := newRow I (z := z) (c := .typed false s (List.replicate n.toNat x)) (rows := List.replicate n.toNat zero) ⟨hz, RRows.replicate hx _⟩
    refine ⟨X', g1, g2, ?_, g5⟩
    have := u5B (h := h) g3 g4
    simpa [RC.len] using this
  have hst : step K dl dh (.makeSlice z bytes zero a c) = some (.sl (dh.new true z (List.replicate n.toNat zero)).1 dh.c 0 n.toNat, (dh.new true z (List.replicate n.toNat zero)).2) := by
    simp only [step, qa.int, qc.int]
    rw [if_pos ⟨hc.1.1, hc.1.2, hc.2⟩]
  split at hs
  · split at hs
    case isFalse => exact (T.sem_fail hs).elim
    rename_i k _ hz
    cases T.sem_ret hs
    obtain ⟨X', g1, g2, g3, g4⟩ := fin (s := .int k) (x := (0 : Int)) rfl hz
    exact ⟨_, _, X', hst, g1, g2, g3, g4⟩
  · split at hs
    case isFalse => exact (T.sem_fail hs).elim
    rename_i hz
    cases T.sem_ret hs
    obtain ⟨X', g1, g2, g3, g4⟩ := fin (s := .bool) (x := false) rfl hz
    exact ⟨_, _, X', hst, g1, g2, g3, g4⟩
  · exact (T.sem_fail hs).elim

theorem sliceS_ok {K : Oracle} {sp : Specs} (SO : u0F K sp) {X : RX} {h h' : SH} {dh : Hp} {l : List SV} {dl : List DV} (I : Inv X h dh) (L : RVs X l dl) {ap : List (Nat × SV)} {zz : Nat} {x : Opd} {lo hi : Option Opd} {v : SV} (hs : (stepS sp l h ap (.slice zz x lo hi)).sem = some (v, h')) :
    Sim2 K X h dh dl (.slice zz x lo hi) v h' := by
  simp only [stepS] at hs
  split at hs
  case h_2 => exact Sim2.quiet SO I L hs
  rename_i j e
  have q := sv_ok L x
  rw [e] at q
  have pos : ∀ {s : Sh}, s.size ≠ 0 := by
    intro s
    induction s with
    | pair a b iha ihb => simp [Sh.size]; omega
    | tree a _ => simp [Sh.size]
    | uno a ih => simpa [Sh.size] using ih
    | mark a ih => simpa [Sh.size] using ih
    | _ => simp [Sh.size]
  have qj := q
  simp only [RV] at qj
  split at hs
  · rename_i fz z vv s xs a hR ha
    split at hs
    case h_2 => exact (T.sem_fail hs).elim
    rename_i b hb
    split at hs
    case isFalse => exact (T.sem_fail hs).elim
    rename_i hz
    have hzs : z = s.size := by
      have R := I.row _ _ _ _ hR
      unfold RowOk at R
      cases e1 : (X.R j).1 with
      | none => rw [e1] at R; exact R.2.1.symm
      | some p => rw [e1] at R; obtain ⟨_, k, _, _, _, _, ⟨h5, _⟩, _⟩ := R; exact h5.symm
    split at hs
    · -- whole
      cases T.sem_ret hs
      rcases u53 I q hR with ⟨k1, k2, k3⟩ | ⟨i, m, bk, k1, k2, k3, k4, k5, k6, k7⟩
      · refine ⟨.nils, dh, X, ?_, RX.le.refl X, I, by rw [k1] at q; exact q, Step.refl X h dh⟩
        simp only [step, k1, Option.map_none, bound]
        rw [if_pos ⟨Nat.le_refl _, Nat.le_refl _, by rw [hz]; exact pos⟩]
      · refine ⟨.sl i m 0 (RC.typed vv s xs).len, dh, X, ?_, RX.le.refl X, I, by rw [k1] at q; exact q, Step.refl X h dh⟩
        simp only [step, k1, Option.map_none, bound, u0x k3 k4]
        rw [if_pos ⟨Nat.zero_le _, .inl (Nat.le_refl _), by rw [k5, hz, hzs], by rw [hz]; exact pos⟩]
        simp
    · rename_i lo' hi' hnn
      rcases T.sem_br hs with ⟨hc, hs⟩ | ⟨_, hs⟩
      case inr => exact (T.sem_fail hs).elim
      cases T.sem_ret hs
      have hcut : (sCut lo hi a b (xs.length : Int) .nil).sem = some .nil := by
        unfold sCut
        split
        · rfl
        · rw [hc]; rfl
      obtain ⟨_, a', b', h1, h2, h3, h4, h5, h6, h7⟩ := cut_ok (X := X) L ha hb hcut
      obtain ⟨X', l1, r1, c1, I1, o1, s1, n1⟩ := freeze1 I hR
      rw [h5 xs rfl]
      rcases u53 I q hR with ⟨k1, k2, k3⟩ | ⟨i, m, bk, k1, k2, k3, k4, k5, k6, ⟨k7, k8⟩⟩
      · have : xs = [] := List.eq_nil_of_length_eq_zero k2
        subst this
        refine ⟨.nils, dh, X', ?_, l1, I1, by simp only [RV, List.take_nil, List.drop_nil]; exact RVw.none rfl, s1⟩
        simp only [step, k1]
        simp only [List.length_nil] at h2 h4
        simp only [h1, h2]
        rw [if_pos ⟨h3, h4, by rw [hz]; exact pos⟩]
      · simp only [RC.len] at k1 k6 k8
        have hl : ((xs.take b').drop a').length = b' - a' := by simp; omega
        have hzi := o1 i m k2
        rw [k3] at hzi
        refine ⟨.sl i m (0 + a') (b' - a'), dh, X', ?_, l1, I1, RVw.hang ⟨i, m, 0 + a', bk, by rw [hl], hzi, k4, by rw [k5, hzs], by rw [hl]; omega, ?_⟩, s1⟩
        · simp only [step, k1, h1, h2, u0x k3 k4]
          rw [if_pos ⟨h3, .inl h4, by rw [k5, hz, hzs], by rw [hz]; exact pos⟩]
        · have := (k8.take b').drop a'
          rw [hl]
          have e1 : (List.take (b' - a') (List.drop (0 + a') bk.xs)) = List.drop a' (List.take b' (List.take xs.length bk.xs)) := by
            rw [List.take_take, Nat.min_eq_left h4, List.drop_take, Nat.zero_add]
          rw [e1]; exact this.mono fun x r q => RP.mono l1.z q
  · rename_i fz z rows a hR ha
    split at hs
    · split at hs
      case isFalse => exact (T.sem_fail hs).elim
      rename_i hz
      cases T.sem_ret hs
      rcases u53 I q hR with ⟨k1, k2, k3⟩ | ⟨i, m, bk, k1, k2, k3, k4, k5, k6, k7⟩
      · refine ⟨.nils, dh, X, ?_, RX.le.refl X, I, by rw [k1] at q; exact q, Step.refl X h dh⟩
        simp only [step, k1, Option.map_none, bound]
        rw [if_pos ⟨Nat.le_refl _, Nat.le_refl _, hz.2⟩]
      · refine ⟨.sl i m 0 (RC.raw rows).len, dh, X, ?_, RX.le.refl X, I, by rw [k1] at q; exact q, Step.refl X h dh⟩
        simp only [step, k1, Option.map_none, bound, u0x k3 k4]
        rw [if_pos ⟨Nat.zero_le _, .inl (Nat.le_refl _), by rw [k5, hz.1], hz.2⟩]
        simp
    · exact (T.sem_fail hs).elim
  · exact (T.sem_fail hs).elim

end Go.Dv
