/- The engine, sixth text: each operation, as the engine carries it out, is what Go's does (those that make or write no memory; and load, store). -/
import Derived.Test.YtjjhppjdnbahjaaGreatDvA
import Derived.Laws.StructEq
import Derived.Deep.Upon
import Derived.Laws.BytesString
import Derived.Lib.ConvBytes
import Derived.Laws.IdiomStrings
set_option linter.unusedVariables false
set_option linter.unusedSimpArgs false
namespace Go.Dv
variable {P : Program}

def Fits (P : Program) (o : Oper) (a : Act) (w : World) (X : Cx) (h' : Hp) (v : DV) : Prop :=
  ∃ r w' X', (execOp a.eval o).run P w = .ok r w' ∧ X.le X' ∧ Sim X' h' w' ∧ ((∃ u, r = .value u ∧ V X' true v u) ∨ (r = .skip ∧ v = .undef))

theorem Fits.here {o : Oper} {a : Act} {w : World} {X : Cx} {h : Hp} {v : DV} {u : Value} (S : Sim X h w) (hr : (execOp a.eval o).run P w = .ok (.value u) w) (hv : V X true v u) : Fits P o a w X h v :=
  ⟨_, w, X, hr, Cx.le.refl X, S, .inl ⟨u, rfl, hv⟩⟩

theorem V.bool_inv {X : Cx} {L : Bool} {b : Bool} {u : Value} (h : V X L (.bool b) u) : u = .bool b := by simpa only [V] using h
theorem V.int_inv {X : Cx} {L : Bool} {k : IntKind} {n : Int} {u : Value} (h : V X L (.int k n) u) : u = .int k n := by simpa only [V] using h
theorem V.str_inv {X : Cx} {L : Bool} {s : ByteArray} {u : Value} (h : V X L (.str s) u) : u = .string s := by simpa only [V] using h

theorem intOp_ok {X : Cx} {op : BinOp} {k : IntKind} {a b : Int} {v : DV} (h : intOp op k a b = some v) (w : World) (hs1 : op ≠ .shl) (hs2 : op ≠ .shr) (t : TypeId) :
    ∃ u, (Go.binOp op t (.int k a) (.int k b)).run P w = .ok u w ∧ V X true v u := by
  cases op <;> simp only [intOp] at h <;> first
    | exact absurd rfl hs1
    | exact absurd rfl hs2
    | (cases h; simp [Go.binOp, Op.intArith, Op.intCmp, Op.intBits, V]; done)
    | (split at h
       · cases h
       · rename_i hb; cases h; simp [Go.binOp, Op.intDiv, hb, V])
    | cases h
theorem shiftOp_ok {X : Cx} {op : BinOp} {k k' : IntKind} {a b : Int} {v : DV} (h : u6v op k a b = some v) (w : World) (t : TypeId) :
    ∃ u, (Go.binOp op t (.int k a) (.int k' b)).run P w = .ok u w ∧ V X true v u := by
  unfold u6v at h
  split at h
  · cases h
  · rename_i hb
    cases op <;> first
      | (cases h; simp [Go.binOp, Op.shift, hb, V]; done)
      | cases h
theorem strOp_ok {X : Cx} {op : BinOp} {a b : ByteArray} {v : DV} (h : strOp op a b = some v) (w : World) (t : TypeId) :
    ∃ u, (Go.binOp op t (.string a) (.string b)).run P w = .ok u w ∧ V X true v u := by
  cases op <;> simp only [strOp] at h <;> first
    | (split at h
       · cases h
       · rename_i hb; cases h; refine ⟨.string (a ++ b), ?_, by simp [V]⟩; simp only [Go.binOp, Op.stringOp]; rw [if_neg hb]; rfl)
    | (cases h; simp [Go.binOp, Op.stringOp, V]; done)
    | cases h
theorem binOp_ok {X : Cx} {op : BinOp} {x y : DV} {v : DV} {p q : Value} (h : binOp op x y = some v) (hx : V X true x p) (hy : V X true y q) (w : World) (t : TypeId) :
    ∃ u, (Go.binOp op t p q).run P w = .ok u w ∧ V X true v u := by
  unfold binOp at h
  split at h
  · obtain rfl := hx.int_inv
    obtain rfl := hy.int_inv
    split at h
    · exact shiftOp_ok h w t
    · exact shiftOp_ok h w t
    · rename_i h1 h2
      split at h
      · rename_i hk; subst hk; exact intOp_ok h w (fun e => h1 e) (fun e => h2 e) t
      · cases h
  · obtain rfl := hx.str_inv
    obtain rfl := hy.str_inv
    exact strOp_ok h w t
  · cases h

theorem u4v {t : TypeId} {op : BinOp} {x y : Operand} {p q : Value} (h : ∀ a, p ≠ .agg a) (h' : p ≠ .nilIface) (w : World) : (eqGuard op t x y p q).run P w = .ok () w := by
  cases op <;> first
    | rfl
    | (cases p <;> first
        | exact absurd rfl h'
        | exact absurd rfl (h _)
        | rfl)
theorem eqGuard_agg {t : TypeId} {op : BinOp} {x y : Operand} {p q : Value} (h : P.eqGuardType P.depth t = false) (hp : p ≠ .nilIface) (w : World) : (eqGuard op t x y p q).run P w = .ok () w := by
  cases op <;> first
    | rfl
    | (cases p <;> first
        | exact absurd rfl hp
        | rfl
        | (cases q <;> first
            | rfl
            | simp [eqGuard, h]))

theorem part_agg {t : TypeId} {cs : Array Value} {o n : Nat} {fs : Array Field} (ht : P.underlying t = some (.struct fs)) (hn : sizeP P t = some n) (w : World) : (part t cs o).run P w = .ok (.agg (cs.extract o (o + n))) w := by
  simp [part, isAgg, run_underlying ht, u0C hn]
theorem u51 {t : TypeId} {cs : Array Value} {o : Nat} {v : Value} {d : TypeDesc} (ht : P.underlying t = some d) (hd : d.isRow = false) (hv : cs[o]? = some v) (w : World) : (part t cs o).run P w = .ok v w := by
  have : (isAgg t).run P w = .ok false w := by
    unfold isAgg
    rw [Sem.run_bind, run_underlying ht]
    cases d <;> simp_all
  simp [part, this, hv]

theorem u3o : ∀ {ks : List CK} {a b : List DV} {r : Bool}, u0B ks a b = some r → a.length = ks.length ∧ b.length = ks.length
  | [], [], [], _, _ => ⟨rfl, rfl⟩
  | [], [], _ :: _, _, h => by simp [u0B] at h
  | [], _ :: _, _, _, h => by simp [u0B] at h
  | _ :: _, [], _, _, h => by simp [u0B] at h
  | _ :: _, _ :: _, [], _, h => by simp [u0B] at h
  | k :: ks, x :: a, y :: b, r, h => by
    simp only [u0B] at h
    split at h
    · have := u3o h; simp [this]
    · split at h
      · rename_i h2; simp [h2]
      · cases h
    · cases h
theorem u5d : ∀ {ks : List CK} {ls : List CK} {a b : List DV} {r : Bool}, u0B (ks ++ ls) a b = some r →
    (u0B ks (a.take ks.length) (b.take ks.length) = some false ∧ r = false) ∨
    (u0B ks (a.take ks.length) (b.take ks.length) = some true ∧ u0B ls (a.drop ks.length) (b.drop ks.length) = some r)
  | [], ls, a, b, r, h => .inr ⟨by simp [u0B], by simpa using h⟩
  | k :: ks, ls, [], b, r, h => by simp [u0B] at h
  | k :: ks, ls, x :: a, [], r, h => by simp [u0B] at h
  | k :: ks, ls, x :: a, y :: b, r, h => by
    simp only [List.cons_append, u0B] at h
    simp only [List.length_cons, List.take_succ_cons, List.drop_succ_cons, u0B]
    split at h
    · exact u5d h
    · split at h
      · rename_i h2
        cases h
        simp only [List.length_append] at h2
        exact .inl ⟨by rw [if_pos]; simp; omega, rfl⟩
      · cases h
    · cases h

def CK.type : CK → TypeDesc
  | .int => .int .i64
  | .str => .string
  | .bool => .bool
theorem eqCell_run {X : Cx} {t : TypeId} {d : Nat} {k : CK} {x y : DV} {p q : Value} {b : Bool} (h : u5X k x y = some b) (hx : V X true x p) (hy : V X true y q) (w : World)
    (ht : P.underlying t = some k.type ∨ (k = .int ∧ ∃ j, P.underlying t = some (.int j))) :
    (Op.equalIn (d + 1) t p q).run P w = .ok b w := by
  unfold u5X at h
  split at h
  · rename_i k1 a1 k2 b1
    by_cases hk : k1 = k2
    · simp only [if_pos hk] at h
      cases h; subst hk
      obtain rfl := hx.int_inv
      obtain rfl := hy.int_inv
      rcases ht with ht | ⟨_, j, ht⟩ <;> (try simp only [CK.type] at ht) <;> simp [Op.equalIn, run_underlying ht]
    · simp only [if_neg hk] at h; cases h
  · cases h
    obtain rfl := hx.str_inv
    obtain rfl := hy.str_inv
    rcases ht with ht | ⟨h0, _⟩
    · (simp only [CK.type] at ht; simp [Op.equalIn, run_underlying ht])
    · cases h0
  · cases h
    obtain rfl := hx.bool_inv
    obtain rfl := hy.bool_inv
    rcases ht with ht | ⟨h0, _⟩
    · (simp only [CK.type] at ht; simp [Op.equalIn, run_underlying ht])
    · cases h0
  · cases h

def u1z (P : Program) (t : TypeId) (us : List Value) : Value :=
  match P.underlying t with
  | some (.struct _) => .agg us.toArray
  | _ => us.headD Go.undef

end Go.Dv
/- The engine: values of a struct are told apart cell by cell. -/
set_option linter.unusedVariables false
set_option linter.unusedSimpArgs false
namespace Go.Dv
variable {P : Program}
theorem take1 {cs : Array Value} {o : Nat} (h : o < cs.size) : ((cs.toList.drop o).take 1).headD Go.undef = cs[o] := by
  rw [List.drop_eq_getElem_cons (by simpa using h)]; simp

theorem eqKinds_run {X : Cx} (w : World) : ∀ (d : Nat),
    (∀ (t : TypeId) (ks : List CK) (xs ys : List DV) (us vs : List Value) (b : Bool), u3d P d t = some ks → VS X true xs us → VS X true ys vs → u0B ks xs ys = some b →
      (Op.equalIn d t (u1z P t us) (u1z P t vs)).run P w = .ok b w) ∧
    (∀ (fs : List Field) (o : Nat) (ks : List CK) (xs ys : List DV) (us vs : Array Value) (b : Bool), eqFs P (u3d P d) fs o = some ks → VS X true xs (us.toList.drop o) → VS X true ys (vs.toList.drop o) → u0B ks xs ys = some b →
      (Op.eqFields d us vs fs).run P w = .ok b w) := by
  intro d
  induction d with
  | zero =>
    refine ⟨fun t ks xs ys us vs b h => by simp [u3d] at h, fun fs => ?_⟩
    induction fs with
    | nil =>
      intro o ks xs ys us vs b h hx hy he
      simp only [eqFs, Option.some.injEq] at h
      subst h
      cases xs <;> cases ys <;> simp [u0B] at he
      subst he; rfl
    | cons f fs ih => intro o ks xs ys us vs b h; simp [eqFs, u3d] at h
  | succ d ihd =>
    have one : ∀ (t : TypeId) (k : CK) (xs ys : List DV) (us vs : List Value) (b : Bool), (P.underlying t = some k.type ∨ (k = .int ∧ ∃ j, P.underlying t = some (.int j))) →
        VS X true xs us → VS X true ys vs → u0B [k] xs ys = some b → (Op.equalIn (d + 1) t (u1z P t us) (u1z P t vs)).run P w = .ok b w := by
      intro t k xs ys us vs b ht hx hy he
      obtain ⟨l1, l2⟩ := u3o he
      match xs, ys, us, vs, l1, l2, hx, hy with
      | [x], [y], [], _, _, _, hx, _ => simp [VS] at hx
      | [x], [y], _ :: _ :: _, _, _, _, hx, _ => simp [VS] at hx
      | [x], [y], [u], [], _, _, _, hy => simp [VS] at hy
      | [x], [y], [u], _ :: _ :: _, _, _, _, hy => simp [VS] at hy
      | [x], [y], [u], [v], _, _, hx, hy =>
        simp only [VS, and_true] at hx hy
        have hc : u5X k x y = some b := by
          simp only [u0B] at he
          split at he
          · rename_i h1; cases he; exact h1
          · rename_i h1; simp at he; subst he; exact h1
          · cases he
        have e1 : u1z P t [u] = u := by unfold u1z; rcases ht with ht | ⟨_, j, ht⟩ <;> rw [ht] <;> cases k <;> rfl
        have e2 : u1z P t [v] = v := by unfold u1z; rcases ht with ht | ⟨_, j, ht⟩ <;> rw [ht] <;> cases k <;> rfl
        rw [e1, e2]
        exact eqCell_run hc hx hy w ht
    have hk : ∀ (t : TypeId) (ks : List CK) (xs ys : List DV) (us vs : List Value) (b : Bool), u3d P (d + 1) t = some ks → VS X true xs us → VS X true ys vs → u0B ks xs ys = some b →
      (Op.equalIn (d + 1) t (u1z P t us) (u1z P t vs)).run P w = .ok b w := by
      intro t ks xs ys us vs b h hx hy he
      simp only [u3d] at h
      split at h
      · rename_i ht; cases h; exact one t .bool xs ys us vs b (.inl ht) hx hy he
      · rename_i j ht; cases h; exact one t .int xs ys us vs b (.inr ⟨rfl, j, ht⟩) hx hy he
      · rename_i ht; cases h; exact one t .str xs ys us vs b (.inl ht) hx hy he
      · rename_i fs ht
        split at h
        · cases h
        · rename_i hst
          have hf : P.fieldsOf t = fs := by simp [Program.fieldsOf, ht]
          have e1 : ∀ us, u1z P t us = .agg us.toArray := fun us => by unfold u1z; rw [ht]
          rw [e1, e1, run_equalIn_struct w d t _ _ (by rw [ht, hf]) (by simpa using hst), hf]
          exact ihd.2 fs.toList 0 ks xs ys us.toArray vs.toArray b h (by simpa using hx) (by simpa using hy) he
      · cases h
    refine ⟨hk, fun fs => ?_⟩
    induction fs with
    | nil =>
      intro o ks xs ys us vs b h hx hy he
      simp only [eqFs, Option.some.injEq] at h
      subst h
      cases xs <;> cases ys <;> simp [u0B] at he
      subst he; rfl
    | cons f fs ih =>
      intro o ks xs ys us vs b h hx hy he
      simp only [eqFs] at h
      split at h
      · rename_i k1 h1
        split at h
        · rename_i k2 h2
          split at h
          · rename_i h3
            cases h
            obtain ⟨h3, h4, h5⟩ := h3
            have hp : ∀ (cs : Array Value) (zs : List DV), VS X true zs (cs.toList.drop o) → (∃ r, (u0B k1 (zs.take k1.length) (zs.take k1.length)) = r) → k1.length ≤ zs.length →
                (part f.type cs f.offset).run P w = .ok (u1z P f.type ((cs.toList.drop o).take k1.length)) w := by
              intro cs zs hz _ hl
              have hlen := hz.length
              simp only [List.length_drop, Array.length_toList] at hlen
              rw [h4]
              simp only [u3d] at h1
              split at h1
              · rename_i ht; cases h1
                have ho : o < cs.size := by simp at hl; omega
                rw [u51 ht rfl (v := cs[o]) (by simp [ho])]
                congr 1
                unfold u1z; rw [ht]
                exact (take1 ho).symm
              · rename_i j ht; cases h1
                have ho : o < cs.size := by simp at hl; omega
                rw [u51 ht rfl (v := cs[o]) (by simp [ho])]
                congr 1
                unfold u1z; rw [ht]
                exact (take1 ho).symm
              · rename_i ht; cases h1
                have ho : o < cs.size := by simp at hl; omega
                rw [u51 ht rfl (v := cs[o]) (by simp [ho])]
                congr 1
                unfold u1z; rw [ht]
                exact (take1 ho).symm
              · rename_i fs' ht
                rw [part_agg ht h5]
                congr 1
                unfold u1z; rw [ht]
                congr 1
                apply Array.ext'
                simp [Array.toList_extract, List.extract_eq_take_drop]
              · cases h1
            obtain ⟨l1, l2⟩ := u3o he
            simp only [List.length_append] at l1 l2
            have p1 := hp us xs hx ⟨_, rfl⟩ (by omega)
            have p2 := hp vs ys hy ⟨_, rfl⟩ (by omega)
            simp only [Op.eqFields, h3, ne_eq, not_false_eq_true, if_true, Sem.run_bind, p1, p2, Result.andThen_ok]
            rcases u5d he with ⟨g1, rfl⟩ | ⟨g1, g2⟩
            · rw [hk f.type k1 _ _ _ _ false h1 (hx.take _) (hy.take _) g1]
              rfl
            · rw [hk f.type k1 _ _ _ _ true h1 (hx.take _) (hy.take _) g1]
              have := ih (o + k1.length) k2 _ _ us vs b h2 (by have := hx.drop k1.length; rwa [List.drop_drop] at this) (by have := hy.drop k1.length; rwa [List.drop_drop] at this) g2
              simpa using this
          · cases h
        · cases h
      · cases h

end Go.Dv
/- The engine: the operations that make and write no memory, one by one. -/
set_option linter.unusedVariables false
set_option linter.unusedSimpArgs false
namespace Go.Dv
variable {P : Program} {X : Cx} {h : Hp} {w : World} {l : List DV} {a : Act}

theorem eqIn_sl_nn (d : Nat) (t : TypeId) (e : TypeId) (ht : P.underlying t = some (.slice e)) (b : Option Addr) (n m n' m' : Nat) : (Op.equalIn (d + 1) t (.slice none n m) (.slice b n' m')).run P w = .ok b.isNone w := by
  simp [Op.equalIn, run_underlying ht]
theorem eqIn_sl_sn (d : Nat) (t : TypeId) (e : TypeId) (ht : P.underlying t = some (.slice e)) (b : Addr) (n m n' m' : Nat) : (Op.equalIn (d + 1) t (.slice (some b) n m) (.slice none n' m')).run P w = .ok false w := by
  simp [Op.equalIn, run_underlying ht]
theorem eqIn_p_nn (d : Nat) (t : TypeId) (e : TypeId) (ht : P.underlying t = some (.pointer e)) (b : Option Addr) : (Op.equalIn (d + 1) t (.pointer none) (.pointer b)).run P w = .ok b.isNone w := by
  simp [Op.equalIn, run_underlying ht]
theorem eqIn_p_sn (d : Nat) (t : TypeId) (e : TypeId) (ht : P.underlying t = some (.pointer e)) (b : Addr) : (Op.equalIn (d + 1) t (.pointer (some b)) (.pointer none)).run P w = .ok false w := by
  simp [Op.equalIn, run_underlying ht]

def EqK.fits (P : Program) (t : TypeId) : EqK → Prop
  | .agg ks => (∃ fs, P.underlying t = some (.struct fs)) ∧ u3d P 10000 t = some ks
  | .one k => k = .bool ∧ P.underlying t = some .bool
  | .sl => ∃ e, P.underlying t = some (.slice e)
  | .ptr => ∃ e, P.underlying t = some (.pointer e)
theorem eqv_ok {k : EqK} {t : TypeId} {x y : DV} {p q : Value} {b : Bool} (he : eqv k x y = some b) (hx : V X true x p) (hy : V X true y q)
    (ht : k.fits P t) :
    (Op.equal t p q).run P w = .ok b w ∧ p ≠ .nilIface ∧ ((∀ a, p ≠ .agg a) ∨ ∃ ks, k = .agg ks) ∧
      (∀ s, p ≠ .string s) ∧ (∀ k n, p ≠ .int k n) ∧ (∀ k n, p ≠ .float k n) ∧ (∀ k n m, p ≠ .complex k n m) := by
  cases k with
  | agg ks =>
    cases x <;> simp only [eqv] at he <;> try (cases he; done)
    cases y <;> simp only at he <;> try (cases he; done)
    simp only [V] at hx hy
    obtain ⟨us, rfl, hx⟩ := hx
    obtain ⟨vs, rfl, hy⟩ := hy
    obtain ⟨⟨fs, hf⟩, hk⟩ := ht
    refine ⟨?_, by simp, .inr ⟨ks, rfl⟩, by simp, by simp, by simp, by simp⟩
    have := (eqKinds_run (P := P) (X := X) w 10000).1 t ks _ _ _ _ b hk hx hy he
    have e1 : ∀ us : List Value, u1z P t us = .agg us.toArray := fun us => by unfold u1z; rw [hf]
    rw [e1, e1] at this
    exact this
  | one k =>
    obtain ⟨rfl, hb⟩ := ht
    cases x <;> simp only [eqv, u5X] at he <;> try (cases he; done)
    cases y <;> simp only at he <;> try (cases he; done)
    have hc : u5X .bool (.bool _) (.bool _) = some b := he
    refine ⟨eqCell_run (d := 9999) hc hx hy w (.inl hb), ?_⟩
    obtain rfl := hx.bool_inv
    simp
  | sl =>
    obtain ⟨e, ht⟩ := ht
    cases x <;> simp only [eqv] at he <;> try (cases he; done)
    all_goals cases y <;> simp only at he <;> try (cases he; done)
    all_goals simp only [V] at hx hy
    all_goals first
      | (obtain ⟨_, _, _, _, rfl, _⟩ := hx)
      | (obtain ⟨_, _, rfl, _⟩ := hx)
      | subst hx
    all_goals first
      | (obtain ⟨_, _, _, _, rfl, _⟩ := hy)
      | (obtain ⟨_, _, rfl, _⟩ := hy)
      | subst hy
    all_goals cases he
    all_goals refine ⟨?_, by simp, .inl (by simp), by simp, by simp, by simp, by simp⟩
    all_goals first
      | exact eqIn_sl_nn 9999 t e ht _ _ _ _ _
      | exact eqIn_sl_sn 9999 t e ht _ _ _ _ _
  | ptr =>
    obtain ⟨e, ht⟩ := ht
    cases x <;> simp only [eqv] at he <;> try (cases he; done)
    all_goals cases y <;> simp only at he <;> try (cases he; done)
    all_goals simp only [V] at hx hy
    all_goals first
      | (obtain ⟨_, _, rfl⟩ := hx)
      | (obtain ⟨_, rfl, _⟩ := hx)
      | subst hx
    all_goals first
      | (obtain ⟨_, _, rfl⟩ := hy)
      | (obtain ⟨_, rfl, _⟩ := hy)
      | subst hy
    all_goals cases he
    all_goals refine ⟨?_, by simp, .inl (by simp), by simp, by simp, by simp, by simp⟩
    all_goals first
      | exact eqIn_p_nn 9999 t e ht _
      | exact eqIn_p_sn 9999 t e ht _

theorem binOp_eql {t : TypeId} {p q : Value} {b : Bool} (he : (Op.equal t p q).run P w = .ok b w) (h1 : ∀ s, p ≠ .string s) (h2 : ∀ k n, p ≠ .int k n) (h3 : ∀ k n, p ≠ .float k n) (h4 : ∀ k n m, p ≠ .complex k n m) :
    (Go.binOp .eql t p q).run P w = .ok (.bool b) w ∧ (Go.binOp .neq t p q).run P w = .ok (.bool (!b)) w := by
  cases p <;> first
    | exact absurd rfl (h1 _)
    | exact absurd rfl (h2 _ _)
    | exact absurd rfl (h3 _ _)
    | exact absurd rfl (h4 _ _ _)
    | (refine ⟨?_, ?_⟩ <;> simp only [Go.binOp, Sem.run_bind, he, Result.andThen_ok, Sem.run_pure])

theorem unOp_ok {op : UnOp} {x v : DV} {p : Value} (he : unOp op x = some v) (hx : V X true x p) : ∃ u, (Op.unary op p).run P w = .ok u w ∧ V X true v u := by
  cases x <;> simp only [unOp] at he <;> try (cases he; done)
  · obtain rfl := hx.bool_inv
    cases op <;> simp only at he <;> try (cases he; done)
    cases he; simp [Op.unary, V]
  · obtain rfl := hx.int_inv
    cases op <;> simp only at he <;> try (cases he; done)
    · cases he; simp [Op.unary, Op.intArith, V]
    · simp only [intOp, Option.some.injEq] at he; subst he; simp [Op.unary, Op.intBits, V]

theorem u57 {t : TypeId} {n : Nat} {b o : Nat} {ds : List DV} (hz : aggP P t = some (some n)) (hl : Lies X w ds b o) (hn : n ≤ ds.length) :
    ∃ u, (Instr.loadAt t (.pointer (some ⟨b, o, none⟩))).run P w = .ok u w ∧ V X true (.agg (ds.take n)) u := by
  obtain ⟨us, g1, g2, g3, _⟩ := (hl.take n).list
  have hlen : us.length = n := by rw [g1]; simp; omega
  unfold aggP at hz
  split at hz
  · rename_i fs i h1 h2
    cases hz
    exact ⟨_, run_loadAt_mid w b o t us (.struct fs) g2 h1 rfl (by rw [h2, hlen]; rfl), by simp only [V]; exact ⟨_, rfl, by simpa using g3⟩⟩
  · rename_i m e i h1 h2
    cases hz
    exact ⟨_, run_loadAt_mid w b o t us (.array m e) g2 h1 rfl (by rw [h2, hlen]; rfl), by simp only [V]; exact ⟨_, rfl, by simpa using g3⟩⟩
  · cases hz
  · cases hz
theorem aggP_one {t : TypeId} (hz : aggP P t = some none) : ∃ d, P.underlying t = some d ∧ d.isRow = false := by
  unfold aggP at hz
  split at hz
  · cases hz
  · cases hz
  · rename_i d i h1 h2 h3 h4
    refine ⟨d, h3, ?_⟩
    cases d <;> first
      | rfl
      | exact (h1 _ _ h3 h4).elim
      | exact (h2 _ _ h3).elim
      | exact (h1 _ h3).elim
      | simp_all
  · cases hz
theorem isAgg_one {t : TypeId} (hz : aggP P t = some none) (w : World) : (isAgg t).run P w = .ok false w := by
  obtain ⟨d, h1, h2⟩ := aggP_one hz
  unfold isAgg
  rw [Sem.run_bind, run_underlying h1]
  cases d <;> simp_all
theorem u6f {t : TypeId} {b o : Nat} {ds : List DV} {v : DV} (hz : aggP P t = some none) (hl : Lies X w ds b o) (hv : ds[0]? = some v) :
    ∃ u, (Instr.loadAt t (.pointer (some ⟨b, o, none⟩))).run P w = .ok u w ∧ V X true v u := by
  obtain ⟨u, g1, g2, _⟩ := hl 0 v hv
  refine ⟨u, ?_, g2⟩
  simp only [Nat.add_zero] at g1
  simp [Instr.loadAt, Instr.sureAddr, loadVar, isAgg_one hz, g1]

theorem ptr_lies (S : Sim X h w) {b : Bool} {i s e o : Nat} {k : Blk} {r : List DV} {p : Value} (hk : h.blk b i s = some k) (hr : k.xs[e]? = some r) (hp : V X true (.ptr b i s e o) p) :
    p = .pointer (some ⟨(X.p s).B, (X.p s).o + e * k.z + o, none⟩) ∧ r.length = k.z ∧ Lies X w (r.drop o) (X.p s).B ((X.p s).o + e * k.z + o) := by
  obtain ⟨hk1, rfl⟩ := Hp.blk_some hk
  have B := S.blk _ _ _ hk1
  obtain ⟨h1, h2⟩ := B.lies hr
  simp only [V] at hp
  obtain ⟨_, _, rfl⟩ := hp
  rw [B.z]
  exact ⟨rfl, h1, h2.drop o⟩
theorem fp_lies (S : Sim X h w) {r : List DV} {p : Value} (hp : V X true (.fp r) p) : ∃ b o, p = .pointer (some ⟨b, o, none⟩) ∧ Lies X w r b o ∧ u0G X r b o := by
  simp only [V] at hp
  obtain ⟨⟨b, o, s⟩, rfl, h1, h2⟩ := hp
  simp only at h1
  subst h1
  exact ⟨b, o, rfl, h2.lies S, h2⟩

end Go.Dv
/- The engine: the operations that make memory. -/
set_option linter.unusedVariables false
set_option linter.unusedSimpArgs false
namespace Go.Dv
variable {P : Program} {X : Cx} {h : Hp} {w : World} {l : List DV} {a : Act}

theorem But.alloc (w : World) (o : Obj) : But w (w.alloc o) w.heap.size ∧ (w.alloc o).heap[w.heap.size]? = some o :=
  ⟨⟨fun b hb hl => by show (w.heap.push o)[b]? = _; rw [Array.getElem?_push, if_neg hb], by show _ ≤ (w.heap.push o).size; rw [Array.size_push]; omega, rfl, rfl, rfl, Nat.le_refl _⟩, by show (w.heap.push o)[_]? = _; rw [Array.getElem?_push, if_pos rfl]⟩
theorem But.drewAlloc (w : World) (o : Obj) : But w (w.drew.alloc o) w.heap.size ∧ (w.drew.alloc o).heap[w.heap.size]? = some o :=
  ⟨⟨fun b hb hl => by show (w.heap.push o)[b]? = _; rw [Array.getElem?_push, if_neg hb], by show _ ≤ (w.heap.push o).size; rw [Array.size_push]; omega, rfl, rfl, rfl, Nat.le_succ _⟩, by show (w.heap.push o)[_]? = _; rw [Array.getElem?_push, if_pos rfl]⟩

theorem V.cells_ok {L : Bool} {d : DV} {u : Value} (hv : V X L d u) (hc : d.cells.all DV.isCell = true) : VS X L d.cells u.cells.toList ∧ ∀ v ∈ u.cells.toList, v.oneCell' = true := by
  have all : ∀ (ds : List DV) (us : List Value), VS X L ds us → ds.all DV.isCell = true → ∀ v ∈ us, v.oneCell' = true := by
    intro ds
    induction ds with
    | nil => intro us k _ v hv; cases us <;> simp [VS] at k; cases hv
    | cons d ds ih =>
      intro us k hc v hv
      cases us with
      | nil => simp [VS] at k
      | cons u us =>
        simp only [VS] at k
        simp only [List.all_cons, Bool.and_eq_true] at hc
        cases hv with
        | head => exact k.1.oneCell hc.1
        | tail _ hm => exact ih us k.2 hc.2 v hm
  by_cases hd : ∃ cs, d = .agg cs
  · obtain ⟨cs, rfl⟩ := hd
    have hv' := hv
    simp only [V] at hv'
    obtain ⟨arr, rfl, k⟩ := hv'
    exact ⟨k, all _ _ k hc⟩
  · have e1 : d.cells = [d] := by cases d <;> first | rfl | exact absurd ⟨_, rfl⟩ hd
    rw [e1] at hc ⊢
    have h1 : u.oneCell' = true := hv.oneCell (by simpa using hc)
    have e2 : u.cells = #[u] := by cases u <;> first | rfl | simp [Value.oneCell'] at h1
    rw [e2]
    exact ⟨by simpa [VS] using hv, by simpa using h1⟩

theorem one_elem {T : DV → Value → Prop} {cs : List DV} {us : Array Value} (hl : cs.length = us.size) (hv : ∀ (j : Nat) (d : DV), cs[j]? = some d → ∃ u, us[j]? = some u ∧ T d u) :
    ∀ (e : Nat) (r : List DV), [cs][e]? = some r → r.length = cs.length ∧ ∀ (j : Nat) (d : DV), r[j]? = some d → ∃ u, us[e * cs.length + j]? = some u ∧ T d u := by
  intro e r hr
  cases e with
  | zero => simp at hr; subst hr; exact ⟨rfl, fun j d hd => by simpa using hv j d hd⟩
  | succ e => simp at hr

theorem Sim.box (S : Sim X h w) (esc : Bool) {cs : List DV} {us : Array Value} (e : TypeId) (k : VS X true cs us.toList) (h1 : ∀ v ∈ us.toList, v.oneCell' = true) :
    ∃ X', X.le X' ∧ Sim X' (h.new esc cs.length [cs]).2 (w.alloc (.cells us e)) ∧ V X' true (.ptr esc (h.new esc cs.length [cs]).1 h.c 0 0) (.pointer (some ⟨w.heap.size, 0, none⟩)) := by
  have hlen : cs.length = us.size := by simpa using k.length
  obtain ⟨b1, b2⟩ := But.alloc w (.cells us e)
  obtain ⟨g1, g2⟩ := S.new esc cs.length [cs] 1 us e (0, 0) b1 b2 (by simp) (by simp [hlen]) (by simp) (one_elem hlen fun j d hd => by
    obtain ⟨u, hu, hv⟩ := k.get hd
    exact ⟨u, by simpa using hu, hv, h1 u (List.mem_of_getElem? hu)⟩)
  refine ⟨_, g1, g2, ?_⟩
  simp only [V]
  rw [S.c, Cx.mark_p]
  exact ⟨trivial, Nat.lt_succ_self _, by simp⟩

theorem Sim.row (S : Sim X h w) {z n cap : Nat} {xs : List (List DV)} {us : Array Value} {w' : World} {T : TypeId} {fr : Nat × Nat} (hw : But w w' w.heap.size) (hc : w'.heap[w.heap.size]? = some (.cells us T fr)) (hfr : ∀ o, o < us.size ∨ (o = us.size ∧ z ≠ 1) → ¬ (fr.1 ≤ o ∧ o < fr.2))
    (hn : xs.length = n) (hcap : n ≤ cap) (hsz : cap * z ≤ us.size)
    (hx : ∀ (e : Nat) (r : List DV), xs[e]? = some r → r.length = z ∧ ∀ (j : Nat) (d : DV), r[j]? = some d → ∃ u, us[e * z + j]? = some u ∧ V X true d u ∧ u.oneCell' = true) :
    ∃ X', X.le X' ∧ Sim X' (h.new true z xs).2 w' ∧ V X' true (.sl (h.new true z xs).1 h.c 0 n) (.slice (some ⟨w.heap.size, 0, none⟩) n cap) := by
  obtain ⟨g1, g2⟩ := S.new true z xs cap us T fr hw hc (by rw [hn]; exact hcap) hsz hfr hx
  refine ⟨_, g1, g2, ?_⟩
  simp only [V]
  rw [S.c, Cx.mark_p]
  exact ⟨trivial, Nat.lt_succ_self _, _, _, rfl, by simp, hcap, fun _ => by simp⟩

theorem u5a {L : Bool} : ∀ (vs : List DV) (us : List Value) (cs : List DV) (cells : Array Value) (off j : Nat), VS X L vs us → VS X L cs cells.toList →
    VS X L (u07 cs (off + j) vs) ((us.zipIdx j).foldl (fun cs (c, j) => cs.setIfInBounds (off + j) c) cells).toList ∧ ((us.zipIdx j).foldl (fun cs (c, j) => cs.setIfInBounds (off + j) c) cells).size = cells.size
  | [], [], cs, cells, off, j, _, k => ⟨by simpa [u07] using k, rfl⟩
  | [], _ :: _, _, _, _, _, k, _ => by simp [VS] at k
  | _ :: _, [], _, _, _, _, k, _ => by simp [VS] at k
  | v :: vs, u :: us, cs, cells, off, j, hk, k => by
    simp only [VS] at hk
    simp only [List.zipIdx_cons, List.foldl_cons, u07]
    have := u5a vs us (cs.set (off + j) v) (cells.setIfInBounds (off + j) u) off (j + 1) hk.2 (by rw [Array.toList_setIfInBounds]; exact k.set hk.1)
    rw [show off + (j + 1) = off + j + 1 by omega] at this
    simpa using this
theorem fill_ok {L : Bool} (pl : Nat → Option (Nat × Nat)) : ∀ (ps : List (Nat × List DV)) (qs : List (Nat × Value)) (cs cs' : List DV) (cells : Array Value),
    fill cs ps = some cs' → VS X L cs cells.toList → ps.length = qs.length →
    (∀ (i : Nat) (p : Nat × List DV) (q : Nat × Value), ps[i]? = some p → qs[i]? = some q → pl q.1 = some (p.1, p.2.length) ∧ VS X L p.2 q.2.cells.toList) →
    ∃ cells', Instr.fill pl cells qs = some cells' ∧ VS X L cs' cells'.toList
  | [], [], cs, cs', cells, hf, k, _, _ => by simp only [fill, Option.some.injEq] at hf; subst hf; exact ⟨cells, rfl, k⟩
  | [], _ :: _, _, _, _, _, _, hl, _ => by simp at hl
  | _ :: _, [], _, _, _, _, _, hl, _ => by simp at hl
  | (off, vs) :: ps, (i, v) :: qs, cs, cs', cells, hf, k, hl, hp => by
    simp only [fill] at hf
    split at hf
    · rename_i ho
      obtain ⟨h1, h2⟩ := hp 0 _ _ rfl rfl
      simp only at h1 h2
      have hlen := h2.length
      have hcl := k.length
      simp only [Array.length_toList] at hlen hcl
      have := u5a vs v.cells.toList cs cells off 0 h2 k
      obtain ⟨cells', g1, g2⟩ := fill_ok pl ps qs _ cs' _ hf (by simpa using this.1) (by simpa using hl) fun i p q e1 e2 => hp (i + 1) p q (by simpa using e1) (by simpa using e2)
      refine ⟨cells', ?_, g2⟩
      simp only [Instr.fill, h1]
      rw [if_neg (by simp; omega)]
      rw [← g1]
      congr 1
      rw [← Array.foldl_toList, Array.toList_zipIdx]
    · cases hf

theorem u2o (z : Nat) : ∀ (n : Nat) (l : List DV), (chunk z n l).length = n
  | 0, _ => rfl
  | n + 1, l => by simp [chunk, u2o z n]
theorem chunk_get (z : Nat) : ∀ (n : Nat) (l : List DV) (e : Nat), e < n → (chunk z n l)[e]? = some ((l.drop (e * z)).take z)
  | 0, _, _, h => absurd h (Nat.not_lt_zero _)
  | n + 1, l, 0, h => by simp [chunk]
  | n + 1, l, e + 1, h => by
    simp only [chunk, List.getElem?_cons_succ]
    rw [chunk_get z n _ e (by omega), List.drop_drop]
    congr 3
    rw [Nat.add_mul]; omega

theorem flatten_get {α : Type} {z : Nat} {zs : List α} (hz : zs.length = z) : ∀ (n i : Nat), i < n * z → ((List.replicate n zs).flatten)[i]? = zs[i % z]?
  | 0, i, h => by simp at h
  | n + 1, i, h => by
    rw [List.replicate_succ, List.flatten_cons, List.getElem?_append]
    split
    · rename_i hi; rw [hz] at hi; rw [Nat.mod_eq_of_lt hi]
    · rename_i hi
      rw [hz] at hi ⊢
      rw [Nat.add_mul] at h
      rw [flatten_get hz n (i - z) (by omega)]
      congr 1
      rw [← Nat.mod_eq_sub_mod (by omega)]
theorem u4u {α : Type} {z : Nat} {zs : List α} (hz : zs.length = z) (n : Nat) : ((List.replicate n zs).flatten).length = n * z := by
  simp [hz]
theorem zeros_VS {L : Bool} {zs : List DV} {us : Array Value} (k : VS X L zs us.toList) (hz : 0 < zs.length) (n : Nat) :
    VS X L ((List.replicate n zs).flatten) ((Array.range (n * zs.length)).map (us[· % us.size]!)).toList := by
  have hlen : zs.length = us.size := by simpa using k.length
  refine VS.mk (by simp) fun i d u h1 h2 => ?_
  have hi : i < n * zs.length := by
    have := (List.getElem?_eq_some_iff.1 h1).1
    rwa [u4u rfl] at this
  rw [flatten_get rfl n i hi] at h1
  rw [Array.getElem?_toList] at h2
  have hm : i % us.size < us.size := Nat.mod_lt _ (hlen ▸ hz)
  simp [hi] at h2
  subst h2
  refine k.val h1 ?_
  rw [Array.getElem?_toList, hlen]
  simp [hm]

end Go.Dv
/- The engine: append, copy, store. -/
set_option linter.unusedVariables false
set_option linter.unusedSimpArgs false
namespace Go.Dv
variable {P : Program} {X : Cx} {h : Hp} {w : World} {l : List DV} {a : Act}

structure Els (X : Cx) (z : Nat) (ys : List (List DV)) (news : List Value) : Prop where
  len : news.length = ys.length * z
  get : ∀ (e : Nat) (r : List DV), ys[e]? = some r → r.length = z ∧ ∀ (j : Nat) (d : DV), r[j]? = some d → ∃ v, news[e * z + j]? = some v ∧ V X true d v ∧ v.oneCell' = true
theorem Els.mono {Y : Cx} {z : Nat} {ys : List (List DV)} {news : List Value} (le : X.le Y) (k : Els X z ys news) : Els Y z ys news :=
  ⟨k.len, fun e r hr => ⟨(k.get e r hr).1, fun j d hd => let ⟨v, h1, h2, h3⟩ := (k.get e r hr).2 j d hd; ⟨v, h1, h2.mono le, h3⟩⟩⟩
theorem flatten_idx {α : Type} {z : Nat} : ∀ {rs : List (List α)} (e j : Nat) (r : List α), (∀ (i : Nat) (r : List α), rs[i]? = some r → r.length = z) → rs[e]? = some r → j < z → rs.flatten[e * z + j]? = r[j]?
  | [], _, _, _, _, h, _ => by simp at h
  | r0 :: rs, 0, j, r, hz, h, hj => by
    simp at h; subst h
    rw [List.flatten_cons, Nat.zero_mul, Nat.zero_add, List.getElem?_append_left (by rw [hz 0 _ rfl]; exact hj)]
  | r0 :: rs, e + 1, j, r, hz, h, hj => by
    rw [List.flatten_cons, List.getElem?_append_right (by rw [hz 0 _ rfl, Nat.add_mul]; omega), hz 0 _ rfl]
    rw [show (e + 1) * z + j - z = e * z + j by rw [Nat.add_mul]; omega]
    exact flatten_idx e j r (fun i r hr => hz (i + 1) r (by simpa using hr)) (by simpa using h) hj
theorem Els.ofLies {z : Nat} {ys : List (List DV)} {b o : Nat} (k : ∀ (i : Nat) (r : List DV), ys[i]? = some r → r.length = z ∧ Lies X w r b (o + i * z)) :
    ∃ news, Els X z ys news ∧ w.rangeAt b o news ∧ ∀ v ∈ news, v.oneCell' = true := by
  obtain ⟨h1, h2⟩ := lies_rows k
  obtain ⟨us, g1, g2, g3, g4⟩ := h2.list
  refine ⟨us, ⟨by rw [g1, h1], fun e r hr => ⟨(k e r hr).1, fun j d hd => ?_⟩⟩, g2, g4⟩
  have hj : j < z := by rw [← (k e r hr).1]; exact (List.getElem?_eq_some_iff.1 hd).1
  have := flatten_idx e j r (fun i r hr => (k i r hr).1) hr hj
  rw [hd] at this
  obtain ⟨v, h5, h6⟩ := g3.get this
  exact ⟨v, h5, h6, g4 v (List.mem_of_getElem? h5)⟩

theorem u5e (S : Sim X h w) {z : Nat} {d : DV} {u : Value} {ys : List (List DV)} {st : Bool} (he : u1n h z st d = some ys) (hv : V X true d u) {tx : TypeId}
    (ht : if st then P.underlying tx = some .string else ∃ e, P.underlying tx = some (.slice e)) :
    ∃ news, Src P z tx u ys.length news w ∧ Els X z ys news := by
  have slice : ∀ (at_ : Addr) (n c : Nat) (news : List Value), (∃ e, P.underlying tx = some (.slice e)) → news.length = n * z → (n * z ≠ 0 → at_.spot = none ∧ w.rangeAt at_.block at_.off news) → (∀ v ∈ news, v.oneCell' = true) → Src P z tx (.slice (some at_) n c) n news w := by
    intro at_ n c news hs hl ha h1
    obtain ⟨e, hs⟩ := hs
    refine Src.ofSlice w hs at_ n c news hl (fun j u hu => ?_) h1
    have hj : j < news.length := (List.getElem?_eq_some_iff.1 hu).1
    obtain ⟨g1, g2⟩ := ha (by omega)
    obtain ⟨b, o, s⟩ := at_
    simp only at g1 g2
    subst g1
    rw [Addr.add_mid]
    exact g2 j u hu
  cases st with
  | true =>
    simp only [if_true] at ht
    simp only [u1n, if_true] at he
    cases d <;> simp only [u68] at he <;> try (cases he; done)
    rename_i s
    split at he
    · rename_i hz
      cases he; subst hz
      obtain rfl := hv.str_inv
      have hl : (s.toList.map fun x => [DV.int .u8 x.toNat]).length = s.size := by
        rw [List.length_map, ByteArray.toList_eq]; exact Array.length_toList
      refine ⟨byteCells s, ?_, by rw [byteCells_length, hl, Nat.mul_one], fun e r hr => ?_⟩
      · rw [hl]; exact Src.ofString w ht s
      · rw [List.getElem?_map, Option.map_eq_some_iff] at hr
        obtain ⟨x, hx, rfl⟩ := hr
        refine ⟨rfl, fun j d hd => ?_⟩
        cases j with
        | succ j => simp at hd
        | zero =>
          simp at hd; subst hd
          refine ⟨.int .u8 x.toNat, ?_, by simp [V], rfl⟩
          rw [ByteArray.toList_eq] at hx
          simp [byteCells, hx]
    · cases he
  | false =>
    simp only [Bool.false_eq_true, if_false] at ht
    simp only [u1n, Bool.false_eq_true, if_false] at he
    have hs := ht
    cases d <;> simp only [elems] at he <;> try (cases he; done)
    · -- nils
      cases he
      obtain ⟨e, hs⟩ := hs
      simp only [V] at hv
      subst hv
      exact ⟨[], Src.ofNil w hs 0, by simp, by simp⟩
    · -- row
      rename_i z' xs
      split at he
      · rename_i hz
        cases he; subst hz
        simp only [V] at hv
        obtain ⟨at_, c, rfl, hc, hsp, hr⟩ := hv
        obtain ⟨news, g1, g2, g3⟩ := Els.ofLies (w := w) (b := at_.block) (o := at_.off) fun i r e => ⟨(hr.get e).1, (hr.get e).2.lies S⟩
        exact ⟨news, slice at_ _ c news hs g1.len (fun hn => ⟨hsp (by rintro rfl; simp at hn), g2⟩) g3, g1⟩
      · cases he
    · -- sl
      rename_i i s off len
      split at he
      · rename_i k hb
        split at he
        · rename_i hz
          cases he
          obtain ⟨rfl, hlen⟩ := hz
          obtain ⟨hk1, rfl⟩ := Hp.blk_some hb
          have B := S.blk _ _ _ hk1
          simp only [V] at hv
          obtain ⟨_, _, at_, c, rfl, hc, hlc, ha⟩ := hv
          have hll : ((k.xs.drop off).take len).length = len := by simp; omega
          obtain ⟨news, g1, g2, g3⟩ := Els.ofLies (X := X) (w := w) (z := k.z) (ys := (k.xs.drop off).take len) (b := (X.p k.s).B) (o := (X.p k.s).o + off * k.z) fun i r e => by
            rw [List.getElem?_take] at e
            split at e
            · rw [List.getElem?_drop] at e
              obtain ⟨b1, b2⟩ := B.lies e
              exact ⟨b1, by rwa [show (X.p k.s).o + off * k.z + i * k.z = (X.p k.s).o + (off + i) * k.z by rw [Nat.add_mul]; omega]⟩
            · cases e
          rw [hll]
          refine ⟨news, slice at_ _ c news hs (by rw [g1.len, hll]) (fun hn => ?_) g3, g1⟩
          have hc0 : c ≠ 0 := by rintro rfl; apply hn; rw [show len = 0 by omega]; simp
          rw [ha hc0, B.z]
          exact ⟨rfl, g2⟩
        · cases he
      · cases he

theorem grownCap_ge (w : World) (need old : Nat) (e : TypeId) : need ≤ grownCap w need old e := by simp [grownCap, Question.cut]
theorem room_le {n bytes : Nat} (hr : room n bytes = true) : (2 * n + 192) * bytes ≤ 140737488355328 := by
  have : (2 * n + 192) * bytes ≤ 2 ^ 47 := of_decide_eq_true hr
  exact this

theorem append_ok (S : Sim X h w) {z : Nat} {x : DV} {u : Value} {ys : List (List DV)} {r : DV × Hp} (hr : u1j h z x ys = some r) (hx : V X true x u) {t tx ty e : TypeId} {i : TypeInfo} {zv : Value}
    (ht : P.underlying t = some (.slice e)) (hi : P.info? e = some i) (hz : i.zero = some zv) (hzl : zv.cells.size = z) (hsz : i.size = z) (hz0 : 0 < z) (hb0 : 0 < i.bytes) (hroom : ∀ b s o n, r.1 = .sl b s o n → room n i.bytes = true)
    {q : Value} {news : List Value} (hs : Src P z tx q ys.length news w) (hn : Els X z ys news) :
    ∃ v w' X', (Builtin.append_ #[t, tx] ty #[u, q]).run P w = .ok v w' ∧ X.le X' ∧ Sim X' r.2 w' ∧ V X' true r.1 v := by
  have hroom' : ∀ n, room n i.bytes = true → n ≤ 70368744177664 ∧ ∀ need old, old < need → need ≤ n → Builtin.nextslicecap need old * i.bytes ≤ 281474976710656 := by
    intro n h1
    have h2 := room_le h1
    have h3 : (2 * n + 192) * 1 ≤ (2 * n + 192) * i.bytes := Nat.mul_le_mul_left _ hb0
    refine ⟨by omega, fun need old h4 h5 => ?_⟩
    have h6 := nextslicecap_le h4
    have h7 : Builtin.nextslicecap need old * i.bytes ≤ (2 * n + 192) * i.bytes := Nat.mul_le_mul_right _ (by omega)
    omega
  subst hsz
  cases x <;> simp only [u1j] at hr <;> try (cases hr; done)
  · -- nil
    simp only [V] at hx
    subst hx
    split at hr
    · cases hr
      have hs0 : news = [] := List.eq_nil_of_length_eq_zero (by rw [hn.len]; simp)
      subst hs0
      exact ⟨_, w, X, run_append_nothing w t tx ty e i ht hi none 0 0 (Nat.le_refl _) q hs, Cx.le.refl X, S, by simp [V]⟩
    · rename_i hne
      cases hr
      have hlen : 0 < ys.length := by cases ys with | nil => exact absurd rfl hne | cons y ys => simp
      obtain ⟨hr1, hr2⟩ := hroom' ys.length (hroom _ _ _ _ rfl)
      have hrun := run_append_grow_src w t tx ty e i zv ht hi hz none 0 0 [] (by simp [Builtin.firstCells]) q ys.length news hs (by omega) (by omega) (hr2 _ _ (by omega) (by omega))
      obtain ⟨b1, b2⟩ := But.drewAlloc w (.cells (([] ++ news).toArray ++ Builtin.zeroCells zv.cells (grownCap w (0 + ys.length) 0 e - (0 + ys.length))) e)
      have hcap := grownCap_ge w (0 + ys.length) 0 e
      obtain ⟨X', g1, g2, g3⟩ := S.row (z := i.size) (n := ys.length) (cap := grownCap w (0 + ys.length) 0 e) (xs := ys) b1 b2 (by simp) rfl (by omega) (by
        simp only [List.nil_append, Array.size_append, List.size_toArray, hn.len, Builtin.zeroCells, Array.size_map, Array.size_range, hzl]
        rw [← Nat.add_mul]; exact Nat.mul_le_mul_right _ (by omega)) fun e' r' hr' => by
          refine ⟨(hn.get e' r' hr').1, fun j d hd => ?_⟩
          obtain ⟨v, h1, h2, h3⟩ := (hn.get e' r' hr').2 j d hd
          refine ⟨v, ?_, h2, h3⟩
          rw [Array.getElem?_append_left]
          · simpa using h1
          · have := (List.getElem?_eq_some_iff.1 h1).1; simpa using this
      refine ⟨_, _, X', hrun, g1, g2, ?_⟩
      simpa using g3
  · -- a row of one's own
    rename_i bi s off len
    split at hr
    · cases hr
    · rename_i k hb
      split at hr
      · cases hr
      · rename_i hkz
        have hkz : k.z = i.size := by simpa using hkz
        obtain ⟨hk1, hks⟩ := Hp.blk_some hb
        have B := S.blk _ _ _ hk1
        have hx' := hx
        simp only [V] at hx
        obtain ⟨_, hsc, at_, c, rfl, hc, hlc, ha⟩ := hx
        subst hks
        split at hr
        · rename_i h0
          cases hr
          have hs0 : news = [] := List.eq_nil_of_length_eq_zero (by rw [hn.len, h0]; simp)
          subst hs0
          rw [h0] at hs
          exact ⟨_, w, X, run_append_nothing w t tx ty e i ht hi (some at_) len c hlc q hs, Cx.le.refl X, S, hx'⟩
        · rename_i h0
          have hpos : 0 < ys.length := Nat.pos_of_ne_zero h0
          have hBl := B.len
          obtain ⟨cells, T, fr, hcl, b1, b2, b3⟩ := B.at_
          have there : ∀ q n, q + n ≤ (X.p k.s).cap * i.size → ∀ j, j < n → (w.cell? ⟨(X.p k.s).B, (X.p k.s).o + q + j, none⟩).isSome = true ∧ w.frozen? ⟨(X.p k.s).B, (X.p k.s).o + q + j, none⟩ = false := by
            intro q n hq j hj
            have hlt : (X.p k.s).o + q + j < cells.size := by rw [hkz] at b1; omega
            refine ⟨by rw [u17 hcl]; simp [hlt], ?_⟩
            have := b2 _ (.inl hlt)
            simp only [World.frozen?, hcl]
            simpa using this
          split at hr
          · rename_i htip
            cases hr
            obtain ⟨hr1, hr2⟩ := hroom' (len + ys.length) (hroom _ _ _ _ rfl)
            by_cases hfit : len + ys.length ≤ c
            · -- there is room
              have hc0 : c ≠ 0 := by omega
              obtain rfl := ha hc0
              have hq : (off + len) * i.size + news.length ≤ (X.p k.s).cap * i.size := by
                rw [hn.len, ← Nat.add_mul]; exact Nat.mul_le_mul_right _ (by omega)
              have hth := there ((off + len) * i.size) news.length hq
              have ho : (X.p k.s).o + off * (X.p k.s).z + len * i.size = (X.p k.s).o + (off + len) * i.size := by rw [B.z, hkz, Nat.add_mul]; omega
              have hrun := run_append_room_src w t tx ty e i ht hi (X.p k.s).B ((X.p k.s).o + off * (X.p k.s).z) len c q ys.length news hs hfit (fun j hj => by rw [ho]; exact (hth j hj).1) (fun j hj => by rw [ho]; exact (hth j hj).2)
              rw [ho] at hrun
              let pl : Place := ⟨(X.p k.s).B, (X.p k.s).o + off * (X.p k.s).z, i.size, c⟩
              have le := X.mark_le pl
              have hp := X.mark_p pl
              obtain ⟨c1, c2, c3, c4⟩ := u1b (X.p k.s).B news ((X.p k.s).o + (off + len) * i.size) w cells hcl
              obtain ⟨d1, d2⟩ := u1x (X.p k.s).B news ((X.p k.s).o + (off + len) * i.size) w
              refine ⟨_, _, X.mark pl, hrun, le, ?_, ?_⟩
              · have := S.upd (X' := X.mark pl) (k' := ⟨h.c, i.size, k.xs.drop off ++ ys⟩) (w' := w.setCells (X.p k.s).B ((X.p k.s).o + (off + len) * i.size) news) hk1 le rfl (.inl (by rw [S.c, hp])) (by rw [S.c, hp]; exact d1) ?_
                · rw [S.c] at this ⊢; exact this
                · rw [S.c]
                  refine ⟨Nat.lt_succ_self _, by rw [hp], by rw [hp]; simp only [pl, List.length_append, List.length_drop]; omega, ⟨c1, T, fr, by rw [hp]; exact c2, ?_, by rw [c3]; intro o ho; exact b2 o (ho.imp id fun q => ⟨q.1, by first | exact q.2 | (intro hz1; apply q.2; simp_all)⟩), fun e' r' hr' => ?_⟩, ?_, fun o => by rw [hp]; exact B.off o⟩
                  · rw [hp, c3]
                    simp only [pl]
                    rw [B.z, hkz] at *
                    have : (X.p k.s).cap * i.size = off * i.size + c * i.size := by rw [← Nat.add_mul, hc]
                    omega
                  · rw [hp]
                    simp only [pl]
                    rw [List.getElem?_append] at hr'
                    split at hr'
                    · rename_i hlt
                      rw [List.getElem?_drop] at hr'
                      obtain ⟨f1, f2⟩ := b3 _ _ hr'
                      refine ⟨by rw [f1, hkz], fun j d hd => ?_⟩
                      obtain ⟨v, v1, v2, v3⟩ := f2 j d hd
                      have hj : j < i.size := by rw [← hkz, ← f1]; exact (List.getElem?_eq_some_iff.1 hd).1
                      refine ⟨v, ?_, v2.mono le, v3⟩
                      rw [c4, if_neg, ← v1]
                      · congr 1; rw [B.z, hkz, Nat.add_mul]; omega
                      · simp only [List.length_drop] at hlt
                        have : (e' + 1) * i.size ≤ len * i.size := Nat.mul_le_mul_right _ (by omega)
                        rw [Nat.add_mul] at this
                        rw [B.z, hkz, Nat.add_mul]; omega
                    · rename_i hge
                      simp only [List.length_drop] at hr' hge
                      obtain ⟨f1, f2⟩ := hn.get _ _ hr'
                      refine ⟨f1, fun j d hd => ?_⟩
                      obtain ⟨v, v1, v2, v3⟩ := f2 j d hd
                      have hj : (e' - (k.xs.length - off)) * i.size + j < news.length := (List.getElem?_eq_some_iff.1 v1).1
                      refine ⟨v, ?_, v2.mono le, v3⟩
                      have he : e' = len + (e' - (k.xs.length - off)) := by omega
                      have hm : (off + len) * i.size + news.length ≤ (X.p k.s).cap * i.size := hq
                      rw [hkz] at b1
                      have e1 : (X.p k.s).o + off * (X.p k.s).z + e' * i.size + j = (X.p k.s).o + (off + len) * i.size + ((e' - (k.xs.length - off)) * i.size + j) := by
                        rw [B.z, hkz]; conv => lhs; rw [he]
                        simp only [Nat.add_mul]; omega
                      rw [e1, c4, if_pos (by omega), Nat.add_sub_cancel_left]
                      exact v1
                  · rw [hp]; exact B.own
              · simp only [V]
                rw [S.c, hp]
                exact ⟨trivial, Nat.lt_succ_self _, _, _, rfl, by simp [pl], hfit, fun _ => by simp [pl]⟩
            · -- there is none
              have hold : ∃ olds, Els X i.size (k.xs.drop off) olds ∧ (Builtin.firstCells i.size len (.slice (some at_) len c)).run P w.drew = .ok olds.toArray w.drew ∧ ∀ v ∈ olds, v.oneCell' = true := by
                obtain ⟨olds, g1, g2, g3⟩ := Els.ofLies (X := X) (w := w) (z := i.size) (ys := k.xs.drop off) (b := (X.p k.s).B) (o := (X.p k.s).o + off * i.size) fun j r e => by
                  rw [List.getElem?_drop] at e
                  obtain ⟨q1, q2⟩ := B.lies e
                  rw [hkz] at q1 q2
                  exact ⟨q1, by rwa [show (X.p k.s).o + off * i.size + j * i.size = (X.p k.s).o + (off + j) * i.size by rw [Nat.add_mul]; omega]⟩
                have hll : (k.xs.drop off).length = len := by simp; omega
                refine ⟨olds, g1, run_firstCells_some w.drew i.size len at_ len c olds (by rw [g1.len, hll]) (fun j v hv => ?_), g3⟩
                have hj : j < olds.length := (List.getElem?_eq_some_iff.1 hv).1
                have hc0 : c ≠ 0 := by
                  rintro rfl
                  rw [g1.len, hll, show len = 0 by omega] at hj; simp at hj
                rw [ha hc0, Addr.add_mid, B.z, hkz]
                have := g2 j v hv
                simpa using this
              obtain ⟨olds, o1, o2, o3⟩ := hold
              have hll : (k.xs.drop off).length = len := by simp; omega
              have hrun := run_append_grow_src w t tx ty e i zv ht hi hz (some at_) len c olds o2 q ys.length news hs (by omega) (by omega) (hr2 _ _ (by omega) (by omega))
              obtain ⟨d1, d2⟩ := But.drewAlloc w (.cells ((olds ++ news).toArray ++ Builtin.zeroCells zv.cells (grownCap w (len + ys.length) c e - (len + ys.length))) e)
              have hcap := grownCap_ge w (len + ys.length) c e
              let pl : Place := ⟨w.heap.size, 0, i.size, grownCap w (len + ys.length) c e⟩
              have le := X.mark_le pl
              have hp := X.mark_p pl
              have hol := o1.len
              rw [hll] at hol
              have hnl := hn.len
              refine ⟨_, _, X.mark pl, hrun, le, ?_, ?_⟩
              · have := S.upd (X' := X.mark pl) (k' := ⟨h.c, i.size, k.xs.drop off ++ ys⟩) (w' := w.drew.alloc (.cells ((olds ++ news).toArray ++ Builtin.zeroCells zv.cells (grownCap w (len + ys.length) c e - (len + ys.length))) e)) hk1 le rfl (.inr (by rw [S.c, hp])) (by rw [S.c, hp]; exact d1) ?_
                · rw [S.c] at this ⊢; exact this
                · rw [S.c]
                  refine ⟨Nat.lt_succ_self _, by rw [hp], by rw [hp]; simp only [pl, List.length_append, hll]; exact hcap, ⟨_, e, (0, 0), by rw [hp]; exact d2, ?_, by simp, fun e' r' hr' => ?_⟩, ?_, fun o => by rw [hp]; exact S.Znone (Nat.le_refl _) o⟩
                  · rw [hp]
                    simp only [pl, Array.size_append, List.size_toArray, List.length_append, hol, hnl, Builtin.zeroCells, Array.size_map, Array.size_range, hzl]
                    rw [← Nat.add_mul, ← Nat.add_mul, Nat.zero_add]; exact Nat.mul_le_mul_right _ (by omega)
                  · rw [hp]
                    simp only [pl, Nat.zero_add]
                    rw [List.getElem?_append] at hr'
                    split at hr'
                    · rename_i hlt
                      obtain ⟨f1, f2⟩ := o1.get _ _ hr'
                      refine ⟨f1, fun j d hd => ?_⟩
                      obtain ⟨v, v1, v2, v3⟩ := f2 j d hd
                      refine ⟨v, ?_, v2.mono le, v3⟩
                      have hj := (List.getElem?_eq_some_iff.1 v1).1
                      rw [Array.getElem?_append_left (by simp; omega)]
                      simp only [List.getElem?_toArray]
                      rw [List.getElem?_append_left hj]; exact v1
                    · rename_i hge
                      rw [hll] at hr' hge
                      obtain ⟨f1, f2⟩ := hn.get _ _ hr'
                      refine ⟨f1, fun j d hd => ?_⟩
                      obtain ⟨v, v1, v2, v3⟩ := f2 j d hd
                      refine ⟨v, ?_, v2.mono le, v3⟩
                      have hj := (List.getElem?_eq_some_iff.1 v1).1
                      have e1 : e' * i.size + j = len * i.size + ((e' - len) * i.size + j) := by
                        conv => lhs; rw [show e' = len + (e' - len) by omega]
                        rw [Nat.add_mul]; omega
                      rw [e1, Array.getElem?_append_left (by simp; omega)]
                      simp only [List.getElem?_toArray]
                      rw [List.getElem?_append_right (by omega), hol, Nat.add_sub_cancel_left]; exact v1
                  · rw [hp]; exact .inr S.N
              · simp only [V]
                rw [S.c, hp]
                exact ⟨trivial, Nat.lt_succ_self _, _, _, rfl, by simp [pl], hcap, fun _ => by simp [pl]⟩
          · split at hr
            · rename_i htip hin
              cases hr
              have hfit : len + ys.length ≤ c := by omega
              have hc0 : c ≠ 0 := by omega
              obtain rfl := ha hc0
              have hq : (off + len) * i.size + news.length ≤ (X.p k.s).cap * i.size := by
                rw [hn.len, ← Nat.add_mul]; exact Nat.mul_le_mul_right _ (by omega)
              have hth := there ((off + len) * i.size) news.length hq
              have ho : (X.p k.s).o + off * (X.p k.s).z + len * i.size = (X.p k.s).o + (off + len) * i.size := by rw [B.z, hkz, Nat.add_mul]; omega
              have hrun := run_append_room_src w t tx ty e i ht hi (X.p k.s).B ((X.p k.s).o + off * (X.p k.s).z) len c q ys.length news hs hfit (fun j hj => by rw [ho]; exact (hth j hj).1) (fun j hj => by rw [ho]; exact (hth j hj).2)
              rw [ho] at hrun
              refine ⟨_, _, X, hrun, Cx.le.refl X, ?_, by simp only [V]; exact ⟨trivial, hsc, _, _, rfl, hc, hfit, fun _ => rfl⟩⟩
              refine S.write hk1 (k.xs.take (off + len) ++ ys ++ k.xs.drop (off + len + ys.length)) ((off + len) * i.size) news (by simp; omega) (by rw [hn.len, ← Nat.add_mul, hkz]; exact Nat.mul_le_mul_right _ (by omega)) fun e' r' hr' => ?_
              have hnl := hn.len
              rw [List.getElem?_append] at hr'
              split at hr'
              · rename_i hlt
                rw [List.getElem?_append] at hr'
                split at hr'
                · rename_i hlt2
                  simp only [List.length_take] at hlt2
                  rw [List.getElem?_take, if_pos (by omega)] at hr'
                  refine ⟨(b3 _ _ hr').1, fun j d hd => .inr ⟨?_, r', hr', hd⟩⟩
                  have hj : j < i.size := by rw [← hkz, ← (b3 _ _ hr').1]; exact (List.getElem?_eq_some_iff.1 hd).1
                  have : (e' + 1) * i.size ≤ (off + len) * i.size := Nat.mul_le_mul_right _ (by omega)
                  rw [Nat.add_mul] at this
                  rw [hkz]; omega
                · rename_i hge
                  simp only [List.length_take, List.length_append] at hr' hge hlt
                  rw [show min (off + len) k.xs.length = off + len by omega] at *
                  obtain ⟨f1, f2⟩ := hn.get _ _ hr'
                  refine ⟨by rw [f1, hkz], fun j d hd => .inl ?_⟩
                  obtain ⟨v, v1, v2, v3⟩ := f2 j d hd
                  have hj := (List.getElem?_eq_some_iff.1 v1).1
                  have e1 : e' * i.size + j = (off + len) * i.size + ((e' - (off + len)) * i.size + j) := by
                    conv => lhs; rw [show e' = (off + len) + (e' - (off + len)) by omega]
                    simp only [Nat.add_mul]; omega
                  rw [hkz, e1]
                  exact ⟨by omega, by omega, v, by rw [Nat.add_sub_cancel_left]; exact v1, v2, v3⟩
              · rename_i hge
                simp only [List.length_append, List.length_take] at hr' hge
                rw [show min (off + len) k.xs.length = off + len by omega] at *
                rw [List.getElem?_drop, show off + len + ys.length + (e' - (off + len + ys.length)) = e' by omega] at hr'
                refine ⟨(b3 _ _ hr').1, fun j d hd => .inr ⟨?_, r', hr', hd⟩⟩
                have : (off + len + ys.length) * i.size ≤ e' * i.size := Nat.mul_le_mul_right _ (by omega)
                rw [Nat.add_mul] at this
                rw [hkz]; omega
            · cases hr

theorem Sim.more {w' : World} (S : Sim X h w) (B : But w w' w.heap.size) : Sim X h w' := by
  refine ⟨fun b o v e => ?_, fun hb i k e => ?_, S.dist, S.c, Nat.le_trans S.N B.size, fun b hb hu => ?_, B.os.trans S.os, B.tape.trans S.tape, B.out.trans S.out, Nat.le_trans S.dr B.dr⟩
  · have hc := S.z b o v e
    have hl := u2m hc
    rw [u3z (B.same b (by omega) hl)]; exact hc
  · have hk := S.blk hb i k e
    have hl := hk.lt
    exact hk.mono (Cx.le.refl X) hk.off (B.same _ (by omega) hl)
  · have := S.N
    rw [B.same b (by omega) (by omega)]; exact S.keep b hb hu
theorem appDrop_ok (S : Sim X h w) {z : Nat} {x : DV} {u : Value} {ys : List (List DV)} {r : DV × Hp} {t tx ty e : TypeId} {i : TypeInfo} {zv : Value} (hr : u2K h z i.bytes x ys = some r) (hx : V X true x u)
    (ht : P.underlying t = some (.slice e)) (hi : P.info? e = some i) (hz : i.zero = some zv) (hzl : zv.cells.size = z) (hsz : i.size = z) (hz0 : 0 < z) (hb0 : 0 < i.bytes)
    {q : Value} {news : List Value} (hs : Src P z tx q ys.length news w) (hn : Els X z ys news) :
    ∃ v w', (Builtin.append_ #[t, tx] ty #[u, q]).run P w = .ok v w' ∧ Sim X r.2 w' ∧ r.1 = .undef := by
  have hroom' : ∀ n, room n i.bytes = true → n ≤ 70368744177664 ∧ ∀ need old, old < need → need ≤ n → Builtin.nextslicecap need old * i.bytes ≤ 281474976710656 := by
    intro n h1
    have h2 := room_le h1
    have h3 : (2 * n + 192) * 1 ≤ (2 * n + 192) * i.bytes := Nat.mul_le_mul_left _ hb0
    refine ⟨by omega, fun need old h4 h5 => ?_⟩
    have h6 := nextslicecap_le h4
    have h7 : Builtin.nextslicecap need old * i.bytes ≤ (2 * n + 192) * i.bytes := Nat.mul_le_mul_right _ (by omega)
    omega
  subst hsz
  cases x <;> simp only [u2K] at hr <;> try (cases hr; done)
  · -- nil
    simp only [V] at hx
    subst hx
    split at hr
    case isFalse => cases hr
    rename_i hrm
    cases hr
    cases hys : ys with
    | nil =>
      subst hys
      have hs0 : news = [] := List.eq_nil_of_length_eq_zero (by rw [hn.len]; simp)
      subst hs0
      exact ⟨_, w, run_append_nothing w t tx ty e i ht hi none 0 0 (Nat.le_refl _) q hs, S, rfl⟩
    | cons a l =>
      have hlen : 0 < ys.length := by rw [hys]; simp
      obtain ⟨hr1, hr2⟩ := hroom' ys.length hrm
      have hrun := run_append_grow_src w t tx ty e i zv ht hi hz none 0 0 [] (by simp [Builtin.firstCells]) q ys.length news hs (by omega) (by omega) (hr2 _ _ (by omega) (by omega))
      obtain ⟨b1, b2⟩ := But.drewAlloc w (.cells (([] ++ news).toArray ++ Builtin.zeroCells zv.cells (grownCap w (0 + ys.length) 0 e - (0 + ys.length))) e)
      exact ⟨_, _, hrun, S.more b1, rfl⟩
  · -- a row of one's own
    rename_i bi s off len
    split at hr
    · cases hr
    · rename_i k hb
      split at hr
      case isFalse => cases hr
      rename_i hc3
      obtain ⟨hkz, h0, hrm⟩ := hc3
      obtain ⟨hk1, hks⟩ := Hp.blk_some hb
      have B := S.blk _ _ _ hk1
      simp only [V] at hx
      obtain ⟨_, hsc, at_, c, rfl, hc, hlc, ha⟩ := hx
      subst hks
      have hpos : 0 < ys.length := Nat.pos_of_ne_zero h0
      have hBl := B.len
      obtain ⟨cells, T, fr, hcl, b1, b2, b3⟩ := B.at_
      have there : ∀ q n, q + n ≤ (X.p k.s).cap * i.size → ∀ j, j < n → (w.cell? ⟨(X.p k.s).B, (X.p k.s).o + q + j, none⟩).isSome = true ∧ w.frozen? ⟨(X.p k.s).B, (X.p k.s).o + q + j, none⟩ = false := by
        intro q n hq j hj
        have hlt : (X.p k.s).o + q + j < cells.size := by rw [hkz] at b1; omega
        refine ⟨by rw [u17 hcl]; simp [hlt], ?_⟩
        have := b2 _ (.inl hlt)
        simp only [World.frozen?, hcl]
        simpa using this
      obtain ⟨hr1, hr2⟩ := hroom' (len + ys.length) hrm
      split at hr
      · rename_i htip
        cases hr
        by_cases hfit : len + ys.length ≤ c
        · -- there is room
          have hc0 : c ≠ 0 := by omega
          obtain rfl := ha hc0
          have hq : (off + len) * i.size + news.length ≤ (X.p k.s).cap * i.size := by
            rw [hn.len, ← Nat.add_mul]; exact Nat.mul_le_mul_right _ (by omega)
          have hth := there ((off + len) * i.size) news.length hq
          have ho : (X.p k.s).o + off * (X.p k.s).z + len * i.size = (X.p k.s).o + (off + len) * i.size := by rw [B.z, hkz, Nat.add_mul]; omega
          have hrun := run_append_room_src w t tx ty e i ht hi (X.p k.s).B ((X.p k.s).o + off * (X.p k.s).z) len c q ys.length news hs hfit (fun j hj => by rw [ho]; exact (hth j hj).1) (fun j hj => by rw [ho]; exact (hth j hj).2)
          rw [ho] at hrun
          refine ⟨_, _, hrun, ?_, rfl⟩
          obtain ⟨c1, c2, c3, c4⟩ := u1b (X.p k.s).B news ((X.p k.s).o + (off + len) * i.size) w cells hcl
          obtain ⟨d1, d2⟩ := u1x (X.p k.s).B news ((X.p k.s).o + (off + len) * i.size) w
          have hput : h.put true bi k = h := by
            simp only [Hp.put, if_true]
            have : h.R.set bi k = h.R := by
              obtain ⟨hlt, he⟩ := List.getElem?_eq_some_iff.1 (show h.R[bi]? = some k from hk1)
              rw [← he]; exact List.set_getElem_self hlt
            rw [this]
          have := S.upd (X' := X) (k' := k) (w' := w.setCells (X.p k.s).B ((X.p k.s).o + (off + len) * i.size) news) hk1 (Cx.le.refl X) rfl (.inl rfl) d1
            ⟨B.c, B.z, B.len, ⟨c1, T, fr, c2, by rw [c3]; exact b1, by rw [c3]; exact b2, fun e' r' hr' => ?_⟩, B.own, B.off⟩
          · simp only [hput] at this
            rw [← S.c] at this
            exact this
          · obtain ⟨f1, f2⟩ := b3 _ _ hr'
            refine ⟨f1, fun j d hd => ?_⟩
            obtain ⟨v, v1, v2, v3⟩ := f2 j d hd
            refine ⟨v, ?_, v2, v3⟩
            have hlt : e' < k.xs.length := (List.getElem?_eq_some_iff.1 hr').1
            have hj : j < k.z := by rw [← f1]; exact (List.getElem?_eq_some_iff.1 hd).1
            have : (e' + 1) * k.z ≤ (off + len) * k.z := Nat.mul_le_mul_right _ (by omega)
            rw [Nat.add_mul] at this
            rw [c4, if_neg (by rw [← hkz]; omega)]
            exact v1
        · -- there is none
          have hold : ∃ olds, Els X i.size (k.xs.drop off) olds ∧ (Builtin.firstCells i.size len (.slice (some at_) len c)).run P w.drew = .ok olds.toArray w.drew ∧ ∀ v ∈ olds, v.oneCell' = true := by
            obtain ⟨olds, g1, g2, g3⟩ := Els.ofLies (X := X) (w := w) (z := i.size) (ys := k.xs.drop off) (b := (X.p k.s).B) (o := (X.p k.s).o + off * i.size) fun j r e => by
              rw [List.getElem?_drop] at e
              obtain ⟨q1, q2⟩ := B.lies e
              rw [hkz] at q1 q2
              exact ⟨q1, by rwa [show (X.p k.s).o + off * i.size + j * i.size = (X.p k.s).o + (off + j) * i.size by rw [Nat.add_mul]; omega]⟩
            have hll : (k.xs.drop off).length = len := by simp; omega
            refine ⟨olds, g1, run_firstCells_some w.drew i.size len at_ len c olds (by rw [g1.len, hll]) (fun j v hv => ?_), g3⟩
            have hj : j < olds.length := (List.getElem?_eq_some_iff.1 hv).1
            have hc0 : c ≠ 0 := by
              rintro rfl
              rw [g1.len, hll, show len = 0 by omega] at hj; simp at hj
            rw [ha hc0, Addr.add_mid, B.z, hkz]
            have := g2 j v hv
            simpa using this
          obtain ⟨olds, o1, o2, o3⟩ := hold
          have hrun := run_append_grow_src w t tx ty e i zv ht hi hz (some at_) len c olds o2 q ys.length news hs (by omega) (by omega) (hr2 _ _ (by omega) (by omega))
          obtain ⟨d1, d2⟩ := But.drewAlloc w (.cells ((olds ++ news).toArray ++ Builtin.zeroCells zv.cells (grownCap w (len + ys.length) c e - (len + ys.length))) e)
          exact ⟨_, _, hrun, S.more d1, rfl⟩
      · split at hr
        · rename_i htip hin
          cases hr
          have hfit : len + ys.length ≤ c := by omega
          have hc0 : c ≠ 0 := by omega
          obtain rfl := ha hc0
          have hq : (off + len) * i.size + news.length ≤ (X.p k.s).cap * i.size := by
            rw [hn.len, ← Nat.add_mul]; exact Nat.mul_le_mul_right _ (by omega)
          have hth := there ((off + len) * i.size) news.length hq
          have ho : (X.p k.s).o + off * (X.p k.s).z + len * i.size = (X.p k.s).o + (off + len) * i.size := by rw [B.z, hkz, Nat.add_mul]; omega
          have hrun := run_append_room_src w t tx ty e i ht hi (X.p k.s).B ((X.p k.s).o + off * (X.p k.s).z) len c q ys.length news hs hfit (fun j hj => by rw [ho]; exact (hth j hj).1) (fun j hj => by rw [ho]; exact (hth j hj).2)
          rw [ho] at hrun
          refine ⟨_, _, hrun, ?_, rfl⟩
          refine S.write hk1 (k.xs.take (off + len) ++ ys ++ k.xs.drop (off + len + ys.length)) ((off + len) * i.size) news (by simp; omega) (by rw [hn.len, ← Nat.add_mul, hkz]; exact Nat.mul_le_mul_right _ (by omega)) fun e' r' hr' => ?_
          have hnl := hn.len
          rw [List.getElem?_append] at hr'
          split at hr'
          · rename_i hlt
            rw [List.getElem?_append] at hr'
            split at hr'
            · rename_i hlt2
              simp only [List.length_take] at hlt2
              rw [List.getElem?_take, if_pos (by omega)] at hr'
              refine ⟨(b3 _ _ hr').1, fun j d hd => .inr ⟨?_, r', hr', hd⟩⟩
              have hj : j < i.size := by rw [← hkz, ← (b3 _ _ hr').1]; exact (List.getElem?_eq_some_iff.1 hd).1
              have : (e' + 1) * i.size ≤ (off + len) * i.size := Nat.mul_le_mul_right _ (by omega)
              rw [Nat.add_mul] at this
              rw [hkz]; omega
            · rename_i hge
              simp only [List.length_take, List.length_append] at hr' hge hlt
              rw [show min (off + len) k.xs.length = off + len by omega] at *
              obtain ⟨f1, f2⟩ := hn.get _ _ hr'
              refine ⟨by rw [f1, hkz], fun j d hd => .inl ?_⟩
              obtain ⟨v, v1, v2, v3⟩ := f2 j d hd
              have hj := (List.getElem?_eq_some_iff.1 v1).1
              have e1 : e' * i.size + j = (off + len) * i.size + ((e' - (off + len)) * i.size + j) := by
                conv => lhs; rw [show e' = (off + len) + (e' - (off + len)) by omega]
                simp only [Nat.add_mul]; omega
              rw [hkz, e1]
              exact ⟨by omega, by omega, v, by rw [Nat.add_sub_cancel_left]; exact v1, v2, v3⟩
          · rename_i hge
            simp only [List.length_append, List.length_take] at hr' hge
            rw [show min (off + len) k.xs.length = off + len by omega] at *
            rw [List.getElem?_drop, show off + len + ys.length + (e' - (off + len + ys.length)) = e' by omega] at hr'
            refine ⟨(b3 _ _ hr').1, fun j d hd => .inr ⟨?_, r', hr', hd⟩⟩
            have : (off + len + ys.length) * i.size ≤ e' * i.size := Nat.mul_le_mul_right _ (by omega)
            rw [Nat.add_mul] at this
            rw [hkz]; omega
        · cases hr

end Go.Dv
/- The engine: store, copy, slices of slices, fields, elements. -/
set_option linter.unusedVariables false
set_option linter.unusedSimpArgs false
namespace Go.Dv
variable {P : Program} {X : Cx} {h : Hp} {w : World} {l : List DV} {a : Act}

theorem store_ok (S : Sim X h w) {b : Bool} {i s e o z : Nat} {k : Blk} {r : List DV} {p q : Value} {y : DV} {t : TypeId} (hk : h.blk b i s = some k) (hr : k.xs[e]? = some r) (hp : V X true (.ptr b i s e o) p) (hy : V X true y q)
    (hz : y.cells.length = z) (ho : o + z ≤ r.length) (hc : y.cells.all DV.isCell = true) (ht : sizeP P t = some z) :
    ∃ w', (Instr.storeAt t p q).run P w = .ok () w' ∧ Sim X (h.put b i { k with xs := k.xs.set e (u07 r o y.cells) }) w' := by
  obtain ⟨hk1, rfl⟩ := Hp.blk_some hk
  have B := S.blk _ _ _ hk1
  simp only [V] at hp
  obtain ⟨_, _, rfl⟩ := hp
  obtain ⟨g1, g2⟩ := hy.cells_ok hc
  obtain ⟨cells, T, fr, hcl, b1, b2, b3⟩ := B.at_
  have hlen : q.cells.size = z := by rw [← hz]; simpa using g1.length.symm
  have he : e < k.xs.length := (List.getElem?_eq_some_iff.1 hr).1
  have hrl := (b3 _ _ hr).1
  have hle : k.xs.length * k.z ≤ (X.p k.s).cap * k.z := Nat.mul_le_mul_right _ B.len
  have hez : e * k.z + k.z ≤ k.xs.length * k.z := by
    have : (e + 1) * k.z ≤ k.xs.length * k.z := Nat.mul_le_mul_right _ he
    rwa [Nat.add_mul, Nat.one_mul] at this
  have there : ∀ j, j < z → (w.cell? ⟨(X.p k.s).B, (X.p k.s).o + e * k.z + o + j, none⟩).isSome = true ∧ w.frozen? ⟨(X.p k.s).B, (X.p k.s).o + e * k.z + o + j, none⟩ = false := by
    intro j hj
    have hlt : (X.p k.s).o + e * k.z + o + j < cells.size := by omega
    refine ⟨by rw [u17 hcl]; simp [hlt], ?_⟩
    have := b2 _ (.inl hlt)
    simp only [World.frozen?, hcl]
    simpa using this
  have hst := run_storeCells_cells (P := P) (X.p k.s).B ((X.p k.s).o + e * k.z + o) q.cells.toList 0 w (fun j hj => by simpa using (there j (by simpa [hlen] using hj)).1) (fun j hj => by simpa using (there j (by simpa [hlen] using hj)).2) g2
  refine ⟨w.setCells (X.p k.s).B ((X.p k.s).o + e * k.z + o) q.cells.toList, ?_, ?_⟩
  · rw [B.z]
    simp only [Nat.add_zero] at hst
    simp [Instr.storeAt, Instr.sureAddr, storeVar, u0C ht, hlen, hst]
  · have hq := S.write (hb := b) hk1 (k.xs.set e (u07 r o y.cells)) (e * k.z + o) q.cells.toList (by simp) (by simp [hlen]; omega) fun e' r' hr' => ?_
    · rwa [show (X.p k.s).o + (e * k.z + o) = (X.p k.s).o + e * k.z + o by omega] at hq
    · rw [List.getElem?_set] at hr'
      by_cases hee : e = e'
      · subst hee
        rw [if_pos rfl, if_pos he] at hr'
        cases hr'
        refine ⟨by rw [u2N, hrl], fun j d hd => ?_⟩
        rw [u39] at hd
        split at hd
        · rename_i hc1
          refine .inl ⟨by omega, by simp [hlen]; omega, ?_⟩
          obtain ⟨u, u1, u2⟩ := g1.get hd
          exact ⟨u, by rw [show e * k.z + j - (e * k.z + o) = j - o by omega]; exact u1, u2, g2 u (List.mem_of_getElem? u1)⟩
        · rename_i hc1
          have hj : j < r.length := (List.getElem?_eq_some_iff.1 hd).1
          exact .inr ⟨by simp [hlen]; omega, r, hr, hd⟩
      · rw [if_neg hee] at hr'
        have hrl' := (b3 _ _ hr').1
        refine ⟨hrl', fun j d hd => .inr ⟨?_, r', hr', hd⟩⟩
        have hj : j < k.z := by rw [← hrl']; exact (List.getElem?_eq_some_iff.1 hd).1
        have hzz : z ≤ k.z := by omega
        rcases Nat.lt_or_gt_of_ne hee with h1 | h1
        · have : (e + 1) * k.z ≤ e' * k.z := Nat.mul_le_mul_right _ h1
          rw [Nat.add_mul] at this
          simp [hlen]; omega
        · have : (e' + 1) * k.z ≤ e * k.z := Nat.mul_le_mul_right _ h1
          rw [Nat.add_mul] at this
          simp [hlen]; omega

theorem over_ok (S : Sim X h w) {i off len : Nat} {k : Blk} {ys : List (List DV)} {news : List Value} {at_ : Addr} {c : Nat} (hk1 : (h.heap true)[i]? = some k) (hlen : off + len ≤ k.xs.length) (hc : off + c = (X.p k.s).cap) (hlc : len ≤ c) (ha : c ≠ 0 → at_ = ⟨(X.p k.s).B, (X.p k.s).o + off * (X.p k.s).z, none⟩)
    (k3 : Els X k.z ys news) (k4 : ∀ v ∈ news, v.oneCell' = true) :
    ∃ w', (storeCells at_ (news.take (min ys.length len * k.z)) 0).run P w = .ok () w' ∧
      Sim X (h.put true i { k with xs := k.xs.take off ++ ys.take len ++ k.xs.drop (off + min ys.length len) }) w' := by
  have B := S.blk _ _ _ hk1
  obtain ⟨cells, T, fr, hcl, b1, b2, b3⟩ := B.at_
  have hBl := B.len
  have hle : k.xs.length * k.z ≤ (X.p k.s).cap * k.z := Nat.mul_le_mul_right _ B.len
  have hm : Nat.min ys.length len = min ys.length len := rfl
  have hnl := k3.len
  have hcut : (news.take (min ys.length len * k.z)).length = min ys.length len * k.z := by
    rw [List.length_take, hnl]
    have : min ys.length len * k.z ≤ ys.length * k.z := Nat.mul_le_mul_right _ (by omega)
    omega
  have hq : off * k.z + min ys.length len * k.z ≤ k.xs.length * k.z := by rw [← Nat.add_mul]; exact Nat.mul_le_mul_right _ (by omega)
  have there : ∀ j, j < min ys.length len * k.z → (w.cell? ⟨(X.p k.s).B, (X.p k.s).o + off * k.z + j, none⟩).isSome = true ∧ w.frozen? ⟨(X.p k.s).B, (X.p k.s).o + off * k.z + j, none⟩ = false := by
    intro j hj
    have hlt : (X.p k.s).o + off * k.z + j < cells.size := by omega
    refine ⟨by rw [u17 hcl]; simp [hlt], ?_⟩
    have := b2 _ (.inl hlt)
    simp only [World.frozen?, hcl]
    simpa using this
  have h1c : ∀ v ∈ news.take (min ys.length len * k.z), v.oneCell' = true := fun v hv => k4 v (List.mem_of_mem_take hv)
  have hW : ∃ w', w' = w.setCells (X.p k.s).B ((X.p k.s).o + off * k.z) (news.take (min ys.length len * k.z)) ∧ (storeCells at_ (news.take (min ys.length len * k.z)) 0).run P w = .ok () w' := by
    by_cases h0 : min ys.length len * k.z = 0
    · refine ⟨w, ?_, ?_⟩
      · rw [h0, List.take_zero]; rfl
      · rw [h0, List.take_zero]; rfl
    · have hc0 : c ≠ 0 := by rintro rfl; apply h0; rw [show min ys.length len = 0 by omega]; simp
      rw [ha hc0, B.z]
      refine ⟨_, rfl, ?_⟩
      have := run_storeCells_cells (P := P) (X.p k.s).B ((X.p k.s).o + off * k.z) (news.take (min ys.length len * k.z)) 0 w (fun j hj => by simpa using (there j (by rwa [hcut] at hj)).1) (fun j hj => by simpa using (there j (by rwa [hcut] at hj)).2) h1c
      simpa using this
  obtain ⟨w', rfl, hst⟩ := hW
  refine ⟨w.setCells (X.p k.s).B ((X.p k.s).o + off * k.z) (news.take (min ys.length len * k.z)), hst, ?_⟩
  · refine S.write hk1 (k.xs.take off ++ ys.take len ++ k.xs.drop (off + min ys.length len)) (off * k.z) (news.take (min ys.length len * k.z)) (by simp; omega) (by rw [hcut]; exact hq) fun e' r' hr' => ?_
    rw [hcut]
    have hto : (k.xs.take off).length = off := by simp; omega
    have hty : (ys.take len).length = min ys.length len := by simp; omega
    rw [List.getElem?_append] at hr'
    split at hr'
    · rename_i hlt
      rw [List.getElem?_append] at hr'
      split at hr'
      · rename_i hlt2
        rw [hto] at hlt2
        rw [List.getElem?_take, if_pos hlt2] at hr'
        refine ⟨(b3 _ _ hr').1, fun j d hd => .inr ⟨?_, r', hr', hd⟩⟩
        have hj : j < k.z := by rw [← (b3 _ _ hr').1]; exact (List.getElem?_eq_some_iff.1 hd).1
        have : (e' + 1) * k.z ≤ off * k.z := Nat.mul_le_mul_right _ hlt2
        rw [Nat.add_mul] at this
        omega
      · rename_i hge
        rw [hto] at hr' hge
        rw [List.length_append, hto, hty] at hlt
        rw [List.getElem?_take] at hr'
        split at hr'
        · obtain ⟨f1, f2⟩ := k3.get _ _ hr'
          refine ⟨f1, fun j d hd => .inl ?_⟩
          obtain ⟨v, v1, v2, v3⟩ := f2 j d hd
          have hj : j < k.z := by rw [← f1]; exact (List.getElem?_eq_some_iff.1 hd).1
          have e1 : e' * k.z + j = off * k.z + ((e' - off) * k.z + j) := by
            conv => lhs; rw [show e' = off + (e' - off) by omega]
            simp only [Nat.add_mul]; omega
          have e2 : (e' - off + 1) * k.z ≤ min ys.length len * k.z := Nat.mul_le_mul_right _ (by omega)
          rw [Nat.add_mul] at e2
          rw [e1]
          refine ⟨by omega, by omega, v, ?_, v2, v3⟩
          rw [Nat.add_sub_cancel_left, List.getElem?_take, if_pos (by omega)]
          exact v1
        · cases hr'
    · rename_i hge
      rw [List.length_append, hto, hty] at hr' hge
      rw [List.getElem?_drop, show off + min ys.length len + (e' - (off + min ys.length len)) = e' by omega] at hr'
      refine ⟨(b3 _ _ hr').1, fun j d hd => .inr ⟨?_, r', hr', hd⟩⟩
      have : (off + min ys.length len) * k.z ≤ e' * k.z := Nat.mul_le_mul_right _ (by omega)
      rw [Nat.add_mul] at this
      omega

theorem copy_ok (S : Sim X h w) {z : Nat} {i s off len : Nat} {k : Blk} {p q : Value} {ys : List (List DV)} {src : DV} {t tx ty e : TypeId} {st : Bool} (he : u1n h z st src = some ys) (hq : V X true src q)
    (hk : h.blk true i s = some k) (hkz : k.z = z) (hlen : off + len ≤ k.xs.length) (hp : V X true (.sl i s off len) p) (ht : P.underlying t = some (.slice e)) (hz : sizeP P e = some z) :
    ∃ w', (Builtin.copy_ #[t, tx] ty #[p, q]).run P w = .ok (goInt (min ys.length len : Nat)) w' ∧
      Sim X (h.put true i { k with xs := k.xs.take off ++ ys.take len ++ k.xs.drop (off + min ys.length len) }) w' := by
  obtain ⟨hk1, rfl⟩ := Hp.blk_some hk
  have B := S.blk _ _ _ hk1
  have key : ∃ news, (Builtin.lenOf q).run P w = .ok ys.length w ∧ (∀ n, n ≤ ys.length → (Builtin.firstCells z n q).run P w = .ok (news.take (n * z)).toArray w) ∧ Els X z ys news ∧ ∀ v ∈ news, v.oneCell' = true := by
    have slice : ∀ (at_ : Addr) (n c : Nat) (news : List Value), news.length = n * z → (n * z ≠ 0 → at_.spot = none ∧ w.rangeAt at_.block at_.off news) →
        ∀ m, m ≤ n → (Builtin.firstCells z m (.slice (some at_) n c)).run P w = .ok (news.take (m * z)).toArray w := by
      intro at_ n c news hl ha m hm
      have hmz : m * z ≤ n * z := Nat.mul_le_mul_right _ hm
      refine run_firstCells_some w z m at_ n c _ (by rw [List.length_take, hl]; omega) fun j u hu => ?_
      rw [List.getElem?_take] at hu
      split at hu
      · have hj : j < news.length := (List.getElem?_eq_some_iff.1 hu).1
        obtain ⟨g1, g2⟩ := ha (by omega)
        obtain ⟨b, o, s⟩ := at_
        simp only at g1 g2
        subst g1
        rw [Addr.add_mid]
        exact g2 j u hu
      · cases hu
    cases st with
    | true =>
      simp only [u1n, if_true] at he
      cases src <;> simp only [u68] at he <;> try (cases he; done)
      rename_i s
      split at he
      · rename_i hz1
        cases he; subst hz1
        obtain rfl := hq.str_inv
        have hl : (s.toList.map fun x => [DV.int .u8 x.toNat]).length = s.size := by
          rw [List.length_map, ByteArray.toList_eq]; exact Array.length_toList
        refine ⟨byteCells s, by rw [hl]; rfl, fun n hn => ?_, ⟨by rw [byteCells_length, hl, Nat.mul_one], fun e r hr => ?_⟩, fun v hv => ?_⟩
        · rw [Nat.mul_one]
          simp only [Builtin.firstCells, Sem.run_pure, byteCells]
          congr 1
          apply Array.ext'
          rw [Array.toList_map, ByteArray.data_extract, Array.toList_extract, List.extract_eq_take_drop]
          simp [List.map_take]
        · rw [List.getElem?_map, Option.map_eq_some_iff] at hr
          obtain ⟨x, hx, rfl⟩ := hr
          refine ⟨rfl, fun j d hd => ?_⟩
          cases j with
          | succ j => simp at hd
          | zero =>
            simp at hd; subst hd
            refine ⟨.int .u8 x.toNat, ?_, by simp [V], rfl⟩
            rw [ByteArray.toList_eq] at hx
            simp [byteCells, hx]
        · obtain ⟨_, _, rfl⟩ := List.mem_map.1 hv; rfl
      · cases he
    | false =>
      simp only [u1n, Bool.false_eq_true, if_false] at he
      cases src <;> simp only [elems] at he <;> try (cases he; done)
      · cases he
        simp only [V] at hq
        subst hq
        exact ⟨[], rfl, fun n hn => by simp [Builtin.firstCells], ⟨by simp, by simp⟩, by simp⟩
      · rename_i z' xs
        split at he
        · rename_i hz1
          cases he; subst hz1
          simp only [V] at hq
          obtain ⟨at_, c, rfl, hc, hsp, hr⟩ := hq
          obtain ⟨news, g1, g2, g3⟩ := Els.ofLies (w := w) (b := at_.block) (o := at_.off) fun i r e => ⟨(hr.get e).1, (hr.get e).2.lies S⟩
          exact ⟨news, rfl, slice at_ _ c news g1.len fun hn => ⟨hsp (by rintro rfl; simp at hn), g2⟩, g1, g3⟩
        · cases he
      · rename_i i' s' off' len'
        split at he
        · rename_i k' hb
          split at he
          · rename_i hz1
            cases he
            obtain ⟨rfl, hlen'⟩ := hz1
            obtain ⟨hk2, rfl⟩ := Hp.blk_some hb
            have B' := S.blk _ _ _ hk2
            simp only [V] at hq
            obtain ⟨_, _, at_, c, rfl, hc, hlc, ha⟩ := hq
            have hll : ((k'.xs.drop off').take len').length = len' := by simp; omega
            obtain ⟨news, g1, g2, g3⟩ := Els.ofLies (X := X) (w := w) (z := k'.z) (ys := (k'.xs.drop off').take len') (b := (X.p k'.s).B) (o := (X.p k'.s).o + off' * k'.z) fun i r e => by
              rw [List.getElem?_take] at e
              split at e
              · rw [List.getElem?_drop] at e
                obtain ⟨b1, b2⟩ := B'.lies e
                exact ⟨b1, by rwa [show (X.p k'.s).o + off' * k'.z + i * k'.z = (X.p k'.s).o + (off' + i) * k'.z by rw [Nat.add_mul]; omega]⟩
              · cases e
            refine ⟨news, by rw [hll]; rfl, fun n hn => ?_, g1, g3⟩
            rw [hll] at hn
            refine slice at_ len' c news (by rw [g1.len, hll]) (fun hn => ?_) n hn
            have hc0 : c ≠ 0 := by rintro rfl; apply hn; rw [show len' = 0 by omega]; simp
            rw [ha hc0, B'.z]
            exact ⟨rfl, g2⟩
          · cases he
        · cases he
  obtain ⟨news, k1, k2, k3, k4⟩ := key
  subst hkz
  simp only [V] at hp
  obtain ⟨_, _, at_, c, rfl, hc, hlc, ha⟩ := hp
  have hm : Nat.min ys.length len = min ys.length len := rfl
  obtain ⟨w', g1, g2⟩ := over_ok (P := P) S hk1 hlen hc hlc ha k3 k4
  refine ⟨w', ?_, g2⟩
  have h2 := k2 (min ys.length len) (by omega)
  simp [Builtin.copy_, run_underlying ht, u0C hz, k1]
  rw [hm, h2]
  simp [g1]

theorem clear_ok (S : Sim X h w) {z : Nat} {i s off len : Nat} {k : Blk} {p : Value} {zero : List DV} {t ty e : TypeId} (hk : h.blk true i s = some k) (hkz : k.z = z) (hlen : off + len ≤ k.xs.length) (hp : V X true (.sl i s off len) p) (ht : P.underlying t = some (.slice e)) (hz : zeroP P e = some zero) (hzl : zero.length = z) (hz0 : 0 < z) :
    ∃ w', (Builtin.clear_ #[t] ty #[p]).run P w = .ok (.tuple #[]) w' ∧
      Sim X (h.put true i { k with xs := k.xs.take off ++ List.replicate len zero ++ k.xs.drop (off + len) }) w' := by
  obtain ⟨hk1, rfl⟩ := Hp.blk_some hk
  subst hkz
  simp only [V] at hp
  obtain ⟨_, _, at_, c, rfl, hc, hlc, ha⟩ := hp
  obtain ⟨zv, z1, z2, z3⟩ := u33 hz w
  have hzs : zv.cells.size = k.z := by rw [← hzl]; simpa using (z2 X true).length.symm
  have k3 : Els X k.z (List.replicate len zero) (Builtin.zeroCells zv.cells len).toList := by
    refine ⟨by simp [Builtin.zeroCells, hzs], fun e' r hr => ?_⟩
    have he' : e' < len := by have := (List.getElem?_eq_some_iff.1 hr).1; simpa using this
    rw [List.getElem?_replicate, if_pos he'] at hr
    cases hr
    refine ⟨hzl, fun j d hd => ?_⟩
    obtain ⟨v, v1, v2⟩ := (z2 X true).get hd
    have hj : j < k.z := by rw [← hzl]; exact (List.getElem?_eq_some_iff.1 hd).1
    have hlt : e' * k.z + j < len * k.z := by
      have := Nat.mul_le_mul_right k.z (show e' + 1 ≤ len from he')
      rw [Nat.add_mul] at this; omega
    refine ⟨v, ?_, v2, ?_⟩
    · simp only [Builtin.zeroCells, Array.toList_map, List.getElem?_map, Array.toList_range]
      rw [List.getElem?_range (by rw [hzs]; exact hlt)]
      have hmod : (e' * k.z + j) % k.z = j := by rw [Nat.mul_comm, Nat.mul_add_mod]; exact Nat.mod_eq_of_lt hj
      simp only [Option.map_some, hzs, hmod]
      rw [Array.getElem?_toList] at v1
      rw [Array.getElem!_eq_getD, Array.getD_eq_getD_getElem?, v1]; rfl
    · exact v2.oneCell (z3 d (List.mem_of_getElem? hd))
  obtain ⟨w', g1, g2⟩ := over_ok (P := P) (off := off) (len := len) S hk1 hlen hc hlc ha k3 fun v hv => by
    obtain ⟨q, hq⟩ := List.getElem?_of_mem hv
    have hql : q < len * k.z := by
      have := (List.getElem?_eq_some_iff.1 hq).1
      rw [k3.len, List.length_replicate] at this
      exact this
    have hz1 : q / k.z < len := Nat.div_lt_of_lt_mul (by rw [Nat.mul_comm]; exact hql)
    have hj : q % k.z < zero.length := by rw [hzl]; exact Nat.mod_lt _ hz0
    obtain ⟨v', v1, _, v3⟩ := (k3.get (q / k.z) zero (by rw [List.getElem?_replicate, if_pos hz1])).2 (q % k.z) zero[q % k.z] (List.getElem?_eq_getElem hj)
    rw [Nat.mul_comm, Nat.div_add_mod, hq] at v1
    cases v1
    exact v3
  refine ⟨w', ?_, by simpa using g2⟩
  rw [List.length_replicate, Nat.min_self, ← hzs] at g1
  have e1 : (Builtin.zeroCells zv.cells len).toList.take (len * zv.cells.size) = (Builtin.zeroCells zv.cells len).toList := List.take_of_length_le (by simp [Builtin.zeroCells])
  rw [e1] at g1
  by_cases hl0 : len = 0
  · subst hl0
    have : (Builtin.zeroCells zv.cells 0).toList = [] := by simp [Builtin.zeroCells]
    rw [this] at g1
    have hw : w' = w := by
      have : (storeCells at_ [] 0).run P w = .ok () w := rfl
      rw [this] at g1
      cases g1; rfl
    subst hw
    simp [Builtin.clear_, run_underlying ht]
  · obtain ⟨n, rfl⟩ : ∃ n, len = n + 1 := ⟨len - 1, by omega⟩
    simp [Builtin.clear_, run_underlying ht, z1, g1]

end Go.Dv
/- The engine: any operation but a call comes to in Go what the engine says (trOp_ok). -/
set_option linter.unusedVariables false
set_option linter.unusedSimpArgs false
namespace Go.Dv
variable {P : Program} {X : Cx} {h : Hp} {w : World} {l : List DV} {a : Act}

theorem trOpt_ok (T : TM X l a) {x : Option Operand} {y : Option Opd} (hx : trOpt x = some y) : (x = none ∧ y = none) ∨ ∃ p q, x = some p ∧ y = some q ∧ V X true (q.ev l) (a.eval p) := by
  cases x with
  | none => cases hx; exact .inl ⟨rfl, rfl⟩
  | some p =>
    simp only [trOpt, Option.map_eq_some_iff] at hx
    obtain ⟨q, h1, rfl⟩ := hx
    exact .inr ⟨p, q, rfl, rfl, u0q h1 T⟩
theorem u3L {v : DV} {u : Value} {n d : Nat} (hb : bound (some v) d = some n) (hv : V X true v u) : ∃ k, u = .int k (n : Int) := by
  cases v <;> simp only [bound] at hb <;> try (cases hb; done)
  rename_i k m
  split at hb
  · rename_i h0
    cases hb
    exact ⟨k, by rw [hv.int_inv, Int.toNat_of_nonneg h0]⟩
  · cases hb
theorem run_sb (k : IntKind) (i y : Nat) (code : BoundsCode) (h1 : i ≤ y) (w : World) : (Instr.sliceBound (.int k (i : Int)) y code).run P w = .ok i w := by
  simp [Instr.sliceBound, asIntOf, h1]
theorem u2M (T : TM X l a) {isSlice : Bool} {len cap : Nat} {lo hi : Option Operand} {lo' hi' : Option Opd} {p q : Nat} (h1 : trOpt lo = some lo') (h2 : trOpt hi = some hi') (b1 : bound (lo'.map fun x => Opd.ev l x) 0 = some p) (b2 : bound (hi'.map fun x => Opd.ev l x) len = some q)
    (hpq : p ≤ q) (hql : q ≤ cap) : (Instr.sliceBounds isSlice len cap (lo.map a.eval) (hi.map a.eval) none).run P w = .ok (p, q, cap) w := by
  rcases trOpt_ok T h1 with ⟨rfl, rfl⟩ | ⟨x, x', rfl, rfl, hx⟩ <;> rcases trOpt_ok T h2 with ⟨rfl, rfl⟩ | ⟨y, y', rfl, rfl, hy⟩
  · simp only [Option.map_none, bound, Option.some.injEq] at b1 b2
    subst b1; subst b2
    simp [Instr.sliceBounds]
  · simp only [Option.map_none, Option.map_some, bound, Option.some.injEq] at b1
    subst b1
    obtain ⟨k, hk⟩ := u3L (by simpa using b2) hy
    simp [Instr.sliceBounds, hk, run_sb, hql]
  · simp only [Option.map_none, Option.map_some, bound, Option.some.injEq] at b2
    subst b2
    obtain ⟨k, hk⟩ := u3L (by simpa using b1) hx
    simp [Instr.sliceBounds, hk, run_sb, hpq]
  · obtain ⟨k, hk⟩ := u3L (by simpa using b1) hx
    obtain ⟨k', hk'⟩ := u3L (by simpa using b2) hy
    simp [Instr.sliceBounds, hk, hk', run_sb, hpq, hql]

theorem u6u (T : TM X l a) {len cap : Nat} {lo : Option Operand} {hi m : Operand} {lo' : Option Opd} {hi' m' : Opd} {p q r : Nat} (h1 : trOpt lo = some lo') (h2 : trO hi = some hi') (h3 : trO m = some m') (b1 : bound (lo'.map fun x => Opd.ev l x) 0 = some p) (b2 : bound (some (Opd.ev l hi')) 0 = some q) (b3 : bound (some (Opd.ev l m')) 0 = some r)
    (hpq : p ≤ q) (hqr : q ≤ r) (hrc : r ≤ cap) : (Instr.sliceBounds true len cap (lo.map a.eval) (some (a.eval hi)) (some (a.eval m))).run P w = .ok (p, q, r) w := by
  obtain ⟨k2, hk2⟩ := u3L (by simpa using b2) (u0q h2 T)
  obtain ⟨k3, hk3⟩ := u3L (by simpa using b3) (u0q h3 T)
  rcases trOpt_ok T h1 with ⟨rfl, rfl⟩ | ⟨x, x', rfl, rfl, hx⟩
  · simp only [Option.map_none, bound, Option.some.injEq] at b1
    subst b1
    simp [Instr.sliceBounds, hk2, hk3, run_sb, hqr, hrc]
  · obtain ⟨k, hk⟩ := u3L (by simpa using b1) hx
    simp [Instr.sliceBounds, hk, hk2, hk3, run_sb, hpq, hqr, hrc]

theorem chk3_ok (S : Sim X h w) (T : TM X l a) {t e : TypeId} {lo : Option Operand} {hi m : Operand} {lo' : Option Opd} {hi' m' : Opd} {x : Opd} {u : Value} {v : DV} {h' : Hp} {K : Oracle} {z : Nat} (h1 : trOpt lo = some lo') (h2 : trO hi = some hi') (h3 : trO m = some m') (hx : V X true (x.ev l) u)
    (hs : step K l h (.chk3 x lo' (some hi') m') = some (v, h')) (ht : P.underlying t = some (.slice e)) (hz : sizeP P e = some z) :
    h' = h ∧ v = .undef ∧ ∃ u', (Instr.sliceAt t u (lo.map a.eval) (some (a.eval hi)) (some (a.eval m))).run P w = .ok u' w := by
  simp only [step] at hs
  split at hs
  · rename_i n p q r b0 b1 b2 b3
    split at hs
    · rename_i hc
      cases hs
      have key : ∀ (ad : Option Addr) (cap : Nat), n ≤ cap → u = .slice ad n cap → ∃ u', (Instr.sliceAt t u (lo.map a.eval) (some (a.eval hi)) (some (a.eval m))).run P w = .ok u' w := by
        rintro ad cap hcap rfl
        have := u6u (P := P) (w := w) (len := n) (cap := cap) T h1 h2 h3 b1 (by simpa using b2) b3 hc.1 hc.2.1 (by omega)
        refine ⟨.slice (if r = p then ad else ad.map (·.add (p * z))) (q - p) (r - p), ?_⟩
        simp [Instr.sliceAt, Instr.slice, run_underlying ht, this, u0C hz]
      refine ⟨rfl, rfl, ?_⟩
      unfold lenOf at b0
      split at b0
      · rename_i hxe
        cases b0
        rw [hxe] at hx
        simp only [V] at hx
        exact key none 0 (Nat.le_refl _) hx
      · rename_i z' xs hxe
        cases b0
        rw [hxe] at hx
        simp only [V] at hx
        obtain ⟨ad, cap, q1, q2, _⟩ := hx
        exact key _ _ q2 q1
      · rename_i i s off len hxe
        cases b0
        rw [hxe] at hx
        simp only [V] at hx
        obtain ⟨_, _, ad, cap, q1, _, q2, _⟩ := hx
        exact key _ _ q2 q1
      · cases b0
    · cases hs
  · cases hs

theorem VRows.cut {z : Nat} {xs : List (List DV)} {b o : Nat} (p q : Nat) (k : VRows X z xs b o) : VRows X z ((xs.take q).drop p) b (o + p * z) :=
  VRows.mk fun i r hr => by
    rw [List.getElem?_drop, List.getElem?_take] at hr
    split at hr
    · have := k.get hr
      rwa [show o + (p + i) * z = o + p * z + i * z by rw [Nat.add_mul]; omega] at this
    · cases hr

theorem slice_ok (S : Sim X h w) (T : TM X l a) {t : TypeId} {lo hi : Option Operand} {lo' hi' : Option Opd} {x : Opd} {u : Value} {v : DV} {h' : Hp} {K : Oracle} {z : Nat} (h1 : trOpt lo = some lo') (h2 : trOpt hi = some hi') (hx : V X true (x.ev l) u)
    (hs : step K l h (.slice z x lo' hi') = some (v, h')) (ht : if z = 0 then P.underlying t = some .string else ∃ e, P.underlying t = some (.slice e) ∧ sizeP P e = some z) :
    h' = h ∧ ∃ u', (Instr.sliceAt t u (lo.map a.eval) (hi.map a.eval) none).run P w = .ok u' w ∧ V X true v u' := by
  simp only [step] at hs
  split at hs
  · -- a text
    rename_i s hxe
    rw [hxe] at hx
    obtain rfl := hx.str_inv
    split at hs
    · rename_i p q b1 b2
      split at hs
      · rename_i hc
        cases hs
        have ht' : P.underlying t = some .string := by rwa [if_pos hc.2.2] at ht
        refine ⟨rfl, .string (s.extract p q), ?_, by simp [V]⟩
        have := u2M (P := P) (w := w) (isSlice := false) (len := s.size) (cap := s.size) T h1 h2 b1 b2 hc.1 hc.2.1
        simp [Instr.sliceAt, Instr.slice, run_underlying ht', this]
      · cases hs
    · cases hs
  · -- nil
    rename_i hxe
    rw [hxe] at hx
    simp only [V] at hx
    subst hx
    split at hs
    · rename_i p q b1 b2
      split at hs
      · rename_i hc
        cases hs
        rw [if_neg hc.2.2] at ht
        obtain ⟨e, ht', hz⟩ := ht
        have hp : p = 0 := by omega
        have hq : q = 0 := by omega
        subst hp; subst hq
        refine ⟨rfl, .slice none 0 0, ?_, by simp [V]⟩
        have := u2M (P := P) (w := w) (isSlice := true) (len := 0) (cap := 0) T h1 h2 b1 b2 (Nat.le_refl _) (Nat.le_refl _)
        simp [Instr.sliceAt, Instr.slice, run_underlying ht', this, u0C hz]
      · cases hs
    · cases hs
  · -- what is not written any more
    rename_i z' xs hxe
    rw [hxe] at hx
    split at hs
    · rename_i p q b1 b2
      split at hs
      · rename_i hc
        cases hs
        obtain ⟨hpq, hqx, rfl, hz0⟩ := hc
        rw [if_neg hz0] at ht
        obtain ⟨e, ht', hz⟩ := ht
        simp only [V] at hx
        obtain ⟨⟨b, o, sp⟩, cap, rfl, hcap, hsp, hr⟩ := hx
        have := u2M (P := P) (w := w) (isSlice := true) (len := xs.length) (cap := cap) T h1 h2 b1 b2 hpq (by omega)
        refine ⟨rfl, .slice (some (if cap = p then ⟨b, o, sp⟩ else (⟨b, o, sp⟩ : Addr).add (p * z'))) (q - p) (cap - p), ?_, ?_⟩
        · simp [Instr.sliceAt, Instr.slice, run_underlying ht', this, u0C hz]
          split <;> rfl
        · have hl : ((xs.take q).drop p).length = q - p := by simp; omega
          simp only [V]
          refine ⟨_, _, by rw [hl], by rw [hl]; omega, fun hne => ?_, ?_⟩
          · have : xs ≠ [] := by rintro rfl; simp at hne
            have hs0 := hsp this
            simp only at hs0
            subst hs0
            split
            · rfl
            · rw [Addr.add_mid]
          · by_cases hne : (xs.take q).drop p = []
            · rw [hne]; simp [VRows]
            · have : xs ≠ [] := by rintro rfl; simp at hne
              have hs0 := hsp this
              simp only at hs0
              subst hs0
              have hpc : ¬ cap = p := by
                rintro rfl
                apply hne
                apply List.eq_nil_of_length_eq_zero
                rw [hl]; omega
              rw [if_neg hpc, Addr.add_mid]
              exact hr.cut p q
      · cases hs
    · cases hs
  · -- a row of one's own
    rename_i i s off len hxe
    rw [hxe] at hx
    split at hs
    · rename_i p q b1 b2
      split at hs
      · rename_i k hb
        split at hs
        · rename_i hc
          cases hs
          obtain ⟨hpq, hql, hkz, hz0⟩ := hc
          rw [if_neg hz0] at ht
          obtain ⟨e, ht', hz⟩ := ht
          obtain ⟨hk1, rfl⟩ := Hp.blk_some hb
          have B := S.blk _ _ _ hk1
          have hBl := B.len
          simp only [V] at hx
          obtain ⟨_, hsc, at_, cap, rfl, hcap, hlc, ha⟩ := hx
          have := u2M (P := P) (w := w) (isSlice := true) (len := len) (cap := cap) T h1 h2 b1 b2 hpq (by omega)
          refine ⟨rfl, .slice (some (if cap = p then at_ else at_.add (p * z))) (q - p) (cap - p), ?_, ?_⟩
          · simp [Instr.sliceAt, Instr.slice, run_underlying ht', this, u0C hz]
            split <;> rfl
          · simp only [V]
            refine ⟨trivial, hsc, _, _, rfl, by omega, by omega, fun hc0 => ?_⟩
            have hpc : ¬ cap = p := by omega
            rw [if_neg hpc, ha (by omega), Addr.add_mid, B.z, hkz, Nat.add_mul, Nat.add_assoc]
        · cases hs
      · cases hs
    · cases hs
  · cases hs

end Go.Dv
/- The engine: any operation but a call comes to in Go what the engine says (trOp_ok). -/
set_option linter.unusedVariables false
set_option linter.unusedSimpArgs false
namespace Go.Dv
variable {P : Program} {X : Cx} {h : Hp} {w : World} {l : List DV} {a : Act}

theorem bytesOf_ok : ∀ {xs : List (List DV)} {bs : List UInt8}, bytesOf xs = some bs → ∃ ns : List Int, xs = ns.map (fun n => [DV.int .u8 n]) ∧ bs = ns.map fun n => UInt8.ofNat n.toNat
  | [], bs, h => by simp only [bytesOf, Option.some.injEq] at h; subst h; exact ⟨[], rfl, rfl⟩
  | x :: xs, bs, h => by
    unfold bytesOf at h
    split at h
    · rename_i heq; cases heq
    · rename_i n l' heq
      cases heq
      rw [Option.map_eq_some_iff] at h
      obtain ⟨r, h1, rfl⟩ := h
      obtain ⟨ns, rfl, rfl⟩ := bytesOf_ok h1
      exact ⟨n :: ns, rfl, rfl⟩
    · cases h
theorem foldl_push (ns : List Int) : ∀ r : ByteArray, ns.foldl (fun r n => r.push (UInt8.ofNat n.toNat)) r = ⟨r.data ++ (ns.map fun n => UInt8.ofNat n.toNat).toArray⟩ := by
  induction ns with
  | nil => intro r; simp
  | cons n ns ih => intro r; simp only [List.foldl_cons, ih]; simp [ByteArray.push]

theorem toStr_ok (S : Sim X h w) {src dst e : TypeId} (hs : P.underlying src = some (.slice e)) (he : P.underlying e = some (.int .u8)) (hd : P.underlying dst = some .string) (hz : sizeP P e = some 1) {d : DV} {u : Value} {xs : List (List DV)} {bs : List UInt8}
    (hx : elems h 1 d = some xs) (hv : V X true d u) (hb : bytesOf xs = some bs) : (Go.convert src dst u).run P w = .ok (.string ⟨bs.toArray⟩) w := by
  obtain ⟨ns, rfl, rfl⟩ := bytesOf_ok hb
  have he' : u1n h 1 false d = some (ns.map fun n => [DV.int .u8 n]) := by simpa [u1n] using hx
  obtain ⟨news, h1, h2⟩ := u5e (P := P) S he' hv (tx := src) (by simpa using ⟨e, hs⟩)
  have hnews : news = ns.map (Value.int .u8) := by
    apply List.ext_getElem?
    intro j
    cases hj : ns[j]? with
    | none =>
      rw [List.getElem?_map, hj, List.getElem?_eq_none]
      · rfl
      · have := h2.len; simp at this; rw [this]; exact List.getElem?_eq_none_iff.1 hj
    | some n =>
      obtain ⟨_, g⟩ := h2.get j [DV.int .u8 n] (by simp [hj])
      obtain ⟨v, g1, g2, _⟩ := g 0 _ rfl
      rw [g2.int_inv] at g1
      simpa [hj] using g1
  have hc := h1.cells
  have hl := h1.len w
  simp only [List.length_map] at hc hl
  cases u with
  | slice a0 n c =>
    simp [Builtin.lenOf] at hl
    subst hl
    rw [run_convert_bytes_string w src dst e a0 _ c hs he hd]
    cases a0 with
    | none =>
      have : news = [] := by simpa [Builtin.firstCells] using hc.symm
      rw [this] at hnews
      have : ns = [] := by cases ns with | nil => rfl | cons => simp at hnews
      subst this
      simp [Conv.bytesToString]
      rfl
    | some a0 =>
      simp only [Builtin.firstCells, Nat.mul_one] at hc
      rw [hnews] at hc
      rw [run_bytesToString w a0 _ c ns hc, foldl_push]
      congr 2
      have he0 : ByteArray.empty.data = #[] := rfl
      rw [he0]; simp
  | _ => cases d <;> simp only [elems] at hx <;> try (cases hx; done)
         all_goals simp [V] at hv

theorem toBytes_ok (S : Sim X h w) {src dst e : TypeId} (hs : P.underlying src = some .string) (he : P.underlying e = some (.int .u8)) (hd : P.underlying dst = some (.slice e)) (s : ByteArray) :
    ∃ u w' X', (Go.convert src dst (.string s)).run P w = .ok u w' ∧ X.le X' ∧ Sim X' (h.new true 1 (s.toList.map fun x => [DV.int .u8 x.toNat])).2 w' ∧ V X' true (.sl (h.new true 1 (s.toList.map fun x => [DV.int .u8 x.toNat])).1 h.c 0 s.size) u := by
  have hsz : (s.toList.map fun x => [DV.int .u8 x.toNat]).length = s.size := by
    rw [List.length_map, ByteArray.toList_eq]; exact Array.length_toList
  have hc := grownCap_ge w s.size 0 e
  have hbs : (Lib.bytesCells w e s).size = grownCap w s.size 0 e := by
    simp only [Lib.bytesCells, Array.size_append, Array.size_map, Array.size_replicate]
    have : s.data.size = s.size := rfl
    omega
  have hw : But w (Lib.bytesWorld w e s) w.heap.size :=
    ⟨fun b hb hl => Lib.bytesWorld_at_old w e s b hl, by rw [Lib.bytesWorld_size]; omega, by unfold Lib.bytesWorld World.freeze; split <;> rfl, by unfold Lib.bytesWorld World.freeze; split <;> rfl, by unfold Lib.bytesWorld World.freeze; split <;> rfl, by unfold Lib.bytesWorld World.freeze; split <;> first | exact Nat.le_succ _ | exact Nat.le_refl _⟩
  obtain ⟨X', g1, g2, g3⟩ := S.row (z := 1) (n := s.size) (cap := grownCap w s.size 0 e) (xs := s.toList.map fun x => [DV.int .u8 x.toNat]) hw (Lib.bytesWorld_at_new w e s) (fun o ho => by simp only []; omega) hsz hc (by rw [hbs]; omega)
    fun e' r hr => by
      rw [List.getElem?_map, Option.map_eq_some_iff] at hr
      obtain ⟨x, hx, rfl⟩ := hr
      refine ⟨rfl, fun j d hd => ?_⟩
      cases j with
      | succ j => simp at hd
      | zero =>
        simp at hd; subst hd
        refine ⟨.int .u8 x.toNat, ?_, by simp [V], rfl⟩
        rw [ByteArray.toList_eq] at hx
        have he' := (List.getElem?_eq_some_iff.1 hx).1
        simp only [Array.length_toList] at he'
        simp only [Lib.bytesCells, Nat.mul_one, Nat.add_zero]
        rw [Array.getElem?_append_left (by simpa using he')]
        simp at hx
        simp [hx]
  exact ⟨_, _, X', Lib.run_convert_string_bytes w src dst e s hs hd he, g1, g2, g3⟩

theorem makeSlice_ok (S : Sim X h w) {t e : TypeId} {i : TypeInfo} {zs : List DV} {n m : Int} {k k' : IntKind} (ht : P.underlying t = some (.slice e)) (hi : P.info? e = some i) (hz : zeroP P e = some zs) (hzl : zs.length = i.size) (hp : 0 < i.size) (hb : 0 < i.bytes)
    (h0 : 0 ≤ n) (h1 : n ≤ m) (hr : room m.toNat i.bytes = true) :
    ∃ u w' X', (Instr.makeSlice t (.int k n) (.int k' m)).run P w = .ok u w' ∧ X.le X' ∧ Sim X' (h.new true i.size (List.replicate n.toNat zs)).2 w' ∧ V X' true (.sl (h.new true i.size (List.replicate n.toNat zs)).1 h.c 0 n.toNat) u := by
  have h2 := room_le hr
  have h3 : (2 * m.toNat + 192) * 1 ≤ (2 * m.toNat + 192) * i.bytes := Nat.mul_le_mul_left _ hb
  have hm : m < 9223372036854775808 := by omega
  have wr : ∀ x : Int, 0 ≤ x → x < 9223372036854775808 → IntKind.i64.wrap x = x := by
    intro x g1 g2
    have g3 : x % 18446744073709551616 = x := Int.emod_eq_of_lt g1 (by omega)
    simp [IntKind.wrap, IntKind.bits, IntKind.signed, g3]
    omega
  have w1 := wr n h0 (by omega)
  have w2 := wr m (by omega) hm
  have hbm : (i.bytes : Int) * m ≤ 281474976710656 := by
    have e1 : (i.bytes : Int) * m = ((m.toNat * i.bytes : Nat) : Int) := by
      rw [Int.natCast_mul, Int.toNat_of_nonneg (by omega), Int.mul_comm]
    have e2 : m.toNat * i.bytes ≤ (2 * m.toNat + 192) * i.bytes := Nat.mul_le_mul_right _ (by omega)
    rw [e1]; omega
  obtain ⟨zv, z1, z2, z3⟩ := u33 hz w
  have hzv := z2 X true
  have hzs : zv.cells.size = i.size := by rw [← hzl]; simpa using hzv.length.symm
  have hsz : (sizeOf e).run P w = .ok i.size w := by simp [sizeOf, typeInfo, hi]
  have hnz : ¬ (m.toNat * i.size = 0 ∧ m.toNat ≠ 0) := by rintro ⟨g1, g2⟩; rcases Nat.mul_eq_zero.1 g1 with g | g <;> omega
  let cells : Array Value := (Array.range (m.toNat * i.size)).map (zv.cells[· % zv.cells.size]!)
  have hrun : (Instr.makeSlice t (.int k n) (.int k' m)).run P w = .ok (.slice (some ⟨w.heap.size, 0, none⟩) n.toNat m.toNat) (w.alloc (.cells cells e)) := by
    have c1 : ¬ (m < 0) := by omega
    have c2 : ¬ (n < 0) := by omega
    have c3 : ¬ (m < n) := by omega
    have c4 : ¬ (281474976710656 < (i.bytes : Int) * m) := by omega
    by_cases hm0 : m.toNat * i.size = 0
    · have : m.toNat = 0 := by rcases Nat.mul_eq_zero.1 hm0 with g | g; exact g; omega
      have e1 : m = 0 := by omega
      have e2 : n = 0 := by omega
      subst e1; subst e2
      simp [Instr.makeSlice, run_underlying ht, asInt, asIntOf, typeInfo, hi, w1, hsz, newRow, cells]
      congr 2
      apply Array.ext'
      simp
    · simp [Instr.makeSlice, run_underlying ht, asInt, asIntOf, typeInfo, hi, w1, w2, c1, c2, c3, c4, hsz, newRow, hm0, z1, cells]
  have hcz : cells.size = m.toNat * i.size := by simp [cells]
  obtain ⟨b1, b2⟩ := But.alloc w (.cells cells e)
  obtain ⟨X', g1, g2, g3⟩ := S.row (z := i.size) (n := n.toNat) (cap := m.toNat) (xs := List.replicate n.toNat zs) b1 b2 (by simp) (by simp) (by omega) (by rw [hcz]; exact Nat.le_refl _) fun e' r hr' => by
    have he' : e' < n.toNat := by have := (List.getElem?_eq_some_iff.1 hr').1; simpa using this
    rw [List.getElem?_replicate, if_pos he'] at hr'
    cases hr'
    refine ⟨hzl, fun j d hd => ?_⟩
    have hj : j < i.size := by rw [← hzl]; exact (List.getElem?_eq_some_iff.1 hd).1
    obtain ⟨u, u1, u2⟩ := hzv.get hd
    refine ⟨u, ?_, u2, u2.oneCell (z3 d (List.mem_of_getElem? hd))⟩
    have hlt : e' * i.size + j < m.toNat * i.size := by
      have : (e' + 1) * i.size ≤ m.toNat * i.size := Nat.mul_le_mul_right _ (by omega)
      rw [Nat.add_mul] at this; omega
    have hmod : (e' * i.size + j) % i.size = j := by rw [Nat.mul_comm, Nat.mul_add_mod]; exact Nat.mod_eq_of_lt hj
    rw [Array.getElem?_toList] at u1
    simp [cells, hlt, hzs, hmod, Array.getElem!_eq_getD, Array.getD_eq_getD_getElem?, u1]
  exact ⟨_, _, X', hrun, g1, g2, g3⟩

end Go.Dv
