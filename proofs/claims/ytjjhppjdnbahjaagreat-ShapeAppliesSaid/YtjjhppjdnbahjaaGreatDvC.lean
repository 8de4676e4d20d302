/- The engine: any operation but a call comes to in Go what the engine says (trOp_ok). -/
import Derived.Test.YtjjhppjdnbahjaaGreatDvB
set_option linter.unusedVariables false
set_option linter.unusedSimpArgs false
namespace Go.Dv
variable {P : Program} {X : Cx} {h : Hp} {w : World} {l : List DV} {a : Act}

theorem places_get : ∀ {fs : List Field} {pl : List (Nat × Nat)}, u6F P fs = some pl → ∀ (w : World), (fs.mapM fun f => do pure (f.offset, ← sizeOf f.type) : Sem (List (Nat × Nat))).run P w = .ok pl w
  | [], pl, h, w => by simp only [u6F, Option.some.injEq] at h; subst h; simp
  | f :: r, pl, h, w => by
    simp only [u6F] at h
    split at h
    · rename_i s q h1 h2
      cases h
      have := places_get h2 w
      simp [List.mapM_cons, u0C h1] at this ⊢
      simp [this]
    · cases h
theorem parts_ok (T : TM X l a) {pl : Nat → Option (Nat × Nat)} : ∀ {ps : List (Nat × Operand)} {qs : List (Nat × Nat × Opd)}, partsP pl ps = some qs → (∀ q ∈ qs, (Opd.ev l q.2.2).cells.length = q.2.1 ∧ (Opd.ev l q.2.2).cells.all DV.isCell = true) →
    (qs.map fun p => (p.1, (Opd.ev l p.2.2).cells)).length = (ps.map fun p => (p.1, a.eval p.2)).length ∧
    ∀ (i : Nat) (p : Nat × List DV) (q : Nat × Value), (qs.map fun p => (p.1, (Opd.ev l p.2.2).cells))[i]? = some p → (ps.map fun p => (p.1, a.eval p.2))[i]? = some q →
      pl q.1 = some (p.1, p.2.length) ∧ VS X true p.2 q.2.cells.toList
  | [], qs, h, _ => by simp only [partsP, Option.some.injEq] at h; subst h; simp
  | (i, x) :: r, qs, h, hc => by
    simp only [partsP] at h
    split at h
    · rename_i o s y q h1 h2 h3
      cases h
      obtain ⟨g1, g2⟩ := parts_ok T h3 fun q hq => hc q (List.mem_cons_of_mem _ hq)
      refine ⟨by simpa using g1, fun j p q' e1 e2 => ?_⟩
      cases j with
      | zero =>
        simp at e1 e2
        subst e1; subst e2
        obtain ⟨c1, c2⟩ := hc (o, s, y) (by simp)
        exact ⟨by simp at c1; simp [h1, c1], ((u0q h2 T).cells_ok c2).1⟩
      | succ j => exact g2 j p q' (by simpa using e1) (by simpa using e2)
    · cases h
theorem elemsP_ok (T : TM X l a) : ∀ {ps : List (Nat × Operand)} {qs : List (Nat × Opd)}, elemsP ps = some qs →
    ps.length = qs.length ∧ ∀ (i : Nat) (p : Nat × Operand) (q : Nat × Opd), ps[i]? = some p → qs[i]? = some q → p.1 = q.1 ∧ V X true (q.2.ev l) (a.eval p.2)
  | [], qs, h => by simp only [elemsP, Option.some.injEq] at h; subst h; simp
  | (i, x) :: r, qs, h => by
    simp only [elemsP] at h
    split at h
    · rename_i y q h1 h2
      cases h
      obtain ⟨g1, g2⟩ := elemsP_ok T h2
      refine ⟨by simp [g1], fun j p q' e1 e2 => ?_⟩
      cases j with
      | zero => simp at e1 e2; subst e1; subst e2; exact ⟨rfl, u0q h1 T⟩
      | succ j => exact g2 j p q' (by simpa using e1) (by simpa using e2)
    · cases h

theorem cells_still {X : Cx} {d : DV} {u : Value} (hs : lit1 d = true) (k : V X true d u) (Y : Cx) (hZ : ∀ b o v, X.Z b o = some v → Y.Z b o = some v) : V Y false d u := by
  simp only [lit1, Bool.and_eq_true] at hs
  cases d <;> simp only [DV.still1, Bool.false_eq_true, and_false] at hs <;> simp only [V] at k ⊢
  all_goals first
    | trivial
    | exact k
    | (obtain ⟨a, k1, k2, k3⟩ := k; exact ⟨a, k1, k2, u0G.gen hZ _ _ _ k3⟩)
    | (obtain ⟨a, cap, k1, k2, k3, k4⟩ := k; exact ⟨a, cap, k1, k2, k3, VRows.gen hZ _ _ _ _ k4⟩)
theorem build_exec {o : Oper} {t : TypeId} {len : Nat} {ps : Array (Nat × Operand)} {e : TypeId} {z : Nat} {zero : List DV} {qs : List (Nat × Opd)} {cs : List DV} (T : TM X l a) (hop : o.op = .buildSlice t len ps) (hu : P.underlying t = some (.slice e)) (hz : sizeP P e = some z) (hzero : zeroP P e = some zero) (hq : elemsP ps.toList = some qs) (hc : zero.length = z ∧ 0 < z ∧ len * z ≤ 2 ^ 24) (hcc2 : (qs.all fun p => (p.2.ev l).cells.length == z && (p.2.ev l).cells.all DV.isCell) = true)
    (hf : fill ((List.replicate len zero).flatten) (qs.map fun p => (p.1 * z, (p.2.ev l).cells)) = some cs) :
    ∃ cells' : Array Value, (execOp a.eval o).run P w = .ok (.value (.slice (some ⟨w.heap.size, 0, none⟩) len len)) (w.alloc (.cells cells' e)) ∧ cells'.size = len * z ∧ cs.length = len * z ∧ VS X true cs cells'.toList ∧ ∀ (j : Nat) (d : DV), cs[j]? = some d → d.isCell = true := by
  obtain ⟨hzl, hz0, hlen⟩ := hc
  obtain ⟨zv, z1, z2, z3⟩ := u33 hzero w
  have hzv := z2 X true
  obtain ⟨g1, g2⟩ := elemsP_ok T hq
  have hzs : zv.cells.size = z := by rw [← hzl]; simpa using hzv.length.symm
  let cells : Array Value := (Array.range (len * z)).map (zv.cells[· % zv.cells.size]!)
  have hv0 : VS X true ((List.replicate len zero).flatten) cells.toList := by
    have := zeros_VS hzv (by rw [hzl]; exact hz0) len
    rwa [hzl] at this
  obtain ⟨cells', f1, f2⟩ := fill_ok (L := true) (fun i => some (i * z, z)) _ (ps.toList.map fun p => (p.1, a.eval p.2)) _ _ _ hf hv0 (by simp [g1]) fun i p q e1 e2 => by
    rw [List.getElem?_map, Option.map_eq_some_iff] at e1 e2
    obtain ⟨p0, hp0, rfl⟩ := e1
    obtain ⟨q0, hq0, rfl⟩ := e2
    obtain ⟨k1, k2⟩ := g2 i q0 p0 hq0 hp0
    have := List.all_eq_true.1 hcc2 p0 (List.mem_of_getElem? hp0)
    simp only [Bool.and_eq_true, beq_iff_eq] at this
    exact ⟨by simp [k1, this.1], (k2.cells_ok this.2).1⟩
  have hcl : cs.length = len * z := by
    have h1 : ∀ (ps : List (Nat × List DV)) (cs cs' : List DV), fill cs ps = some cs' → cs'.length = cs.length := by
      intro ps
      induction ps with
      | nil => intro cs cs' h; simp only [fill, Option.some.injEq] at h; rw [h]
      | cons p ps ih =>
        intro cs cs' h
        simp only [fill] at h
        split at h
        · rw [ih _ _ h, u2N]
        · cases h
    rw [h1 _ _ _ hf, u4u hzl]
  have hcz : cells'.size = len * z := by rw [← hcl]; simpa using f2.length.symm
  have hone : ∀ (j : Nat) (d : DV), cs[j]? = some d → d.isCell = true := by
    have h1 : ∀ (ps : List (Nat × List DV)) (cs cs' : List DV), fill cs ps = some cs' → (∀ d ∈ cs, d.isCell = true) → (∀ p ∈ ps, ∀ d ∈ p.2, d.isCell = true) → ∀ d ∈ cs', d.isCell = true := by
      intro ps
      induction ps with
      | nil => intro cs cs' h hc _; simp only [fill, Option.some.injEq] at h; rw [← h]; exact hc
      | cons p ps ih =>
        intro cs cs' h hc hp
        simp only [fill] at h
        split at h
        · refine ih _ _ h (fun d hd => ?_) (fun p hp' => hp p (List.mem_cons_of_mem _ hp'))
          obtain ⟨j, hj⟩ := List.getElem?_of_mem hd
          rw [u39] at hj
          split at hj
          · exact hp p (by simp) d (List.mem_of_getElem? hj)
          · exact hc d (List.mem_of_getElem? hj)
        · cases h
    intro j d hd
    refine h1 _ _ _ hf (fun d hd => ?_) (fun p hp d hd => ?_) d (List.mem_of_getElem? hd)
    · obtain ⟨l', hl', hd'⟩ := List.mem_flatten.1 hd
      rw [List.mem_replicate] at hl'
      rw [hl'.2] at hd'
      exact z3 d hd'
    · obtain ⟨p0, hp0, rfl⟩ := List.mem_map.1 hp
      have := List.all_eq_true.1 hcc2 p0 hp0
      simp only [Bool.and_eq_true, beq_iff_eq] at this
      exact List.all_eq_true.1 this.2 d hd
  refine ⟨cells', ?_, hcz, hcl, f2, hone⟩
  have hlen' : ¬ (len * z > 2 ^ 24) := by omega
  by_cases h0 : len * z = 0
  · have hl0 : len = 0 := by rcases Nat.mul_eq_zero.1 h0 with g | g; exact g; omega
    have hce : cells = #[] := by simp [cells, h0]
    rw [hce] at f1
    simp only [execOp, hop, Instr.buildSlice, Sem.run_bind, run_underlying hu, Result.andThen_ok, u0C hz, if_neg hlen', if_pos h0, Sem.run_pure, Array.toList_map]
    have hr0 : (Array.map (fun x => (#[] : Array Value)[x % (#[] : Array Value).size]!) (Array.range (len * z))) = #[] := by rw [h0]; apply Array.ext'; simp
    rw [hr0, f1]
    simp [newRow]
  · simp only [execOp, hop, Instr.buildSlice, Sem.run_bind, run_underlying hu, Result.andThen_ok, u0C hz, if_neg hlen', if_neg h0, Sem.run_pure, Array.toList_map, z1]
    rw [f1]
    simp [newRow]
theorem trOp_ok {K : Oracle} {o : Oper} {esc : Bool} {ap : List (Nat × Opd)} {d : DOp} {v : DV} {h' : Hp} (S : Sim X h w) (T : TM X l a) (ht : trOp P esc ap o.op = some d) (hs : step K l h d = some (v, h')) (hnc : ∀ f xs ap', d ≠ .call f xs ap') : Fits P o a w X h' v := by
  have here : ∀ {u : Value}, h' = h → (execOp a.eval o).run P w = .ok (.value u) w → V X true v u → Fits P o a w X h' v := fun e h1 h2 => by subst e; exact Fits.here S h1 h2
  cases hop : o.op <;> rw [hop] at ht <;> simp only [trOp] at ht
  case move x =>
    rw [Option.map_eq_some_iff] at ht
    obtain ⟨y, hy, rfl⟩ := ht
    cases hs
    exact here rfl (by simp [execOp, hop]) (u0q hy T)
  case assign x =>
    rw [Option.map_eq_some_iff] at ht
    obtain ⟨y, hy, rfl⟩ := ht
    cases hs
    exact here rfl (by simp [execOp, hop]) (u0q hy T)
  case pick c x y =>
    split at ht
    · rename_i c' x' y' h1 h2 h3
      cases ht
      simp only [step] at hs
      split at hs
      · rename_i b hb
        cases hs
        have hc := u0q h1 T
        rw [hb] at hc
        cases b
        · exact here rfl (u := a.eval y) (by simp [execOp, hop, hc.bool_inv, asBool]) (u0q h3 T)
        · exact here rfl (u := a.eval x) (by simp [execOp, hop, hc.bool_inv, asBool]) (u0q h2 T)
      · cases hs
    · cases ht
  case alloc e =>
    split at ht
    · rename_i cs hz
      cases ht
      cases hs
      obtain ⟨zv, z1, z2, z3⟩ := u33 hz w
      have hzv := z2 X true
      obtain ⟨X', g1, g2, g3⟩ := S.box esc e hzv fun u hu => by
        obtain ⟨j, hj⟩ := List.getElem?_of_mem hu
        have hl : j < cs.length := by rw [hzv.length]; exact (List.getElem?_eq_some_iff.1 hj).1
        exact (hzv.val (List.getElem?_eq_getElem hl) hj).oneCell (z3 _ (List.getElem_mem _))
      exact ⟨_, _, X', by simp [execOp, hop, Instr.alloc, z1, newVar, newRow], g1, g2, .inl ⟨_, rfl, g3⟩⟩
    · cases ht
  case box e x =>
    split at ht
    · rename_i z y hz hy
      cases ht
      simp only [step] at hs
      split at hs
      · rename_i hc
        cases hs
        obtain ⟨hc1, hc2⟩ := hc
        obtain ⟨q1, q2⟩ := (u0q hy T).cells_ok hc2
        obtain ⟨X', g1, g2, g3⟩ := S.box esc e q1 q2
        rw [hc1] at g2 g3
        exact ⟨_, _, X', by simp [execOp, hop, Instr.box, newVar, newRow], g1, g2, .inl ⟨_, rfl, g3⟩⟩
      · cases hs
    · cases ht
  case build t ps =>
    split at ht
    · rename_i fs zero hu hz
      split at ht
      · rename_i pl hpl
        rw [Option.map_eq_some_iff] at ht
        obtain ⟨qs, hq, rfl⟩ := ht
        simp only [step] at hs
        split at hs
        · rename_i hc
          rw [Option.map_eq_some_iff] at hs
          obtain ⟨cs, hf, hs⟩ := hs
          cases hs
          obtain ⟨zv, z1, z2, z3⟩ := u33 hz w
          have hc' : ∀ q ∈ qs, (Opd.ev l q.2.2).cells.length = q.2.1 ∧ (Opd.ev l q.2.2).cells.all DV.isCell = true := by
            intro q hq
            have := List.all_eq_true.1 hc q hq
            simpa using this
          obtain ⟨g1, g2⟩ := parts_ok T hq hc'
          obtain ⟨cells', f1, f2⟩ := fill_ok (L := true) (pl[·]?) _ _ _ _ _ hf (z2 X true) g1 g2
          refine here rfl (u := .agg cells') ?_ (by simp only [V]; exact ⟨_, rfl, f2⟩)
          have hm := places_get hpl w
          have hm' : (fs.mapM fun f => do pure (f.offset, ← sizeOf f.type) : Sem (Array (Nat × Nat))).run P w = .ok pl.toArray w := by
            rw [← Array.toArray_toList (xs := fs), List.mapM_toArray]
            simp only [Sem.run_map, hm, Result.andThen_ok]
          simp only [execOp, hop, Instr.build, Sem.run_bind, z1, Result.andThen_ok, run_underlying hu, Array.toList_map] at *
          simp only [hm', Result.andThen_ok]
          have e1 : (fun i : Nat => pl.toArray[i]?) = (fun i : Nat => pl[i]?) := by funext i; simp
          rw [e1, f1]
          rfl
        · cases hs
      · cases ht
    · rename_i n e zero hu hz
      split at ht
      · rename_i s hse
        rw [Option.map_eq_some_iff] at ht
        obtain ⟨qs, hq, rfl⟩ := ht
        simp only [step] at hs
        split at hs
        · rename_i hc
          rw [Option.map_eq_some_iff] at hs
          obtain ⟨cs, hf, hs⟩ := hs
          cases hs
          obtain ⟨zv, z1, z2, z3⟩ := u33 hz w
          have hc' : ∀ q ∈ qs, (Opd.ev l q.2.2).cells.length = q.2.1 ∧ (Opd.ev l q.2.2).cells.all DV.isCell = true := by
            intro q hq
            have := List.all_eq_true.1 hc q hq
            simpa using this
          obtain ⟨g1, g2⟩ := parts_ok T hq hc'
          obtain ⟨cells', f1, f2⟩ := fill_ok (L := true) (fun i => some (i * s, s)) _ _ _ _ _ hf (z2 X true) g1 g2
          refine here rfl (u := .agg cells') ?_ (by simp only [V]; exact ⟨_, rfl, f2⟩)
          simp only [execOp, hop, Instr.build, Sem.run_bind, z1, Result.andThen_ok, run_underlying hu, u0C hse, Array.toList_map]
          rw [f1]
          rfl
        · cases hs
      · cases ht
    · cases ht
  case load t x =>
    split at ht
    · rename_i z y hz hy
      cases ht
      have hx := u0q hy T
      simp only [step] at hs
      split at hs
      · rename_i b i s e o hye
        rw [hye] at hx
        split at hs
        · rename_i k hb
          split at hs
          · rename_i r hr
            obtain ⟨g1, g2, g3⟩ := ptr_lies S hb hr hx
            split at hs
            · rename_i n
              split at hs
              · rename_i hn
                cases hs
                obtain ⟨u, u1, u2⟩ := u57 hz g3 (by simp; omega)
                exact here rfl (by simp [execOp, hop, g1, u1]) u2
              · cases hs
            · split at hs
              · rename_i v' hv'
                cases hs
                obtain ⟨u, u1, u2⟩ := u6f hz g3 (by rw [List.getElem?_drop]; simpa using hv')
                exact here rfl (by simp [execOp, hop, g1, u1]) u2
              · cases hs
          · cases hs
        · cases hs
      · rename_i r hye
        rw [hye] at hx
        obtain ⟨b, o, g1, g3, _⟩ := fp_lies S hx
        split at hs
        · rename_i n
          split at hs
          · rename_i hn
            cases hs
            obtain ⟨u, u1, u2⟩ := u57 hz g3 hn
            exact here rfl (by simp [execOp, hop, g1, u1]) u2
          · cases hs
        · split at hs
          · rename_i v' r' 
            cases hs
            obtain ⟨u, u1, u2⟩ := u6f hz g3 (v := v) rfl
            exact here rfl (by simp [execOp, hop, g1, u1]) u2
          · cases hs
      · cases hs
    · cases ht
  case store t x y =>
    split at ht
    · rename_i z x' y' hz hx hy
      cases ht
      have hx' := u0q hx T
      have hy' := u0q hy T
      simp only [step] at hs
      split at hs
      · rename_i b i s e o hye
        rw [hye] at hx'
        split at hs
        · rename_i k hb
          split at hs
          · rename_i r hr
            split at hs
            · rename_i hc
              cases hs
              obtain ⟨w', w1, w2⟩ := store_ok S hb hr hx' hy' hc.1 hc.2.1 hc.2.2.1 hz
              exact ⟨.skip, w', X, by simp [execOp, hop, w1], Cx.le.refl X, w2, .inr ⟨rfl, rfl⟩⟩
            · cases hs
          · cases hs
        · cases hs
      · cases hs
    · cases ht
  case nilCheck x =>
    rw [Option.map_eq_some_iff] at ht
    obtain ⟨y, hy, rfl⟩ := ht
    have hx := u0q hy T
    simp only [step] at hs
    split at hs
    · rename_i b i s e o hye
      cases hs
      rw [hye] at hx
      have hx' := hx
      simp only [V] at hx
      obtain ⟨_, _, hx⟩ := hx
      exact here rfl (u := a.eval x) (by simp [execOp, hop, hx]) hx'
    · rename_i r hye
      cases hs
      rw [hye] at hx
      have hx' := hx
      simp only [V] at hx
      obtain ⟨_, hx, _⟩ := hx
      exact here rfl (u := a.eval x) (by simp [execOp, hop, hx]) hx'
    · cases hs
  case unOp op t x =>
    rw [Option.map_eq_some_iff] at ht
    obtain ⟨y, hy, rfl⟩ := ht
    simp only [step, Option.map_eq_some_iff] at hs
    obtain ⟨v', hv', hs⟩ := hs
    cases hs
    obtain ⟨u, u1, u2⟩ := unOp_ok (P := P) (w := w) hv' (u0q hy T)
    exact here rfl (by simp [execOp, hop, u1]) u2
  case binOp op t x y yt =>
    split at ht
    · rename_i x' y' d hx hy hd
      have vx := u0q hx T
      have vy := u0q hy T
      have eqs : ∀ (k : EqK) (neg : Bool), k.fits P t → ((∃ ks, k = .agg ks) → P.eqGuardType P.depth t = false) → op = (if neg then .neq else .eql) →
          (eqv k (x'.ev l) (y'.ev l)).map (fun b => (DV.bool (if neg then !b else b), h)) = some (v, h') → Fits P o a w X h' v := by
        intro k neg hk hg hop' hs'
        rw [Option.map_eq_some_iff] at hs'
        obtain ⟨b, hb, hs'⟩ := hs'
        cases hs'
        obtain ⟨q1, q2, q3, q4, q5, q6, q7⟩ := eqv_ok (P := P) (w := w) hb vx vy hk
        obtain ⟨r1, r2⟩ := binOp_eql q1 q4 q5 q6 q7
        have hgd : (eqGuard op t x y (a.eval x) (a.eval y)).run P w = .ok () w := by
          rcases q3 with q3 | ⟨ks, rfl⟩
          · exact u4v q3 q2 w
          · exact eqGuard_agg (hg ⟨ks, rfl⟩) q2 w
        cases neg
        · exact here rfl (u := .bool b) (by simp only [Bool.false_eq_true, if_false] at hop'; subst hop'; simp only [execOp, hop, Sem.run_bind, hgd, Result.andThen_ok, r1, Sem.run_pure]) (by simp [V])
        · exact here rfl (u := .bool (!b)) (by simp only [if_true] at hop'; subst hop'; simp only [execOp, hop, Sem.run_bind, hgd, Result.andThen_ok, r2, Sem.run_pure]) (by simp [V])
      have nums : step K l h (.bin op x' y') = some (v, h') → Fits P o a w X h' v := by
        intro hs'
        simp only [step, Option.map_eq_some_iff] at hs'
        obtain ⟨v', hv', hs'⟩ := hs'
        cases hs'
        obtain ⟨u, u1, u2⟩ := binOp_ok (P := P) hv' vx vy w t
        have hgd : (eqGuard op t x y (a.eval x) (a.eval y)).run P w = .ok () w := by
          have : (∀ c, a.eval x ≠ .agg c) ∧ a.eval x ≠ .nilIface := by
            generalize x'.ev l = dx at vx hv'
            cases dx <;> first
              | (simp only [binOp] at hv'; cases hv'; done)
              | (rw [vx.int_inv]; simp)
              | (rw [vx.str_inv]; simp)
          exact u4v this.1 this.2 w
        exact here rfl (by simp [execOp, hop, hgd, u1]) u2
      split at ht
      · split at ht
        · cases ht
        · rename_i hg
          rw [Option.map_eq_some_iff] at ht
          obtain ⟨ks, hks, rfl⟩ := ht
          exact eqs (.agg ks) false ⟨⟨_, hd⟩, hks⟩ (fun _ => by simpa using hg) rfl hs
      · split at ht
        · cases ht
        · rename_i hg
          rw [Option.map_eq_some_iff] at ht
          obtain ⟨ks, hks, rfl⟩ := ht
          exact eqs (.agg ks) true ⟨⟨_, hd⟩, hks⟩ (fun _ => by simpa using hg) rfl hs
      · cases ht; exact eqs .sl false ⟨_, hd⟩ (fun ⟨_, e⟩ => by cases e) rfl hs
      · cases ht; exact eqs .sl true ⟨_, hd⟩ (fun ⟨_, e⟩ => by cases e) rfl hs
      · cases ht; exact eqs .ptr false ⟨_, hd⟩ (fun ⟨_, e⟩ => by cases e) rfl hs
      · cases ht; exact eqs .ptr true ⟨_, hd⟩ (fun ⟨_, e⟩ => by cases e) rfl hs
      · cases ht; exact eqs (.one .bool) false ⟨rfl, hd⟩ (fun ⟨_, e⟩ => by cases e) rfl hs
      · cases ht; exact eqs (.one .bool) true ⟨rfl, hd⟩ (fun ⟨_, e⟩ => by cases e) rfl hs
      · cases ht; exact nums hs
      · cases ht; exact nums hs
      · cases ht
    · cases ht
  case convert src dst x =>
    split at ht
    · rename_i k k' y h1 h2 hy
      cases ht
      have vx := u0q hy T
      simp only [step] at hs
      split at hs
      · rename_i k0 n hye
        cases hs
        rw [hye] at vx
        exact here rfl (u := .int k' (k'.wrap n)) (by simp [execOp, hop, Go.convert, run_underlying h1, run_underlying h2, vx.int_inv, Conv.intToInt]) (by simp [V])
      · cases hs
    · rename_i y h1 h2 hy
      cases ht
      have vx := u0q hy T
      simp only [step] at hs
      split at hs
      · rename_i s hye
        cases hs
        rw [hye] at vx
        exact here rfl (u := .string s) (by simp [execOp, hop, Go.convert, run_underlying h1, run_underlying h2, vx.str_inv]) (by simp [V])
      · cases hs
    · rename_i e y h1 h2 hy
      split at ht
      · rename_i he
        split at ht
        · rename_i hz
          cases ht
          have vx := u0q hy T
          simp only [step] at hs
          split at hs
          · rename_i xs hxs
            rw [Option.map_eq_some_iff] at hs
            obtain ⟨bs, hbs, hs⟩ := hs
            cases hs
            exact here rfl (u := .string ⟨bs.toArray⟩) (by simp [execOp, hop, toStr_ok S h1 he h2 hz hxs vx hbs]) (by simp [V])
          · cases hs
        · cases ht
      · cases ht
    · rename_i e y h1 h2 hy
      split at ht
      · rename_i he
        cases ht
        have vx := u0q hy T
        simp only [step] at hs
        split at hs
        · rename_i s hye
          cases hs
          rw [hye] at vx
          obtain ⟨u, w', X', q1, q2, q3, q4⟩ := toBytes_ok (P := P) S h1 he h2 s
          exact ⟨.value u, w', X', by simp [execOp, hop, vx.str_inv, q1], q2, q3, .inl ⟨u, rfl, q4⟩⟩
        · cases hs
      · cases ht
    · cases ht
  case makeSlice t x y =>
    split at ht
    · rename_i e hu
      split at ht
      · rename_i i zero x' y' hi hz hx hy
        split at ht
        · rename_i hc
          cases ht
          have vx := u0q hx T
          have vy := u0q hy T
          simp only [step] at hs
          split at hs
          · rename_i k n k' m hxe hye
            split at hs
            · rename_i hb
              cases hs
              rw [hxe] at vx
              rw [hye] at vy
              obtain ⟨u, w', X', q1, q2, q3, q4⟩ := makeSlice_ok (P := P) (k := k) (k' := k') S hu hi hz hc.1 hc.2.1 hc.2.2 hb.1 hb.2.1 hb.2.2
              exact ⟨.value u, w', X', by simp [execOp, hop, vx.int_inv, vy.int_inv, q1], q2, q3, .inl ⟨u, rfl, q4⟩⟩
            · cases hs
          · cases hs
        · cases ht
      · cases ht
    · cases ht
  case fieldAddr t x f =>
    split at ht
    · rename_i fd y hf hy
      split at ht
      · rename_i n hn
        cases ht
        have vx := u0q hy T
        unfold fieldP at hf
        split at hf
        · rename_i fs hu
          have key : ∀ b q, a.eval x = .pointer (some ⟨b, q, none⟩) → (execOp a.eval o).run P w = .ok (.value (.pointer (some ⟨b, q + fd.offset, none⟩))) w := by
            intro b q hx
            simp [execOp, hop, hx, Instr.fieldAt, Instr.sureAddr, run_underlying hu, hf, fieldPlace, u0C hn, Addr.add_mid]
          simp only [step] at hs
          split at hs
          · rename_i b i s e o' hye
            cases hs
            rw [hye] at vx
            simp only [V] at vx
            obtain ⟨q0, q1, q2⟩ := vx
            exact here rfl (key _ _ q2) (by simp only [V]; exact ⟨trivial, q1, by simp; omega⟩)
          · rename_i r hye
            cases hs
            rw [hye] at vx
            obtain ⟨b, q, q1, _, q2⟩ := fp_lies S vx
            exact here rfl (key _ _ q1) (by simp only [V]; exact ⟨_, rfl, rfl, q2.drop _⟩)
          · cases hs
        · cases hf
      · cases ht
    · cases ht
  case field t x f =>
    split at ht
    · rename_i fd y hf hy
      rw [Option.map_eq_some_iff] at ht
      obtain ⟨z, hz, rfl⟩ := ht
      have vx := u0q hy T
      unfold fieldP at hf
      split at hf
      · rename_i fs hu
        simp only [step] at hs
        split at hs
        · rename_i cs hye
          rw [hye] at vx
          simp only [V] at vx
          obtain ⟨arr, hx, vs⟩ := vx
          have hlen : cs.length = arr.size := by simpa using vs.length
          split at hs
          · rename_i n
            split at hs
            · rename_i hn
              cases hs
              refine here rfl (u := .agg (arr.extract fd.offset (fd.offset + n))) ?_ ?_
              · have hp : (part fd.type arr fd.offset).run P w = .ok (.agg (arr.extract fd.offset (fd.offset + n))) w := by
                  unfold aggP at hz
                  split at hz
                  · rename_i fs' i' g1 g2
                    cases hz
                    exact part_agg g1 (by simp [sizeP, g2]) w
                  · rename_i m e i' g1 g2
                    cases hz
                    have g3 : (sizeOf fd.type).run P w = .ok i'.size w := by simp [sizeOf, typeInfo, g2]
                    simp [part, isAgg, run_underlying g1, g3]
                  · cases hz
                  · cases hz
                simp [execOp, hop, Instr.field, run_underlying hu, hf, hx, asAgg, hp]
              · simp only [V]
                refine ⟨_, rfl, ?_⟩
                rw [Array.toList_extract, List.extract_eq_take_drop]
                have := (vs.drop fd.offset).take n
                rwa [Nat.add_sub_cancel_left]
            · cases hs
          · split at hs
            · rename_i v' hv'
              cases hs
              obtain ⟨u, u1, u2⟩ := vs.get hv'
              obtain ⟨d0, d1, d2⟩ := aggP_one hz
              have hp := u51 (cs := arr) (o := fd.offset) (v := u) d1 d2 (by simpa using u1) w
              exact here rfl (u := u) (by simp [execOp, hop, Instr.field, run_underlying hu, hf, hx, asAgg, hp]) u2
            · cases hs
        · cases hs
      · cases hf
    · cases ht
  case indexAddr t x i =>
    split at ht
    · rename_i e x' i' hu hx hi
      rw [Option.map_eq_some_iff] at ht
      obtain ⟨z, hz, rfl⟩ := ht
      have vx := u0q hx T
      have vi := u0q hi T
      simp only [step] at hs
      split at hs
      · rename_i b s off len k n hxe hie
        rw [hxe] at vx
        rw [hie] at vi
        split at hs
        · rename_i hn
          split at hs
          · rename_i bk hb
            split at hs
            · rename_i hkz
              cases hs
              obtain ⟨hk1, rfl⟩ := Hp.blk_some hb
              have B := S.blk _ _ _ hk1
              simp only [V] at vx
              obtain ⟨_, q1, at_, cap, q2, q3, q4, q5⟩ := vx
              have hc0 : cap ≠ 0 := by omega
              have hn' : 0 ≤ n ∧ n < (len : Int) := by omega
              refine here rfl (u := .pointer (some ⟨(X.p bk.s).B, (X.p bk.s).o + off * (X.p bk.s).z + n.toNat * z, none⟩)) ?_ ?_
              · simp [execOp, hop, Instr.indexAt, vi.int_inv, asIntOf, run_underlying hu, q2, hn'.1, hn'.2, u0C hz, q5 hc0, Addr.add_mid]
              · simp only [V]
                exact ⟨trivial, q1, by rw [B.z, hkz, Nat.add_mul]; simp; omega⟩
            · cases hs
          · cases hs
        · cases hs
      · rename_i z' xs k n hxe hie
        rw [hxe] at vx
        rw [hie] at vi
        split at hs
        · rename_i hn
          split at hs
          · rename_i r hr
            cases hs
            obtain ⟨hn0, rfl⟩ := hn
            simp only [V] at vx
            obtain ⟨⟨b, o', sp⟩, cap, q2, q3, q4, q5⟩ := vx
            have hlt : n.toNat < xs.length := (List.getElem?_eq_some_iff.1 hr).1
            have hn' : 0 ≤ n ∧ n < (xs.length : Int) := by omega
            have hsp := q4 (by rintro rfl; simp at hlt)
            simp only at hsp
            subst hsp
            refine here rfl (u := .pointer (some ⟨b, o' + n.toNat * z', none⟩)) ?_ ?_
            · simp [execOp, hop, Instr.indexAt, vi.int_inv, asIntOf, run_underlying hu, q2, hn'.1, hn'.2, u0C hz, Addr.add_mid]
            · simp only [V]
              exact ⟨_, rfl, rfl, (q5.get hr).2⟩
          · cases hs
        · cases hs
      · cases hs
    · rename_i m e x' i' hu hx hi
      rw [Option.map_eq_some_iff] at ht
      obtain ⟨z, hz, rfl⟩ := ht
      have vx := u0q hx T
      have vi := u0q hi T
      simp only [step] at hs
      split at hs
      · rename_i b j s e' o' k n hxe hie
        rw [hxe] at vx
        rw [hie] at vi
        split at hs
        · rename_i hn
          cases hs
          have hn' : 0 ≤ n ∧ n < (m : Int) := by omega
          simp only [V] at vx
          obtain ⟨_, q1, q2⟩ := vx
          refine here rfl (u := .pointer (some ⟨(X.p s).B, (X.p s).o + e' * (X.p s).z + o' + n.toNat * z, none⟩)) ?_ ?_
          · simp [execOp, hop, Instr.indexAt, vi.int_inv, asIntOf, run_underlying hu, q2, hn'.1, hn'.2, u0C hz, Addr.add_mid, Instr.sureAddr]
          · simp only [V]
            exact ⟨trivial, q1, by simp; omega⟩
        · cases hs
      · rename_i r k n hxe hie
        rw [hxe] at vx
        rw [hie] at vi
        split at hs
        · rename_i hn
          cases hs
          have hn' : 0 ≤ n ∧ n < (m : Int) := by omega
          obtain ⟨b, q, q1, _, q2⟩ := fp_lies S vx
          refine here rfl (u := .pointer (some ⟨b, q + n.toNat * z, none⟩)) ?_ ?_
          · simp [execOp, hop, Instr.indexAt, vi.int_inv, asIntOf, run_underlying hu, q1, hn'.1, hn'.2, u0C hz, Addr.add_mid, Instr.sureAddr]
          · simp only [V]
            exact ⟨_, rfl, rfl, q2.drop _⟩
        · cases hs
      · cases hs
    · cases ht
  case index t x i =>
    split at ht
    · rename_i x' i' hu hx hi
      cases ht
      have vx := u0q hx T
      have vi := u0q hi T
      simp only [step] at hs
      split at hs
      · rename_i s k n hxe hie
        rw [hxe] at vx
        rw [hie] at vi
        split at hs
        · rename_i hn
          split at hs
          · rename_i c hc
            cases hs
            refine here rfl (u := .int .u8 c.toNat) ?_ (by simp [V])
            have hc' : s[n.toNat]? = some c := by
              rw [ByteArray.toList_eq] at hc
              have h1 := (List.getElem?_eq_some_iff.1 hc).1
              have h2 : n.toNat < s.size := by simpa using h1
              rw [Array.getElem?_toList] at hc
              rw [getElem?_pos s n.toNat h2]
              rw [Array.getElem?_eq_getElem h2] at hc
              exact hc
            simp [execOp, hop, Instr.index, vx.str_inv, vi.int_inv, asIntOf, run_underlying hu, hn, hc']
          · cases hs
        · cases hs
      · cases hs
    · rename_i m e x' i' hu hx hi
      split at ht
      · rename_i sz z hsz hz
        cases ht
        have vx := u0q hx T
        have vi := u0q hi T
        simp only [step] at hs
        split at hs
        · rename_i cs k n hxe hie
          rw [hxe] at vx
          rw [hie] at vi
          simp only [V] at vx
          obtain ⟨arr, hx, vs⟩ := vx
          have hlen : cs.length = arr.size := by simpa using vs.length
          split at hs
          · rename_i hn
            have hn' : 0 ≤ n ∧ n < (m : Int) := by omega
            split at hs
            · rename_i q
              split at hs
              · rename_i hq
                cases hs
                refine here rfl (u := .agg (arr.extract (n.toNat * sz) (n.toNat * sz + q))) ?_ ?_
                · have hp : (part e arr (n.toNat * sz)).run P w = .ok (.agg (arr.extract (n.toNat * sz) (n.toNat * sz + q))) w := by
                    unfold aggP at hz
                    split at hz
                    · rename_i fs' i' g1 g2
                      cases hz
                      exact part_agg g1 (by simp [sizeP, g2]) w
                    · rename_i m' e' i' g1 g2
                      cases hz
                      have g3 : (sizeOf e).run P w = .ok i'.size w := by simp [sizeOf, typeInfo, g2]
                      simp [part, isAgg, run_underlying g1, g3]
                    · cases hz
                    · cases hz
                  simp [execOp, hop, Instr.index, vi.int_inv, asIntOf, run_underlying hu, hx, hn'.1, hn'.2, u0C hsz, hp]
                · simp only [V]
                  refine ⟨_, rfl, ?_⟩
                  rw [Array.toList_extract, List.extract_eq_take_drop]
                  have := (vs.drop (n.toNat * sz)).take q
                  rwa [Nat.add_sub_cancel_left]
              · cases hs
            · split at hs
              · rename_i v' hv'
                cases hs
                obtain ⟨u, u1, u2⟩ := vs.get hv'
                obtain ⟨d0, d1, d2⟩ := aggP_one hz
                have hp := u51 (cs := arr) (o := n.toNat * sz) (v := u) d1 d2 (by simpa using u1) w
                exact here rfl (u := u) (by simp [execOp, hop, Instr.index, vi.int_inv, asIntOf, run_underlying hu, hx, hn'.1, hn'.2, u0C hsz, hp]) u2
              · cases hs
          · cases hs
        · cases hs
      · cases ht
    · cases ht
  case extract x i =>
    rw [Option.map_eq_some_iff] at ht
    obtain ⟨y, hy, rfl⟩ := ht
    have vx := u0q hy T
    simp only [step] at hs
    split at hs
    · rename_i vs hye
      rw [hye] at vx
      split at hs
      · rename_i v' hv'
        cases hs
        simp only [V] at vx
        obtain ⟨arr, q1, q2⟩ := vx
        obtain ⟨u, u1, u2⟩ := q2.get hv'
        exact here rfl (u := u) (by simp at u1; simp [execOp, hop, Instr.extract, q1, u1]) u2
      · cases hs
    · cases hs
  case makeFunc fn first cap =>
    cases fn with
    | func f =>
      simp only at ht
      split at ht
      · rename_i hfirst
        rw [Option.map_eq_some_iff] at ht
        obtain ⟨ys, hys, rfl⟩ := ht
        cases hs
        have := u3U T hys
        have hf : first = #[] := by simpa using hfirst.1
        exact here rfl (u := .func (.func f) #[] (cap.map a.eval)) (by simp [execOp, hop, Instr.makeFunc, hf]) (by simp only [V, real_lt hfirst.2]; exact ⟨_, rfl, by simpa using this⟩)
      · cases ht
    | _ => simp at ht
  case slice t x lo hi mx =>
    cases mx with
    | some m =>
      simp only at ht
      split at ht
      · rename_i e x' lo' hi0 m' hu hx hlo hm
        split at ht
        · rename_i z hi' hz hhi
          cases ht
          obtain ⟨rfl, rfl, u, u1⟩ := chk3_ok (P := P) (t := t) (K := K) S T hlo hhi hm (u0q hx T) hs hu hz
          exact here rfl (u := u) (by simp [execOp, hop, u1]) (by simp [V])
        · cases ht
      · cases ht
    | none =>
      simp only at ht
      split at ht
      · rename_i e x' lo' hi' hu hx hlo hhi
        split at ht
        · rename_i z hz
          cases ht
          obtain ⟨rfl, u, u1, u2⟩ := slice_ok (P := P) (t := t) (K := K) S T hlo hhi (u0q hx T) hs (by rw [if_neg (Nat.succ_ne_zero z)]; exact ⟨e, hu, hz⟩)
          exact here rfl (by simp [execOp, hop, u1]) u2
        · cases ht
      · rename_i x' lo' hi' hu hx hlo hhi
        cases ht
        obtain ⟨rfl, u, u1, u2⟩ := slice_ok (P := P) (t := t) (K := K) S T hlo hhi (u0q hx T) hs (by simpa using hu)
        exact here rfl (by simp [execOp, hop, u1]) u2
      · cases ht
  case buildSlice t len ps =>
    split at ht
    · rename_i e hu
      split at ht
      · rename_i z zero qs hz hzero hq
        split at ht
        · rename_i hc
          split at ht
          · -- never written
            rw [Option.map_eq_some_iff] at ht
            obtain ⟨d0, hd0, rfl⟩ := ht
            simp only [litRow] at hd0
            split at hd0
            case isFalse => cases hd0
            rename_i hlit
            rw [Option.map_eq_some_iff] at hd0
            obtain ⟨cs, hf, rfl⟩ := hd0
            rw [Bool.and_eq_true] at hlit
            obtain ⟨hl1, hl2⟩ := hlit
            simp only [step, Opd.ev, Option.some.injEq, Prod.mk.injEq] at hs
            obtain ⟨rfl, rfl⟩ := hs
            have hev : ∀ p ∈ qs, p.2.ev l = p.2.ev [] ∧ (p.2.ev l).cells.length = z ∧ ((p.2.ev l).cells.all lit1) = true := by
              intro p hp
              have := List.all_eq_true.1 hl2 p hp
              cases hp2 : p.2 with
              | tmp _ => rw [hp2] at this; cases this
              | frz _ => rw [hp2] at this; cases this
              | val d =>
                rw [hp2] at this
                simp only [Bool.and_eq_true, beq_iff_eq] at this
                exact ⟨rfl, this.1, this.2⟩
            have hf' : fill ((List.replicate len zero).flatten) (qs.map fun p => (p.1 * z, (p.2.ev l).cells)) = some cs := by
              rw [← hf]; congr 1
              exact List.map_congr_left fun p hp => by rw [(hev p hp).1]
            have hcell : ∀ {ds : List DV}, (ds.all lit1) = true → (ds.all DV.isCell) = true := fun h => by
              rw [List.all_eq_true] at h ⊢
              exact fun d hd => by have := h d hd; simp only [lit1, Bool.and_eq_true] at this; exact this.1
            obtain ⟨cells', x1, x2, x3, x4, x5⟩ := build_exec (w := w) T hop hu hz hzero hq hc (by
              rw [List.all_eq_true]; intro p hp
              rw [Bool.and_eq_true, beq_iff_eq]; exact ⟨(hev p hp).2.1, hcell (hev p hp).2.2⟩) hf'
            -- all that it holds is constant
            have hlit : ∀ d ∈ cs, lit1 d = true := by
              have h1 : ∀ (ps : List (Nat × List DV)) (cs cs' : List DV), fill cs ps = some cs' → (∀ d ∈ cs, lit1 d = true) → (∀ p ∈ ps, ∀ d ∈ p.2, lit1 d = true) → ∀ d ∈ cs', lit1 d = true := by
                intro ps
                induction ps with
                | nil => intro cs cs' h hc _; simp only [fill, Option.some.injEq] at h; rw [← h]; exact hc
                | cons p ps ih =>
                  intro cs cs' h hc hp
                  simp only [fill] at h
                  split at h
                  · refine ih _ _ h (fun d hd => ?_) (fun p hp' => hp p (List.mem_cons_of_mem _ hp'))
                    obtain ⟨j, hj⟩ := List.getElem?_of_mem hd
                    rw [u39] at hj
                    split at hj
                    · exact hp p (by simp) d (List.mem_of_getElem? hj)
                    · exact hc d (List.mem_of_getElem? hj)
                  · cases h
              refine h1 _ _ _ hf' (fun d hd => ?_) (fun p hp d hd => ?_)
              · obtain ⟨l', hl', hd'⟩ := List.mem_flatten.1 hd
                rw [List.mem_replicate] at hl'
                rw [hl'.2] at hd'
                exact List.all_eq_true.1 hl1 d hd'
              · obtain ⟨p0, hp0, rfl⟩ := List.mem_map.1 hp
                exact List.all_eq_true.1 (hev p0 hp0).2.2 d hd
            obtain ⟨b1, b2⟩ := But.alloc w (.cells cells' e)
            let X' : Cx := { X with Z := fun b o => if b = w.heap.size then cells'[o]? else X.Z b o }
            have hZ : ∀ b o v, X.Z b o = some v → X'.Z b o = some v := fun b o v hv => by
              have hlt := u2m (S.z b o v hv)
              simp only [X', if_neg (Nat.ne_of_lt hlt)]; exact hv
            have le : X.le X' := ⟨hZ, fun b o hb hbu => by
              have := S.N
              simp only [X', if_neg (Nat.ne_of_lt (Nat.lt_of_lt_of_le hb this))], Nat.le_refl _, fun _ _ => rfl, rfl, rfl, rfl⟩
            have S' : Sim X' h (w.alloc (.cells cells' e)) := by
              refine ⟨fun b o v hv => ?_, fun hb i k hk => ?_, S.dist, S.c, Nat.le_trans S.N b1.size, fun b hb hu => ?_, b1.os.trans S.os, b1.tape.trans S.tape, b1.out.trans S.out, Nat.le_trans S.dr b1.dr⟩
              · by_cases hbe : b = w.heap.size
                · subst hbe
                  simp only [X', if_true] at hv
                  rw [u17 b2]; exact hv
                · simp only [X', if_neg hbe] at hv
                  have hc := S.z b o v hv
                  rwa [u3z (b1.same b hbe (u2m hc))]
              · have B := S.blk hb i k hk
                have hne := Nat.ne_of_lt B.lt
                exact B.mono le (fun o => by simp only [X', if_neg hne]; exact B.off o) (b1.same _ hne B.lt)
              · have hlt : b < w.heap.size := Nat.lt_of_lt_of_le hb S.N
                rw [b1.same b (Nat.ne_of_lt hlt) hlt]
                exact S.keep b hb hu
            refine ⟨.value (.slice (some ⟨w.heap.size, 0, none⟩) len len), _, X', x1, le, S', .inl ⟨_, rfl, ?_⟩⟩
            simp only [V]
            refine ⟨⟨w.heap.size, 0, none⟩, len, by rw [u2o], by rw [u2o]; exact Nat.le_refl _, fun _ => rfl, VRows.mk fun i r hr => ?_⟩
            have hi : i < len := by have := (List.getElem?_eq_some_iff.1 hr).1; rwa [u2o] at this
            rw [chunk_get z len cs i hi] at hr
            cases hr
            have hb : (i + 1) * z ≤ len * z := Nat.mul_le_mul_right _ hi
            rw [Nat.add_mul] at hb
            refine ⟨by simp; omega, u0G.mk fun j d hd => ?_⟩
            rw [List.getElem?_take] at hd
            split at hd
            · rw [List.getElem?_drop] at hd
              obtain ⟨u, u1, u2⟩ := x4.get hd
              refine ⟨u, ?_, cells_still (hlit d (List.mem_of_getElem? hd)) u2 X' hZ, u2.oneCell (x5 _ _ hd)⟩
              simp only [X', if_true]
              simpa using u1
            · cases hd
          cases ht
          simp only [step] at hs
          split at hs
          · rename_i hcc
            split at hs
            · rename_i cs hf
              cases hs
              obtain ⟨cells', x1, hcz, hcl, f2, hone⟩ := build_exec (w := w) T hop hu hz hzero hq hc hcc.2 hf
              obtain ⟨hzl, hz0, hlen⟩ := hc
              obtain ⟨b1, b2⟩ := But.alloc w (.cells cells' e)
              obtain ⟨X', q1, q2, q3⟩ := S.row (z := z) (n := len) (cap := len) (xs := chunk z len cs) b1 b2 (by simp) (u2o z len cs) (Nat.le_refl _) (by rw [hcz]; exact Nat.le_refl _) fun e' r hr => by
                have he' : e' < len := by have := (List.getElem?_eq_some_iff.1 hr).1; rwa [u2o] at this
                rw [chunk_get z len cs e' he'] at hr
                cases hr
                have hb : (e' + 1) * z ≤ len * z := Nat.mul_le_mul_right _ he'
                rw [Nat.add_mul] at hb
                refine ⟨by simp; omega, fun j d hd => ?_⟩
                rw [List.getElem?_take] at hd
                split at hd
                · rw [List.getElem?_drop] at hd
                  obtain ⟨u, u1, u2⟩ := f2.get hd
                  exact ⟨u, by simpa using u1, u2, u2.oneCell (hone _ _ hd)⟩
                · cases hd
              exact ⟨.value (.slice (some ⟨w.heap.size, 0, none⟩) len len), _, X', x1, q1, q2, .inl ⟨_, rfl, q3⟩⟩
            · cases hs
          · cases hs
        · cases ht
      · cases ht
    · cases ht
  case call c =>
    obtain ⟨callee, args, argTypes⟩ := c
    cases callee with
    | value f =>
      simp only at ht
      split at ht
      · cases ht; exact absurd rfl (hnc _ _ _)
      · cases ht
    | invoke r m => simp at ht
    | builtin b =>
      have two : ∀ {x y : Opd}, trOs args.toList = some [x, y] → ∃ p q, args = #[p, q] ∧ V X true (x.ev l) (a.eval p) ∧ V X true (y.ev l) (a.eval q) := by
        intro x y hh
        have := u3U T hh
        cases e : args.toList with
        | nil => rw [e] at this; simp [VS] at this
        | cons p r =>
          cases r with
          | nil => rw [e] at this; simp [VS] at this
          | cons q r =>
            cases r with
            | cons s r => rw [e] at this; simp [VS] at this
            | nil =>
              rw [e] at this
              simp only [List.map_cons, List.map_nil, VS, and_true] at this
              exact ⟨p, q, by rw [← Array.toArray_toList (xs := args), e], this.1, this.2⟩
      cases b <;> simp only [reduceCtorEq] at ht <;> try (cases ht; done)
      case append =>
        split at ht
        · rename_i x y t u hargs htys
          obtain ⟨p, q, rfl, vx, vy⟩ := two hargs
          have hty : argTypes = #[t, u] := by rw [← Array.toArray_toList (xs := argTypes), htys]
          subst hty
          split at ht
          · rename_i e hu
            have go : ∀ (i : TypeInfo) (zero : List DV) (st : Bool), P.info? e = some i → zeroP P e = some zero → zero.length = i.size → 0 < i.size → 0 < i.bytes → i.size < 1000000 → (if st then P.underlying u = some .string else ∃ e, P.underlying u = some (.slice e)) →
                step K l h (.append i.size i.bytes st x y) = some (v, h') → Fits P o a w X h' v := by
              intro i zero st hi hz hzl hz0 hb0 hsm hst hs
              simp only [step] at hs
              rw [if_neg (by omega)] at hs
              split at hs
              · rename_i ys hys
                split at hs
                · rename_i r hr
                  obtain ⟨news, s1, s2⟩ := u5e (P := P) S hys vy (tx := u) hst
                  have hzz : ∃ zv, i.zero = some zv ∧ zv.cells.size = i.size := by
                    unfold zeroP at hz
                    rw [hi] at hz
                    simp only at hz
                    split at hz
                    · rename_i zv hzv
                      refine ⟨zv, hzv, ?_⟩
                      have := (u3y (X := X) (L := true) hz).1.length
                      rw [← hzl]; simpa using this.symm
                    · cases hz
                  obtain ⟨zv, hz1, hz2⟩ := hzz
                  have hroom : ∀ b s o n, r.1 = .sl b s o n → room n i.bytes = true := by
                    intro b s o' n hrn
                    rw [hrn] at hs
                    simp only at hs
                    split at hs
                    · assumption
                    · cases hs
                  have hrv : r = (v, h') := by
                    split at hs
                    · split at hs
                      · cases hs; rfl
                      · cases hs
                    · cases hs; rfl
                  obtain ⟨v', w', X', q1, q2, q3, q4⟩ := append_ok (P := P) (ty := o.type) S hr vx hu hi hz1 hz2 rfl hz0 hb0 hroom s1 s2
                  rw [hrv] at q3 q4
                  exact ⟨.value v', w', X', by simp [execOp, hop, resolve, invoke, builtin, q1], q2, q3, .inl ⟨v', rfl, q4⟩⟩
                · cases hs
              · cases hs
            have goD : ∀ (i : TypeInfo) (zero : List DV) (st : Bool), P.info? e = some i → zeroP P e = some zero → zero.length = i.size → 0 < i.size → 0 < i.bytes → (if st then P.underlying u = some .string else ∃ e, P.underlying u = some (.slice e)) →
                step K l h (.append (i.size + 1000000) i.bytes st x y) = some (v, h') → Fits P o a w X h' v := by
              intro i zero st hi hz hzl hz0 hb0 hst hs
              simp only [step] at hs
              rw [if_pos (by omega), Nat.add_sub_cancel] at hs
              split at hs
              · rename_i ys hys
                obtain ⟨news, s1, s2⟩ := u5e (P := P) S hys vy (tx := u) hst
                have hzz : ∃ zv, i.zero = some zv ∧ zv.cells.size = i.size := by
                  unfold zeroP at hz
                  rw [hi] at hz
                  simp only at hz
                  split at hz
                  · rename_i zv hzv
                    refine ⟨zv, hzv, ?_⟩
                    have := (u3y (X := X) (L := true) hz).1.length
                    rw [← hzl]; simpa using this.symm
                  · cases hz
                obtain ⟨zv, hz1, hz2⟩ := hzz
                obtain ⟨v', w', q1, q3, q4⟩ := appDrop_ok (P := P) (ty := o.type) S hs vx hu hi hz1 hz2 rfl hz0 hb0 s1 s2
                exact ⟨.value v', w', X, by simp [execOp, hop, resolve, invoke, builtin, q1], Cx.le.refl X, q3, .inl ⟨v', rfl, by simp only at q4; rw [q4]; simp [V]⟩⟩
              · cases hs
            split at ht
            · rename_i i zero e' hi hz hu'
              split at ht
              · rename_i hc
                cases ht
                cases esc with
                | false => exact go i zero false hi hz hc.1 hc.2.1 hc.2.2.1 hc.2.2.2 (by simpa using ⟨e', hu'⟩) hs
                | true => exact goD i zero false hi hz hc.1 hc.2.1 hc.2.2.1 (by simpa using ⟨e', hu'⟩) hs
              · cases ht
            · rename_i i zero hi hz hu'
              split at ht
              · rename_i hc
                cases ht
                exact go i zero true hi hz hc.1 (by omega) hc.2.2.1 hc.2.2.2 (by simpa using hu') hs
              · cases ht
            · cases ht
          · cases ht
        · cases ht
      case copy =>
        split at ht
        · rename_i x y t u hargs htys
          obtain ⟨p, q, rfl, vx, vy⟩ := two hargs
          have hty : argTypes = #[t, u] := by rw [← Array.toArray_toList (xs := argTypes), htys]
          subst hty
          split at ht
          · rename_i e hu
            have go : ∀ (z : Nat) (st : Bool), sizeP P e = some z → step K l h (.copy z st x y) = some (v, h') → Fits P o a w X h' v := by
              intro z st hz hs
              simp only [step] at hs
              split at hs
              · rename_i ys i s off len hys hxe
                rw [hxe] at vx
                split at hs
                · rename_i k hb
                  split at hs
                  · rename_i hc
                    cases hs
                    obtain ⟨w', q1, q2⟩ := copy_ok (P := P) (tx := u) (ty := o.type) S hys vy hb hc.1 hc.2 vx hu hz
                    exact ⟨.value (goInt ((min ys.length len : Nat) : Int)), w', X, by simp only [execOp, hop, resolve, invoke, builtin, Sem.run_bind, Sem.run_pure, Result.andThen_ok, List.map_toArray, List.map_cons, List.map_nil, q1], Cx.le.refl X, q2, .inl ⟨_, rfl, by simp only [V, goInt]⟩⟩
                  · cases hs
                · cases hs
              · cases hs
            split at ht
            · rename_i hu'
              rw [Option.map_eq_some_iff] at ht
              obtain ⟨z, hz, rfl⟩ := ht
              exact go z true hz hs
            · rw [Option.map_eq_some_iff] at ht
              obtain ⟨z, hz, rfl⟩ := ht
              exact go z false hz hs
          · cases ht
        · cases ht
      case clear =>
        split at ht
        · rename_i x t hargs htys
          have hty : argTypes = #[t] := by rw [← Array.toArray_toList (xs := argTypes), htys]
          subst hty
          obtain ⟨p, hp, vp⟩ : ∃ p, args = #[p] ∧ V X true (x.ev l) (a.eval p) := by
            have := u3U T hargs
            cases e : args.toList with
            | nil => rw [e] at this; simp [VS] at this
            | cons p r =>
              rw [e] at this
              simp only [List.map_cons, VS] at this
              have hr := this.2.length
              have hr : r = [] := List.eq_nil_of_length_eq_zero (by simpa using hr.symm)
              subst hr
              exact ⟨p, by rw [← Array.toArray_toList (xs := args), e], this.1⟩
          subst hp
          split at ht
          · rename_i e hu
            split at ht
            · rename_i z zero hz hzero
              split at ht
              · rename_i hcc
                cases ht
                simp only [step] at hs
                split at hs
                · rename_i hxe
                  cases hs
                  rw [hxe] at vp
                  simp only [V] at vp
                  exact here rfl (u := .tuple #[]) (by simp [execOp, hop, resolve, invoke, builtin, Builtin.clear_, run_underlying hu, vp]) (by simp only [V]; exact ⟨#[], rfl, by simp [VS]⟩)
                · rename_i i s off len hxe
                  rw [hxe] at vp
                  split at hs
                  · rename_i k hb
                    split at hs
                    · rename_i hc
                      cases hs
                      obtain ⟨w', q1, q2⟩ := clear_ok (P := P) (ty := o.type) S hb hc.1 hc.2 vp hu hzero hcc.1 hcc.2
                      exact ⟨.value (.tuple #[]), w', X, by simp only [execOp, hop, resolve, invoke, builtin, Sem.run_bind, Sem.run_pure, Result.andThen_ok, List.map_toArray, List.map_cons, List.map_nil, q1], Cx.le.refl X, q2, .inl ⟨_, rfl, by simp only [V]; exact ⟨#[], rfl, by simp [VS]⟩⟩⟩
                    · cases hs
                  · cases hs
                · cases hs
              · cases ht
            · cases ht
          · cases ht
        · cases ht
      case len =>
        split at ht
        · rename_i x t hargs htys
          have hty : argTypes = #[t] := by rw [← Array.toArray_toList (xs := argTypes), htys]
          subst hty
          have one : ∃ p, args = #[p] ∧ V X true (x.ev l) (a.eval p) := by
            have := u3U T hargs
            cases e : args.toList with
            | nil => rw [e] at this; simp [VS] at this
            | cons p r =>
              cases r with
              | cons q r => rw [e] at this; simp [VS] at this
              | nil =>
                rw [e] at this
                simp only [List.map_cons, List.map_nil, VS, and_true] at this
                exact ⟨p, by rw [← Array.toArray_toList (xs := args), e], this⟩
          obtain ⟨p, rfl, vx⟩ := one
          split at ht
          · rename_i hu
            cases ht
            simp only [step] at hs
            split at hs <;> first
              | (rename_i e1 _; cases e1; done)
              | (cases hs; done)
              | (rename_i s hxe e1
                 cases hs
                 rw [e1] at vx
                 exact here rfl (u := goInt s.size) (by simp [execOp, hop, resolve, invoke, builtin, Builtin.len_, run_underlying hu, vx.str_inv]) (by simp [V, goInt]))
              | (rename_i s e1
                 cases hs
                 rw [e1] at vx
                 exact here rfl (u := goInt s.size) (by simp [execOp, hop, resolve, invoke, builtin, Builtin.len_, run_underlying hu, vx.str_inv]) (by simp [V, goInt]))
          · rename_i e hu
            cases ht
            simp only [step] at hs
            have go : ∀ (n : Nat), (∃ b c, a.eval p = .slice b n c) → (execOp a.eval o).run P w = .ok (.value (goInt n)) w := by
              rintro n ⟨b, c, hx⟩
              simp [execOp, hop, resolve, invoke, builtin, Builtin.len_, run_underlying hu, hx]
            generalize hxe : x.ev l = dx at hs vx
            cases dx <;> simp only at hs <;> try (cases hs; done)
            all_goals simp only [V] at vx
            · cases hs
              exact here rfl (go 0 ⟨_, _, vx⟩) (by simp [V, goInt])
            · cases hs
              obtain ⟨b, c, vx, _⟩ := vx
              exact here rfl (go _ ⟨_, _, vx⟩) (by simp [V, goInt])
            · cases hs
              obtain ⟨_, _, b, c, vx, _⟩ := vx
              exact here rfl (go _ ⟨_, _, vx⟩) (by simp [V, goInt])
          · cases ht
        · cases ht
      case max =>
        split at ht
        · rename_i x y hargs
          cases ht
          obtain ⟨p, q, rfl, vx, vy⟩ := two hargs
          simp only [step, List.map_cons, List.map_nil] at hs
          split at hs
          · rename_i k m k' n he
            simp only [List.cons.injEq, and_true] at he
            cases hs
            rw [he.1] at vx
            rw [he.2] at vy
            refine here rfl (u := .int k (if n > m then n else m)) ?_ (by simp [V])
            simp [execOp, hop, resolve, invoke, builtin, Builtin.max_, Builtin.max2, vx.int_inv, vy.int_inv]
          · cases hs
        · cases ht
      case min =>
        split at ht
        · rename_i x y hargs
          cases ht
          obtain ⟨p, q, rfl, vx, vy⟩ := two hargs
          simp only [step, List.map_cons, List.map_nil] at hs
          split at hs
          · rename_i k m k' n he
            simp only [List.cons.injEq, and_true] at he
            cases hs
            rw [he.1] at vx
            rw [he.2] at vy
            refine here rfl (u := .int k (if n < m then n else m)) ?_ (by simp [V])
            simp [execOp, hop, resolve, invoke, builtin, Builtin.min_, Builtin.min2, vx.int_inv, vy.int_inv]
          · cases hs
        · cases ht
  all_goals cases ht

end Go.Dv
/- The engine: a region whose order is given. -/
set_option linter.unusedVariables false
set_option linter.unusedSimpArgs false
namespace Go.Dv
variable {P : Program}

def DOp.frz : DOp → DOp
  | .toStr (.tmp t) => .toStr (.frz t)
  | .slice z (.tmp t) lo hi => .slice z (.frz t) lo hi
  | .indexAddr z (.tmp t) i => .indexAddr z (.frz t) i
  | d => d
theorem frz_step {K : Oracle} {l : List DV} {h h' : Hp} {d : DOp} {v : DV} (hs : step K l h d.frz = some (v, h')) : step K l h d = some (v, h') := by
  unfold DOp.frz at hs
  split at hs
  · rename_i t
    simp only [step, Opd.ev] at hs ⊢
    rcases (gt l t).fzn_or with e | e
    · rwa [e] at hs
    · rw [e] at hs; cases hs
  · rename_i t lo hi
    simp only [step, Opd.ev] at hs ⊢
    rcases (gt l t).fzn_or with e | e
    · rwa [e] at hs
    · rw [e] at hs; cases hs
  · rename_i t i
    simp only [step, Opd.ev] at hs ⊢
    rcases (gt l t).fzn_or with e | e
    · rwa [e] at hs
    · rw [e] at hs; cases hs
  · exact hs
def u0V (quiet : Option (List Nat)) (d : DOp) : DOp :=
  match quiet with
  | none => d
  | some fs => match d with
    | .call (.val (.fn f [])) args ap => if fs.contains (f + 2000000) && decide (f < 1000000) then .call (.val (.fn (f + 1000000) [])) args ap else if fs.contains f then .callq (.val (.fn f [])) args else .call (.val (.fn f [])) args ap
    | d => if fs.head? = some 5000000 then d.frz else d
theorem quietOp_ok (quiet : Option (List Nat)) (d : DOp) : (u0V quiet d = d ∨ u0V quiet d = d.frz) ∨ ∃ f args ap, d = .call (.val (.fn f [])) args ap ∧ (u0V quiet d = .callq (.val (.fn f [])) args ∨ f < 1000000 ∧ u0V quiet d = .call (.val (.fn (f + 1000000) [])) args ap) := by
  unfold u0V
  split
  · exact .inl (.inl rfl)
  · split
    · split
      · rename_i hf
        simp only [Bool.and_eq_true, decide_eq_true_eq] at hf
        exact .inr ⟨_, _, _, rfl, .inr ⟨hf.2, rfl⟩⟩
      · split
        · exact .inr ⟨_, _, _, rfl, .inl rfl⟩
        · exact .inl (.inl rfl)
    · split
      · exact .inl (.inr rfl)
      · exact .inl (.inl rfl)
def guardOf (ops : Array Oper) (o : Oper) : Option (Option (Nat × Bool)) :=
  match o.guard with
  | none => some none
  | some (j, b) => ((ops[j]?).bind (·.dst)).map fun t => some (t, b)
theorem guardOf_ok {ops : Array Oper} {o : Oper} {g : Option (Nat × Bool)} (h : guardOf ops o = some g) : match o.guard with | none => g = none | some (j, c) => ∃ t, (ops[j]?).bind (·.dst) = some t ∧ g = some (t, c) := by
  unfold guardOf at h
  split at h
  · cases h; rfl
  · rename_i j b hg
    rw [Option.map_eq_some_iff] at h
    obtain ⟨t, h1, rfl⟩ := h
    exact ⟨t, h1, rfl⟩
def u35 (P : Program) (esc : List Nat) (quiet : Option (List Nat)) (ops : Array Oper) (ap : List (Nat × Opd)) (o : Oper) : Option DOper :=
  match trOp P (match o.dst with | some t => esc.contains t | none => false) ap o.op, guardOf ops o with
  | some d, some g => some ⟨o.dst, u0V quiet d, g⟩
  | _, _ => none

theorem trOp_ap {esc : Bool} {op : Op} {d : DOp} (h : trOp P esc [] op = some d) (ap : List (Nat × Opd)) : trOp P esc ap op = some (d.withAp ap) := by
  have hmap : ∀ {α : Type} {o : Option α} {f : α → DOp}, o.map f = some d → (∀ x, (f x).withAp ap = f x) → o.map f = some (d.withAp ap) := by
    intro α o f e hf
    rw [e]
    rw [Option.map_eq_some_iff] at e
    obtain ⟨x, _, rfl⟩ := e
    rw [hf]
  cases op
  case makeFunc c first cap =>
    cases c <;> simp only [trOp, reduceCtorEq] at h ⊢
    all_goals
      split at h
      · rename_i hc
        simp only [hc, if_true]
        exact hmap h fun _ => rfl
      · cases h
  case slice t x lo hi mx =>
    cases mx <;> simp only [trOp, reduceCtorEq] at h ⊢
    all_goals
      rw [h]
      (repeat' (split at h)) <;> first
        | (cases h; done)
        | (cases h; rfl)
  all_goals simp only [trOp] at h ⊢
  case store t x y =>
    split at h
    · rename_i h1 h2 h3
      cases h
      simp [h1, h2, h3, DOp.withAp]
    · cases h
  case call c =>
    obtain ⟨callee, args, tys⟩ := c
    cases callee with
    | value f =>
      simp only at h ⊢
      split at h
      · rename_i h1 h2
        cases h
        simp [h1, h2, DOp.withAp]
      · cases h
    | invoke r m => simp at h
    | builtin b =>
      cases b <;> simp only [reduceCtorEq] at h ⊢
      all_goals (
        rw [h]
        (repeat' (split at h)) <;> first
          | (cases h; done)
          | (cases h; rfl)
          | (rw [Option.map_eq_some_iff] at h; obtain ⟨_, _, h⟩ := h; cases h; rfl))
  all_goals (
    first
      | (cases h; done)
      | (rw [h]
         first
          | (cases h; rfl)
          | (rw [Option.map_eq_some_iff] at h; obtain ⟨_, _, h⟩ := h; cases h; rfl)
          | ((repeat' (split at h)) <;> first
              | contradiction
              | (cases h; done)
              | (cases h; rfl)
              | (rw [Option.map_eq_some_iff] at h; obtain ⟨_, _, h⟩ := h; cases h; rfl))))
theorem quietOp_ap (quiet : Option (List Nat)) (d : DOp) (ap : List (Nat × Opd)) : u0V quiet (d.withAp ap) = (u0V quiet d).withAp ap := by
  cases quiet with
  | none => rfl
  | some fs =>
    by_cases hc : fs.head? = some 5000000
    · cases d with
      | call f args ap0 =>
        cases f with
        | val v =>
          cases v <;> try (simp only [u0V, DOp.withAp, if_pos hc]; rfl)
          rename_i g cap
          cases cap <;> try (simp only [u0V, DOp.withAp, if_pos hc]; rfl)
          simp only [u0V, DOp.withAp]
          split
          · rfl
          · split <;> rfl
        | _ => simp only [u0V, DOp.withAp, if_pos hc]; rfl
      | toStr x => cases x <;> (simp only [u0V, DOp.withAp, if_pos hc]; rfl)
      | slice z x lo hi => cases x <;> (simp only [u0V, DOp.withAp, if_pos hc]; rfl)
      | indexAddr z x i => cases x <;> (simp only [u0V, DOp.withAp, if_pos hc]; rfl)
      | _ => simp only [u0V, DOp.withAp, if_pos hc]; rfl
    · cases d with
      | call f args ap0 =>
        cases f with
        | val v =>
          cases v <;> try (simp only [u0V, DOp.withAp, if_neg hc]; done)
          rename_i g cap
          cases cap <;> try (simp only [u0V, DOp.withAp, if_neg hc]; done)
          simp only [u0V, DOp.withAp]
          split
          · rfl
          · split <;> rfl
        | _ => simp only [u0V, DOp.withAp, if_neg hc]
      | _ => simp only [u0V, DOp.withAp, if_neg hc]
theorem trOper_ap {esc : List Nat} {quiet : Option (List Nat)} {ops : Array Oper} {o : Oper} {d : DOper} (h : u35 P esc quiet ops [] o = some d) (ap : List (Nat × Opd)) : u35 P esc quiet ops ap o = some ⟨d.dst, d.op.withAp ap, d.guard⟩ := by
  unfold u35 at h ⊢
  split at h
  · rename_i d0 g h1 h2
    cases h
    rw [trOp_ap h1 ap, h2]
    simp only [quietOp_ap]
  · cases h

def u62 (P : Program) (X : Cx) (w : World) (h' : Hp) (v : DV) (uf : Value) (us : List Value) : Prop :=
  ∃ fid arr, uf = .func (.func fid) #[] arr ∧ (callFunc fid (us.toArray ++ arr)).run P w = .ok (.enter fid (us.toArray ++ arr)) w ∧
    Calls P fid (us.toArray ++ arr) w fun e w' => ∃ u X', e = .returned u ∧ X.le X' ∧ Sim X' h' w' ∧ V X' true v u

structure OracleOk (P : Program) (K : Oracle) : Prop where
  k : ∀ (f : DV) (args : List DV) (h : Hp) (v : DV) (h' : Hp), K.k f args h = some (v, h') → ∀ (X : Cx) (w : World) (uf : Value) (us : List Value), Sim X h w → V X true f uf → VS X true args us → u62 P X w h' v uf us
  q : ∀ (f : DV) (args : List DV) (h : Hp) (v : DV), K.q (res h 8 f) (args.map (res h 8)) = some v → (v.flat || (f.still && args.all DV.still)) = true → ∀ (X : Cx) (w : World) (uf : Value) (us : List Value), Sim X h w → V X true f uf → VS X true args us → u62 P X w h v uf us

theorem called_wp {o : Oper} {a : Act} {w : World} {X : Cx} {h' : Hp} {v : DV} {c : Go.Call} {f : Operand} (hop : o.op = .call c) (hc : c.callee = .value f) (h : u62 P X w h' v (a.eval f) (c.args.toList.map a.eval)) {K : Act → World → Prop} {Q : Exit → Act → World → Prop}
    (hk : ∀ X' w' u, X.le X' → Sim X' h' w' → V X' true v u → K (a.put o.dst u) w') : o.wp P a w K Q := by
  obtain ⟨fid, arr, h1, h2, h3⟩ := h
  have hr : (execOp a.eval o).run P w = .ok (.enter fid ((c.args.toList.map a.eval).toArray ++ arr)) w := by
    have e1 : c.args.map a.eval = (c.args.toList.map a.eval).toArray := by rw [← Array.toList_map, Array.toArray_toList]
    simp only [execOp, hop, resolve, hc, h1, Deferred.ofValue, Sem.run_bind, Sem.run_pure, Result.andThen_ok, invoke, Array.empty_append]
    rw [e1]; exact h2
  unfold Oper.wp
  rw [hr, Oper.upon_enter]
  refine Calls.mono h3 fun e w' ⟨u, X', he, le, S, hv⟩ => ?_
  subst he
  exact hk X' w' u le S hv

theorem fits_wp {o : Oper} {a : Act} {w : World} {X : Cx} {h' : Hp} {v : DV} (h : Fits P o a w X h' v) {K : Act → World → Prop} {Q : Exit → Act → World → Prop}
    (hk : ∀ X' w' u, X.le X' → Sim X' h' w' → V X' true v u → K (a.put o.dst u) w') : o.wp P a w K Q := by
  obtain ⟨r, w', X', hr, le, S, hv⟩ := h
  unfold Oper.wp
  rw [hr]
  rcases hv with ⟨u, rfl, hv⟩ | ⟨rfl, rfl⟩
  · exact hk X' w' u le S hv
  · exact hk X' w' Go.undef le S (by simp [V])

theorem u6p {esc : Bool} {ap : List (Nat × Opd)} {op : Op} {f : Opd} {xs : List Opd} {ap' : List (Nat × Opd)} (h : trOp P esc ap op = some (.call f xs ap')) :
    ∃ c g, op = .call c ∧ c.callee = .value g ∧ trO g = some f ∧ trOs c.args.toList = some xs := by
  cases op <;> simp only [trOp] at h
  case call c =>
    obtain ⟨callee, args, tys⟩ := c
    cases callee with
    | value g =>
      simp only at h
      split at h
      · rename_i f' xs' h1 h2
        cases h
        exact ⟨_, g, rfl, rfl, h1, h2⟩
      · cases h
    | invoke r m => simp at h
    | builtin b =>
      cases b <;> simp only [reduceCtorEq] at h
      all_goals (repeat' (split at h)) <;> first
        | (cases h; done)
        | (rw [Option.map_eq_some_iff] at h; obtain ⟨_, _, h⟩ := h; cases h; done)
  all_goals first
    | (cases h; done)
    | (rw [Option.map_eq_some_iff] at h; obtain ⟨_, _, h⟩ := h; cases h; done)
    | ((repeat' (split at h)) <;> first
        | contradiction
        | (cases h; done)
        | (rw [Option.map_eq_some_iff] at h; obtain ⟨_, _, h⟩ := h; cases h; done))


theorem wants_ok {X : Cx} {l : List DV} {a : Act} {ops : Array Oper} {o : Oper} {g : Option (Nat × Bool)} {b : Bool} (T : TM X l a)
    (hg : match o.guard with | none => g = none | some (j, c) => ∃ t, (ops[j]?).bind (·.dst) = some t ∧ g = some (t, c)) (hw : wants l g = some b) : Region.wanted o (yielded ops a.tmps) = b := by
  unfold Region.wanted
  cases hgd : o.guard with
  | none =>
    rw [hgd] at hg
    simp only at hg
    subst hg
    simp only [wants, Option.some.injEq] at hw
    exact hw
  | some q =>
    obtain ⟨j, c⟩ := q
    rw [hgd] at hg
    obtain ⟨t, h1, rfl⟩ := hg
    simp only [wants] at hw
    simp only [yielded, h1, Option.bind_some]
    unfold gt at hw
    rw [List.getD_eq_getElem?_getD] at hw
    cases e : l[t]? with
    | none => rw [e] at hw; simp at hw
    | some d =>
      obtain ⟨u, h2, h3⟩ := VS.get T e
      rw [Array.getElem?_toList] at h2
      rw [e] at hw
      rw [h2]
      simp only [Option.getD_some] at hw
      split at hw
      · rename_i b' 
        cases hw
        rw [h3.bool_inv]
        cases b' <;> cases c <;> rfl
      · cases hw
        simp only [V] at h3
        obtain ⟨arr, rfl, _⟩ := h3
        rfl
      · cases hw

theorem u5C {K : Oracle} (OK : OracleOk P K) {esc : List Nat} {quiet : Option (List Nat)} {ops : Array Oper} {ap : List (Nat × Opd)} {o : Oper} {d : DOper} (ht : u35 P esc quiet ops ap o = some d) {X : Cx} {h h' : Hp} {w : World} {l : List DV} {a : Act}
    (S : Sim X h w) (T : TM X l a) {b : Bool} (hw : wants l d.guard = some b) {v : DV} (hv : if b then step K l h d.op = some (v, h') else v = .tup [] ∧ h' = h) {N : Act → World → Prop} {Q : Exit → Act → World → Prop}
    (hk : ∀ X' a' w', X.le X' → Sim X' h' w' → TM X' (putT l d.dst v) a' → a'.defers = a.defers → N a' w') :
    if Region.wanted o (yielded ops a.tmps) then o.wp P a w N Q ∨ (o.asks P a w ∧ LetsOut Q) else N (a.put o.dst Go.undef) w := by
  unfold u35 at ht
  split at ht
  · rename_i d0 g hd0 hg
    cases ht
    have e2 := guardOf_ok hg
    have e1 : (⟨o.dst, u0V quiet d0, g⟩ : DOper).dst = o.dst := rfl
    rw [wants_ok T e2 hw]
    have put : ∀ X' w' u, X.le X' → Sim X' h' w' → V X' true v u → N (a.put o.dst u) w' := by
      intro X' w' u le S' hv'
      refine hk X' _ w' le S' ?_ (by cases o.dst <;> rfl)
      rw [e1]
      exact (T.mono le).put hv' o.dst
    cases b with
    | false =>
      simp only [Bool.false_eq_true, if_false] at hv ⊢
      obtain ⟨rfl, rfl⟩ := hv
      exact put X w Go.undef (Cx.le.refl X) S (by simp only [V]; exact ⟨#[], rfl, by simp [VS]⟩)
    | true =>
      simp only [if_true] at hv ⊢
      refine .inl ?_
      rcases quietOp_ok quiet d0 with e3 | ⟨f, args, ap', e4, e5 | ⟨hfl, e5⟩⟩
      · replace hv : step K l h d0 = some (v, h') := by
          rcases e3 with e3 | e3
          · rw [e3] at hv; exact hv
          · rw [e3] at hv; exact frz_step hv
        by_cases hc : ∃ f xs ap', d0 = .call f xs ap'
        · obtain ⟨f, xs, ap', rfl⟩ := hc
          obtain ⟨c, g, hop, hcal, h1, h2⟩ := u6p hd0
          simp only [step] at hv
          have hv : K.k (f.ev l) (xs.map fun x => Opd.ev l x) h = some (v, h') := by
            split at hv
            · rename_i v2 h2' hkk
              split at hv
              · cases hv; exact hkk
              · cases hv
            · cases hv
          have := OK.k _ _ _ _ _ hv X w _ _ S (u0q h1 T) (u3U T h2)
          exact called_wp hop hcal this put
        · exact fits_wp (trOp_ok S T hd0 hv fun f xs ap' e => hc ⟨f, xs, ap', e⟩) put
      · rw [e4] at hd0
        rw [e5] at hv
        obtain ⟨c, g, hop, hcal, h1, h2⟩ := u6p hd0
        simp only [step] at hv
        split at hv
        · split at hv
          · rename_i v' hq
            split at hv
            · rename_i hfl
              cases hv
              have := OK.q _ _ _ _ hq hfl X w _ _ S (u0q h1 T) (u3U T h2)
              exact called_wp hop hcal this put
            · cases hv
          · cases hv
        · cases hv
      · rw [e4] at hd0
        rw [e5] at hv
        obtain ⟨c, g, hop, hcal, h1, h2⟩ := u6p hd0
        simp only [step] at hv
        have hv : K.k (.fn (f + 1000000) []) (args.map fun x => Opd.ev l x) h = some (v, h') := by
          split at hv
          · rename_i v2 h2' hkk
            split at hv
            · cases hv; exact hkk
            · cases hv
          · cases hv
        have vf := u0q h1 T
        have vf2 : V X true (.fn (f + 1000000) []) (a.eval g) := by
          simp only [Opd.ev, V, real_lt hfl] at vf
          simp only [V, real_add]
          exact vf
        have := OK.k _ _ _ _ _ hv X w _ _ S vf2 (u3U T h2)
        exact called_wp hop hcal this put
  · cases ht

theorem list_ok {K : Oracle} (OK : OracleOk P K) {esc : List Nat} {quiet : Option (List Nat)} {ops : Array Oper} {Q : Exit → Act → World → Prop} : ∀ (os : List Oper) (ds : List DOper), os.mapM (fun o => u35 P esc quiet ops [] o) = some ds →
    ∀ (X : Cx) (h : Hp) (w : World) (l : List DV) (a : Act) (l' : List DV) (h' : Hp), Sim X h w → TM X l a → Go.Dv.ops K ds l h = some (l', h') →
    (∀ X' a' w', X.le X' → Sim X' h' w' → TM X' l' a' → a'.defers = a.defers → Q .normal a' w') → wpList P ops Q os a w
  | [], ds, hm, X, h, w, l, a, l', h', S, T, hr, hk => by
    simp at hm
    subst hm
    simp only [Go.Dv.ops, Option.some.injEq, Prod.mk.injEq] at hr
    obtain ⟨rfl, rfl⟩ := hr
    exact hk X a w (Cx.le.refl X) S T rfl
  | o :: os, ds, hm, X, h, w, l, a, l', h', S, T, hr, hk => by
    rw [List.mapM_cons] at hm
    simp only [Option.bind_eq_bind, Option.bind_eq_some_iff, Option.pure_def, Option.some.injEq] at hm
    obtain ⟨d, hd, ds', hds, rfl⟩ := hm
    have cont : ∀ (v : DV) (h1 : Hp), Go.Dv.ops K ds' (putT l d.dst v) h1 = some (l', h') → ∀ X' a' w', X.le X' → Sim X' h1 w' → TM X' (putT l d.dst v) a' → a'.defers = a.defers → wpList P ops Q os a' w' :=
      fun v h1 hr1 X' a' w' le S' T' hdf => list_ok OK os ds' hds X' h1 w' _ a' l' h' S' T' hr1 fun X2 a2 w2 le2 S2 T2 hdf2 => hk X2 a2 w2 (le.trans le2) S2 T2 (hdf2.trans hdf)
    simp only [Go.Dv.ops] at hr
    unfold wpList
    split at hr
    · rename_i hw
      split at hr
      · rename_i v h1 hs
        exact u5C OK hd S T hw (b := true) (v := v) (h' := h1) (by simpa using hs) (cont v h1 hr)
      · cases hr
    · rename_i hw
      exact u5C OK hd S T hw (b := false) (v := .tup []) (h' := h) (by simp) (cont _ h hr)
    · cases hr

end Go.Dv
/- The engine: which slots and what of the heap an operation sees; two operations that see nothing of each other's go in either order. -/
set_option linter.unusedVariables false
set_option linter.unusedSimpArgs false
namespace Go.Dv
variable {P : Program}

def Opd.looks : Opd → List Nat
  | .tmp t => [t]
  | .val _ => []
  | .frz t => [t]
def u54 : Option Opd → List Nat
  | some x => x.looks
  | none => []
def DOp.looks : DOp → List Nat
  | .move x | .box _ _ x | .load _ x | .nilCheck x | .un _ x | .conv _ x | .toStr x | .toBytes x | .same x | .fieldAddr _ x | .field _ _ x | .extract _ x | .len _ x | .clear _ _ x => x.looks
  | .pick c a b => c.looks ++ a.looks ++ b.looks
  | .alloc _ _ _ => []
  | .build _ ps => ps.flatMap fun p => p.2.2.looks
  | .buildSlice _ _ _ ps => ps.flatMap fun p => p.2.looks
  | .store _ x y ap => x.looks ++ y.looks ++ ap.flatMap fun p => p.2.looks
  | .bin _ x y | .eqv _ _ x y | .makeSlice _ _ _ x y | .indexAddr _ x y | .indexArr _ _ x y | .indexStr x y | .indexVal _ _ _ x y | .append _ _ _ x y | .copy _ _ x y => x.looks ++ y.looks
  | .slice _ x lo hi => x.looks ++ u54 lo ++ u54 hi
  | .chk3 x lo hi m => x.looks ++ u54 lo ++ u54 hi ++ m.looks
  | .maxm _ xs => xs.flatMap Opd.looks
  | .makeFunc _ xs => xs.flatMap Opd.looks
  | .callq f xs => f.looks ++ xs.flatMap Opd.looks
  | .call f xs ap => f.looks ++ xs.flatMap Opd.looks ++ ap.flatMap fun p => p.2.looks
def u3v : Option (Nat × Bool) → List Nat
  | some (t, _) => [t]
  | none => []
def DOper.looks (o : DOper) : List Nat := o.op.looks ++ u3v o.guard

theorem Opd.ev_same {l l' : List DV} {x : Opd} (h : ∀ t ∈ x.looks, gt l t = gt l' t) : x.ev l = x.ev l' := by
  cases x with
  | tmp t => exact h t (by simp [Opd.looks])
  | val v => rfl
  | frz t => simp only [Opd.ev]; rw [h t (by simp [Opd.looks])]
theorem u5n {α : Type} {p q : α → Bool} : ∀ {l : List α}, (∀ x ∈ l, p x = q x) → l.all p = l.all q
  | [], _ => rfl
  | x :: l, h => by rw [List.all_cons, List.all_cons, h x (by simp), u5n fun y hy => h y (List.mem_cons_of_mem _ hy)]

theorem u4Q {K : Oracle} {l l' : List DV} {h : Hp} {op : DOp} (e : ∀ t ∈ op.looks, gt l t = gt l' t) : step K l h op = step K l' h op := by
  have s1 : ∀ (x : Opd), (∀ t ∈ x.looks, t ∈ op.looks) → x.ev l = x.ev l' := fun x hx => Opd.ev_same fun t ht => e t (hx t ht)
  have s2 : ∀ (x : Option Opd), (∀ t ∈ u54 x, t ∈ op.looks) → (x.map fun y => Opd.ev l y) = x.map fun y => Opd.ev l' y := fun x hx => by
    cases x with
    | none => rfl
    | some y => simp only [Option.map_some, Option.some.injEq]; exact s1 y fun t ht => hx t ht
  have s3 : ∀ (xs : List Opd), (∀ t ∈ xs.flatMap Opd.looks, t ∈ op.looks) → (xs.map fun x => Opd.ev l x) = xs.map fun x => Opd.ev l' x := fun xs hx =>
    List.map_congr_left fun x hm => s1 x fun t ht => hx t (List.mem_flatMap.2 ⟨x, hm, ht⟩)
  cases op with
  | build zero ps =>
    have hx : ∀ p ∈ ps, Opd.ev l p.2.2 = Opd.ev l' p.2.2 := fun p hp => s1 _ fun t ht => List.mem_flatMap.2 ⟨p, hp, ht⟩
    simp only [step]
    rw [u5n (q := fun p => (Opd.ev l' p.2.2).cells.length == p.2.1 && (Opd.ev l' p.2.2).cells.all DV.isCell) fun p hp => by rw [hx p hp],
      List.map_congr_left (g := fun p => (p.1, (Opd.ev l' p.2.2).cells)) fun p hp => by rw [hx p hp]]
  | buildSlice z len zero ps =>
    have hx : ∀ p ∈ ps, Opd.ev l p.2 = Opd.ev l' p.2 := fun p hp => s1 _ fun t ht => List.mem_flatMap.2 ⟨p, hp, ht⟩
    simp only [step]
    have e1 : (ps.all fun p => (Opd.ev l p.2).cells.length == z && (Opd.ev l p.2).cells.all DV.isCell) = ps.all fun p => (Opd.ev l' p.2).cells.length == z && (Opd.ev l' p.2).cells.all DV.isCell := u5n fun p hp => by rw [hx p hp]
    have e2 : (ps.map fun p => (p.1 * z, (Opd.ev l p.2).cells)) = ps.map fun p => (p.1 * z, (Opd.ev l' p.2).cells) := List.map_congr_left fun p hp => by rw [hx p hp]
    rw [e1, e2]
  | store z x y ap =>
    have hx : ∀ p ∈ ap, Opd.ev l p.2 = Opd.ev l' p.2 := fun p hp => s1 _ fun t ht => by
      simp only [DOp.looks, List.mem_append]; exact .inr (List.mem_flatMap.2 ⟨p, hp, ht⟩)
    have h1 : Opd.ev l x = Opd.ev l' x := s1 x fun t ht => by simp only [DOp.looks, List.mem_append]; exact .inl (.inl ht)
    have h2 : Opd.ev l y = Opd.ev l' y := s1 y fun t ht => by simp only [DOp.looks, List.mem_append]; exact .inl (.inr ht)
    simp only [step]
    rw [h1, h2]
    have e1 : ∀ d, (ap.all fun p => u26 d z (Opd.ev l p.2) p.1) = ap.all fun p => u26 d z (Opd.ev l' p.2) p.1 := fun d => u5n fun p hp => by rw [hx p hp]
    simp only [e1]
  | slice z x lo hi =>
    have h1 : Opd.ev l x = Opd.ev l' x := s1 x fun t ht => by simp [DOp.looks, ht]
    have h2 := s2 lo fun t ht => by simp [DOp.looks, ht]
    have h3 := s2 hi fun t ht => by simp [DOp.looks, ht]
    simp only [step]
    rw [h1, h2, h3]
  | chk3 x lo hi m =>
    have h1 : Opd.ev l x = Opd.ev l' x := s1 x fun t ht => by simp [DOp.looks, ht]
    have h2 := s2 lo fun t ht => by simp [DOp.looks, ht]
    have h3 := s2 hi fun t ht => by simp [DOp.looks, ht]
    have h4 : Opd.ev l m = Opd.ev l' m := s1 m fun t ht => by simp [DOp.looks, ht]
    simp only [step]
    rw [h1, h2, h3, h4]
  | maxm mx xs =>
    have h1 := s3 xs fun t ht => ht
    simp only [step]
    rw [h1]
  | makeFunc f xs =>
    have h1 := s3 xs fun t ht => ht
    simp only [step]
    rw [h1]
  | call f xs ap =>
    have hx : ∀ p ∈ ap, Opd.ev l p.2 = Opd.ev l' p.2 := fun p hp => s1 _ fun t ht => by
      simp only [DOp.looks, List.mem_append]; exact .inr (List.mem_flatMap.2 ⟨p, hp, ht⟩)
    have h1 : Opd.ev l f = Opd.ev l' f := s1 f fun t ht => by simp only [DOp.looks, List.mem_append]; exact .inl (.inl ht)
    have h2 := s3 xs fun t ht => by simp only [DOp.looks, List.mem_append]; exact .inl (.inr ht)
    simp only [step]
    rw [h1, h2]
    have e1 : ∀ h', (ap.all fun q => keeps h h' q.1 (Opd.ev l q.2)) = ap.all fun q => keeps h h' q.1 (Opd.ev l' q.2) := fun h' => u5n fun p hp => by rw [hx p hp]
    simp only [e1]
  | callq f xs =>
    have h1 : Opd.ev l f = Opd.ev l' f := s1 f fun t ht => by simp only [DOp.looks, List.mem_append]; exact .inl ht
    have h2 := s3 xs fun t ht => by simp only [DOp.looks, List.mem_append]; exact .inr ht
    simp only [step]
    rw [h1, h2]
  | pick c x y =>
    have h1 : Opd.ev l c = Opd.ev l' c := s1 c fun t ht => by simp [DOp.looks, ht]
    have h2 : Opd.ev l x = Opd.ev l' x := s1 x fun t ht => by simp [DOp.looks, ht]
    have h3 : Opd.ev l y = Opd.ev l' y := s1 y fun t ht => by simp [DOp.looks, ht]
    simp only [step]
    rw [h1, h2, h3]
  | alloc _ _ _ => rfl
  | bin op x y | eqv _ _ x y | makeSlice _ _ _ x y | indexAddr _ x y | indexArr _ _ x y | indexStr x y | indexVal _ _ _ x y | append _ _ _ x y | copy _ _ x y =>
    have h1 : Opd.ev l x = Opd.ev l' x := s1 x fun t ht => by simp [DOp.looks, ht]
    have h2 : Opd.ev l y = Opd.ev l' y := s1 y fun t ht => by simp [DOp.looks, ht]
    simp only [step]
    rw [h1, h2]
  | move x | box _ _ x | load _ x | nilCheck x | un _ x | conv _ x | toStr x | toBytes x | same x | fieldAddr _ x | field _ _ x | extract _ x | len _ x | clear _ _ x =>
    have h1 : Opd.ev l x = Opd.ev l' x := s1 x fun t ht => by simp [DOp.looks, ht]
    simp only [step]
    rw [h1]

def Ext (h h' : Hp) : Prop := ∀ b i s k, h.blk b i s = some k → h'.blk b i s = some k
theorem Ext.refl (h : Hp) : Ext h h := fun _ _ _ _ e => e
theorem Ext.new (h : Hp) (hb : Bool) (z : Nat) (xs : List (List DV)) : Ext h (h.new hb z xs).2 := by
  intro b i s k e
  obtain ⟨h1, h2⟩ := Hp.blk_some e
  have : (((h.new hb z xs).2).heap b)[i]? = some k := by
    cases hb <;> cases b <;> simp only [Hp.new, Hp.heap, Bool.false_eq_true, if_false, if_true] at h1 ⊢ <;> first
      | exact h1
      | (rw [List.getElem?_append_left (List.getElem?_eq_some_iff.1 h1).1]; exact h1)
  simp [Hp.blk, this, h2]

theorem u5D {h h' : Hp} (E : Ext h h') : ∀ (n : Nat) (v : DV), u0e h n v = true → u0e h' n v = true ∧ res h' n v = res h n v := by
  intro n
  induction n with
  | zero => intro v hv; simp only [u0e] at hv ⊢; exact ⟨hv, by simp [res, hv]⟩
  | succ n ih =>
    have lists : ∀ cs : List DV, cs.all (u0e h n) = true → cs.all (u0e h' n) = true ∧ cs.map (res h' n) = cs.map (res h n) := by
      intro cs hc
      rw [List.all_eq_true] at hc
      exact ⟨List.all_eq_true.2 fun x hx => (ih x (hc x hx)).1, List.map_congr_left fun x hx => (ih x (hc x hx)).2⟩
    intro v hv
    cases v with
    | sl i s off len =>
      simp only [u0e] at hv
      split at hv
      · rename_i k hk
        simp only [u0e, res, E _ _ _ _ hk, hk]
        rw [Bool.and_eq_true] at hv
        obtain ⟨h1, h2⟩ := hv
        rw [List.all_eq_true] at h2
        refine ⟨by rw [Bool.and_eq_true]; exact ⟨h1, List.all_eq_true.2 fun r hr => (lists r (h2 r hr)).1⟩, ?_⟩
        rw [List.map_congr_left fun r hr => (lists r (h2 r hr)).2]
      · cases hv
    | ptr b i s e o =>
      simp only [u0e] at hv
      split at hv
      · rename_i k hk
        split at hv
        · rename_i r hr
          simp only [u0e, res, E _ _ _ _ hk, hk, hr]
          exact ⟨(lists _ hv).1, by rw [(lists _ hv).2]⟩
        · cases hv
      · cases hv
    | agg cs => simp only [u0e, res] at hv ⊢; exact ⟨(lists cs hv).1, by rw [(lists cs hv).2]⟩
    | tup cs => simp only [u0e, res] at hv ⊢; exact ⟨(lists cs hv).1, by rw [(lists cs hv).2]⟩
    | fn f cs => simp only [u0e, res] at hv ⊢; exact ⟨(lists cs hv).1, by rw [(lists cs hv).2]⟩
    | _ => exact ⟨rfl, rfl⟩

theorem elems_ext {h h' : Hp} (E : Ext h h') {z : Nat} {d : DV} {xs : List (List DV)} (he : elems h z d = some xs) : elems h' z d = some xs := by
  cases d <;> simp only [elems] at he ⊢ <;> try exact he
  split at he
  · rename_i k hk; rw [E _ _ _ _ hk]; exact he
  · cases he

def Opd.isF : Opd → Bool
  | .frz _ => true
  | _ => false
def DOp.cls : DOp → Nat
  | .toStr x | .slice _ x _ _ | .indexAddr _ x _ => if x.isF then 0 else 1
  | .move _ | .pick _ _ _ | .build _ _ | .nilCheck _ | .bin _ _ _ | .eqv _ _ _ _ | .un _ _ | .conv _ _ | .same _ | .fieldAddr _ _ | .field _ _ _ | .indexArr _ _ _ _ | .indexStr _ _ | .indexVal _ _ _ _ _ | .extract _ _ | .len _ _ | .maxm _ _ | .makeFunc _ _ | .chk3 _ _ _ _ => 0
  | .load _ _ | .callq _ _ => 1
  | .alloc _ _ _ | .box _ _ _ | .buildSlice _ _ _ _ | .toBytes _ | .makeSlice _ _ _ _ _ => 2
  | .store _ _ _ _ => 3
  | .append _ _ _ _ _ | .copy _ _ _ _ | .call _ _ _ | .clear _ _ _ => 4

theorem cls0 {K : Oracle} {l : List DV} {h h' : Hp} {op : DOp} {v : DV} (hc : op.cls = 0) (hs : step K l h op = some (v, h')) : h' = h ∧ ∀ h2, step K l h2 op = some (v, h2) := by
  have fz : ∀ x : Opd, x.isF = true → x.ev l = .undef ∨ x.ev l = .nils ∨ (∃ s, x.ev l = .str s) ∨ ∃ z xs, x.ev l = .row z xs := fun x hx => by
    cases x with
    | frz t => simp only [Opd.ev]; cases gt l t <;> simp [DV.fzn]
    | _ => cases hx
  cases op <;> simp [DOp.cls] at hc <;> simp only [step] at hs ⊢
  case toStr x =>
    rcases fz x hc with e | e | ⟨s, e⟩ | ⟨z, xs, e⟩ <;> rw [e] at hs ⊢ <;> simp only [elems] at hs ⊢
    · cases hs
    · cases hs; exact ⟨rfl, fun _ => rfl⟩
    · cases hs
    · split at hs
      · rename_i ys hy
        rw [Option.map_eq_some_iff] at hs
        obtain ⟨b, h1, h2⟩ := hs
        cases h2
        refine ⟨rfl, fun _ => ?_⟩
        simp only [h1, Option.map_some]
      · cases hs
  case slice zz x lo hi =>
    rcases fz x hc with e | e | ⟨s, e⟩ | ⟨z, xs, e⟩ <;> rw [e] at hs ⊢ <;> (try simp only at hs ⊢)
    · cases hs
    all_goals
      split at hs
      · split at hs
        · rename_i hk; cases hs; exact ⟨rfl, fun _ => if_pos hk⟩
        · cases hs
      · cases hs
  case indexAddr z x i =>
    generalize i.ev l = iv at hs ⊢
    rcases fz x hc with e | e | ⟨s, e⟩ | ⟨z', xs, e⟩ <;> rw [e] at hs ⊢
    · cases iv <;> simp at hs
    · cases iv <;> simp at hs
    · cases iv <;> simp at hs
    · cases iv with
      | int k n =>
        simp only at hs ⊢
        by_cases hk : 0 ≤ n ∧ z' = z
        · rw [if_pos hk] at hs
          cases hr : xs[n.toNat]? with
          | none => rw [hr] at hs; cases hs
          | some r =>
            rw [hr] at hs
            cases hs
            refine ⟨rfl, fun _ => ?_⟩
            rw [if_pos hk]
        · rw [if_neg hk] at hs; cases hs
      | _ => simp at hs
  case build zero ps =>
    split at hs
    · rename_i hc'
      rw [Option.map_eq_some_iff] at hs
      obtain ⟨x, hx, hs⟩ := hs
      cases hs
      exact ⟨rfl, fun _ => by rw [if_pos hc', hx]; rfl⟩
    · cases hs
  case maxm mx xs =>
    split at hs
    · rename_i he
      cases hs
      exact ⟨rfl, fun _ => rfl⟩
    · cases hs
  all_goals first
    | (cases hs; exact ⟨rfl, fun _ => rfl⟩)
    | (rw [Option.map_eq_some_iff] at hs
       obtain ⟨x, hx, hs⟩ := hs
       cases hs
       exact ⟨rfl, fun _ => by rw [hx]; rfl⟩)
    | ((repeat' (split at hs)) <;> first
        | (cases hs; done)
        | (cases hs; refine ⟨rfl, fun h2 => ?_⟩; first | rfl | (simp_all; done))
        | (rw [Option.map_eq_some_iff] at hs
           obtain ⟨x, hx, hs⟩ := hs
           cases hs
           refine ⟨rfl, fun h2 => ?_⟩
           first | (simp_all; done)))
theorem cls1 {K : Oracle} {l : List DV} {h h' : Hp} {op : DOp} {v : DV} (hc : op.cls = 1) (hs : step K l h op = some (v, h')) : h' = h ∧ ∀ h2, Ext h h2 → step K l h2 op = some (v, h2) := by
  cases op <;> simp [DOp.cls] at hc
  case load z x =>
    simp only [step] at hs ⊢
    split at hs
    · rename_i b i s e o hx
      split at hs
      · rename_i k hk
        split at hs
        · rename_i r hr
          cases z with
          | some n =>
            simp only at hs ⊢
            split at hs
            · rename_i hn
              cases hs
              refine ⟨rfl, fun h2 E => ?_⟩
              rw [E _ _ _ _ hk]
              simp only [hr]
              exact if_pos hn
            · cases hs
          | none =>
            simp only at hs ⊢
            split at hs
            · rename_i v' hv
              cases hs
              refine ⟨rfl, fun h2 E => ?_⟩
              rw [E _ _ _ _ hk]
              simp only [hr, hv]
            · cases hs
        · cases hs
      · cases hs
    · rename_i r hx
      cases z with
      | some n =>
        simp only at hs ⊢
        split at hs
        · rename_i hn; cases hs; exact ⟨rfl, fun _ _ => if_pos hn⟩
        · cases hs
      | none =>
        simp only at hs ⊢
        split at hs
        · cases hs; exact ⟨rfl, fun _ _ => rfl⟩
        · cases hs
    · cases hs
  case toStr x =>
    simp only [step] at hs ⊢
    split at hs
    · rename_i xs hx
      rw [Option.map_eq_some_iff] at hs
      obtain ⟨b, hb, hs⟩ := hs
      cases hs
      exact ⟨rfl, fun h2 E => by rw [elems_ext E hx]; simp [hb]⟩
    · cases hs
  case slice z x lo hi =>
    simp only [step] at hs ⊢
    split at hs <;> rename_i hx
    all_goals try (cases hs; done)
    all_goals (split at hs) <;> try (cases hs; done)
    all_goals first
      | (rename_i k1 k2
         split at hs
         · rename_i hc'
           cases hs
           exact ⟨rfl, fun _ _ => if_pos hc'⟩
         · cases hs)
      | (rename_i k1 k2
         split at hs
         · rename_i k hk
           split at hs
           · rename_i hc'
             cases hs
             exact ⟨rfl, fun h2 E => by rw [E _ _ _ _ hk]; exact if_pos hc'⟩
           · cases hs
         · cases hs)
  case indexAddr z x i =>
    simp only [step] at hs ⊢
    split at hs
    · rename_i b s off len k n h1 h2
      split at hs
      · rename_i hn
        split at hs
        · rename_i bk hk
          split at hs
          · rename_i hz
            cases hs
            refine ⟨rfl, fun h2 E => ?_⟩
            rw [if_pos hn, E _ _ _ _ hk]
            exact if_pos hz
          · cases hs
        · cases hs
      · cases hs
    · rename_i z' xs k n h1 h2
      split at hs
      · rename_i hn
        split at hs
        · rename_i r hr
          cases hs
          exact ⟨rfl, fun h2 E => by rw [if_pos hn]⟩
        · cases hs
      · cases hs
    · cases hs
  case callq f args =>
    simp only [step] at hs ⊢
    split at hs
    · rename_i hok
      rw [Bool.and_eq_true] at hok
      obtain ⟨o1, o2⟩ := hok
      rw [List.all_eq_true] at o2
      split at hs
      · rename_i v' hq
        split at hs
        · rename_i hfl
          cases hs
          refine ⟨rfl, fun h2 E => ?_⟩
          obtain ⟨e1, e2⟩ := u5D E 8 _ o1
          have e3 : (args.map fun x => Opd.ev l x).all (u0e h2 8) = true := List.all_eq_true.2 fun x hx => (u5D E 8 x (o2 x hx)).1
          have e4 : (args.map fun x => Opd.ev l x).map (res h2 8) = (args.map fun x => Opd.ev l x).map (res h 8) := List.map_congr_left fun x hx => (u5D E 8 x (o2 x hx)).2
          rw [e1, e3, e2, e4, hq]
          simp only [Bool.and_self, if_true]
          exact if_pos hfl
        · cases hs
      · cases hs
    · cases hs
theorem cls2 {K : Oracle} {l : List DV} {h h' : Hp} {op : DOp} {v : DV} (hc : op.cls = 2) (hs : step K l h op = some (v, h')) : Ext h h' := by
  cases op <;> simp [DOp.cls] at hc <;> simp only [step] at hs
  all_goals try (exfalso; (split at hc <;> cases hc); done)
  all_goals (repeat' (split at hs)) <;> first
    | (cases hs; exact Ext.new _ _ _ _)
    | (cases hs; done)


theorem u5v {K : Oracle} {l : List DV} {h h' : Hp} {op : DOp} {v : DV} (hc : op.cls = 0 ∨ op.cls = 1) (hs : step K l h op = some (v, h')) : h' = h := by
  rcases hc with hc | hc
  · exact (cls0 hc hs).1
  · exact (cls1 hc hs).1

def Opd.same : Opd → Opd → Bool
  | .tmp a, .tmp b => a == b
  | _, _ => false
theorem Opd.same_eq {x y : Opd} (h : x.same y = true) : x = y := by
  cases x <;> cases y <;> simp [Opd.same] at h
  rw [h]
def compat (x i : DRow) : Bool :=
  x.o.op.cls == 0 || i.o.op.cls == 0 || (x.o.op.cls == 1 && (i.o.op.cls == 1 || i.o.op.cls == 2)) ||
  (match x.o.op, i.o.op with
   | .load _ _, .store _ _ _ _ => i.ck.contains x.i
   | .load _ _, .call _ _ _ => i.ck.contains x.i
   | .indexAddr _ (.tmp _) _, .call _ _ _ => i.ck.contains x.i
   | .indexAddr _ _ _, .store _ _ _ _ => true
   | .slice _ _ _ _, .store _ _ _ _ => true
   | _, _ => false)
def dstOff (d : Option Nat) (ls : List Nat) : Bool :=
  match d with
  | some t => !ls.contains t
  | none => true
def dstNe (d e : Option Nat) : Bool :=
  match d, e with
  | some t, some u => t != u
  | _, _ => true
def indep (x i : DRow) : Bool := dstOff x.o.dst i.o.looks && dstOff i.o.dst x.o.looks && dstNe x.o.dst i.o.dst && compat x i

theorem putT_gt {l : List DV} {d : Option Nat} {v : DV} {t : Nat} (h : ∀ u, d = some u → u ≠ t) : gt (putT l d v) t = gt l t := by
  cases d with
  | none => rfl
  | some u =>
    simp only [putT, gt, List.getD_eq_getElem?_getD]
    rw [List.getElem?_set_ne (h u rfl)]
theorem u50 {l : List DV} {d e : Option Nat} {v u : DV} (h : dstNe d e = true) : putT (putT l d v) e u = putT (putT l e u) d v := by
  cases d <;> cases e <;> simp only [putT] <;> try rfl
  rename_i a b
  simp only [dstNe, bne_iff_ne, ne_eq] at h
  exact List.set_comm _ _ h
theorem gt_off {l : List DV} {d : Option Nat} {v : DV} {ls : List Nat} (h : dstOff d ls = true) : ∀ t ∈ ls, gt (putT l d v) t = gt l t := fun t ht =>
  putT_gt fun u e hu => by
    subst e; subst hu
    simp only [dstOff, Bool.not_eq_true'] at h
    rw [List.contains_eq_mem] at h
    simp at h
    exact h ht
theorem u30 {l l' : List DV} {g : Option (Nat × Bool)} (h : ∀ t ∈ u3v g, gt l t = gt l' t) : wants l g = wants l' g := by
  cases g with
  | none => rfl
  | some p =>
    obtain ⟨t, b⟩ := p
    simp only [wants]
    rw [h t (by simp [u3v])]

theorem apart_blk {h : Hp} {b b' : Bool} {i s e o i' s' e' o' z z' : Nat} {k k' : Blk} {r : List DV} {cs : List DV} (ha : u26 (.ptr b i s e o) z (.ptr b' i' s' e' o') z' = true) (hk : h.blk b i s = some k) (hr : k.xs[e]? = some r) (hcs : cs.length = z) (hk' : h.blk b' i' s' = some k') {r' : List DV} (hr' : k'.xs[e']? = some r') :
    ∃ k2 r2, (h.put b i { k with xs := k.xs.set e (u07 r o cs) }).blk b' i' s' = some k2 ∧ k2.xs[e']? = some r2 ∧ r2.length = r'.length ∧ ∀ j, o' ≤ j → j < o' + z' → r2[j]? = r'[j]? := by
  obtain ⟨hk1, hks⟩ := Hp.blk_some hk
  obtain ⟨hk1', hks'⟩ := Hp.blk_some hk'
  by_cases hb : b = b' ∧ i = i'
  · obtain ⟨rfl, rfl⟩ := hb
    rw [hk1] at hk1'
    cases hk1'
    have hs : s = s' := hks.symm.trans hks'
    have hput : (h.put b i { k with xs := k.xs.set e (u07 r o cs) }).blk b i s' = some { k with xs := k.xs.set e (u07 r o cs) } := by
      have hi : i < (h.heap b).length := (List.getElem?_eq_some_iff.1 hk1).1
      have : ((h.put b i { k with xs := k.xs.set e (u07 r o cs) }).heap b)[i]? = some { k with xs := k.xs.set e (u07 r o cs) } := by
        cases b <;> simp only [Hp.put, Hp.heap, Bool.false_eq_true, if_false, if_true] at hi ⊢ <;> simp [hi]
      unfold Hp.blk
      rw [this]
      simp only
      rw [if_pos hks']
    refine ⟨{ k with xs := k.xs.set e (u07 r o cs) }, ?_⟩
    by_cases he : e = e'
    · subst he
      rw [hr] at hr'
      cases hr'
      refine ⟨u07 r o cs, hput, ?_, u2N cs r o, fun j h1 h2 => ?_⟩
      · simp only
        rw [List.getElem?_set, if_pos rfl, if_pos (List.getElem?_eq_some_iff.1 hr).1]
      · rw [u39, if_neg]
        simp [u26] at ha
        omega
    · refine ⟨r', hput, ?_, rfl, fun _ _ _ => rfl⟩
      simp only
      rw [List.getElem?_set, if_neg he]; exact hr'
  · refine ⟨k', r', ?_, hr', rfl, fun _ _ _ => rfl⟩
    have : ((h.put b i { k with xs := k.xs.set e (u07 r o cs) }).heap b')[i']? = some k' := by
      cases b <;> cases b' <;> simp only [Hp.put, Hp.heap, Bool.false_eq_true, if_false, if_true] at hk1' ⊢ <;> first
        | exact hk1'
        | (rw [List.getElem?_set, if_neg (by rintro rfl; exact hb ⟨rfl, rfl⟩)]; exact hk1')
    simp [Hp.blk, this, hks']


theorem load_store {K : Oracle} {l : List DV} {h h1 : Hp} {z : Option Nat} {p : Opd} {n : Nat} {x y : Opd} {ap : List (Nat × Opd)} {v v1 : DV} (hs : step K l h (.load z p) = some (v, h)) (ht : step K l h (.store n x y ap) = some (v1, h1)) (ha : ∃ q ∈ ap, q.1 = z.getD 1 ∧ q.2.ev l = p.ev l) :
    step K l h1 (.load z p) = some (v, h1) := by
  simp only [step] at ht
  split at ht
  · rename_i b i s e o hx
    split at ht
    · rename_i k hk
      split at ht
      · rename_i r hr
        split at ht
        · rename_i hc
          cases ht
          obtain ⟨c1, c2, c3, c4⟩ := hc
          obtain ⟨q, hq, hq3, hqp⟩ := ha
          rw [List.all_eq_true] at c4
          have hap := c4 q hq
          rw [hqp, hq3, hx] at hap
          simp only [step] at hs ⊢
          split at hs
          · rename_i b' i' s' e' o' hp
            rw [hp] at hap
            try rw [hp]
            split at hs
            · rename_i k' hk'
              split at hs
              · rename_i r' hr'
                obtain ⟨k2, r2, g1, g2, g3, g4⟩ := apart_blk hap hk hr c1 hk' hr'
                simp only [g1, g2]
                cases z with
                | some m =>
                  simp only [Option.getD_some] at hs g4 ⊢
                  rw [g3]
                  split at hs
                  · rename_i hm
                    cases hs
                    rw [if_pos hm]
                    congr 3
                    apply List.ext_getElem?
                    intro j
                    rw [List.getElem?_take, List.getElem?_take]
                    split
                    · rw [List.getElem?_drop, List.getElem?_drop]; exact g4 _ (by omega) (by omega)
                    · rfl
                  · cases hs
                | none =>
                  simp only [Option.getD_none] at hs g4 ⊢
                  rw [g4 o' (Nat.le_refl _) (by omega)]
                  split at hs
                  · rename_i v' hv'
                    cases hs
                    first
                      | rfl
                      | rw [hv']
                  · cases hs
              · cases hs
            · cases hs
          · rename_i r' hp
            try rw [hp]
            cases z with
            | some m =>
              simp only at hs ⊢
              split at hs
              · rename_i hm; cases hs; exact if_pos hm
              · cases hs
            | none =>
              simp only at hs ⊢
              split at hs
              · cases hs; rfl
              · cases hs
          · cases hs
        · cases ht
      · cases ht
    · cases ht
  · cases ht

theorem load_keeps {K : Oracle} {l : List DV} {h h1 : Hp} {z : Option Nat} {p : Opd} {v : DV} (hs : step K l h (.load z p) = some (v, h)) (hk : keeps h h1 (z.getD 1) (p.ev l) = true) : step K l h1 (.load z p) = some (v, h1) := by
  have one : ∀ (r : List DV) (o : Nat) (u : DV), (r.drop o).take 1 = [u] → r[o]? = some u := by
    intro r o u e
    have := congrArg (fun (x : List DV) => x[0]?) e
    simp only [List.getElem?_take, List.getElem?_drop] at this
    simpa using this
  unfold keeps at hk
  split at hk
  · rename_i a b ha hb
    have := DV.eq_of_beqL _ _ hk
    subst this
    simp only [step] at hs ⊢
    split at hs
    · rename_i b' i s e o hp
      rw [hp] at ha hb
      try rw [hp]
      simp only [look] at ha hb
      split at hb
      · rename_i k1 hk1
        split at hb
        · rename_i r1 hr1
          split at hb
          · rename_i hl1
            split at ha
            · rename_i k0 hk0
              rw [hk0] at hs
              split at ha
              · rename_i r0 hr0
                simp only [hr0] at hs
                split at ha
                · rename_i hl0
                  cases ha
                  simp only [Option.some.injEq] at hb
                  cases z with
                  | some n =>
                    simp only [Option.getD_some] at hl0 hl1 hb hs ⊢
                    rw [if_pos hl0] at hs
                    rw [if_pos hl1, hb]
                    cases hs
                    rfl
                  | none =>
                    simp only [Option.getD_none] at hl0 hl1 hb hs ⊢
                    obtain ⟨u, hu⟩ : ∃ u, r0[o]? = some u := ⟨_, List.getElem?_eq_getElem (by omega)⟩
                    rw [hu] at hs
                    cases hs
                    have e0 : (r0.drop o).take 1 = [v] := by
                      rw [List.drop_eq_getElem_cons (by omega : o < r0.length)]
                      rw [List.getElem?_eq_getElem (by omega)] at hu
                      simp at hu
                      simp [hu]
                    rw [one r1 o v (hb.trans e0)]
                · cases ha
              · cases ha
            · cases ha
          · cases hb
        · cases hb
      · cases hb
    · rename_i r hp
      try rw [hp]
      cases z with
      | some m =>
        simp only at hs ⊢
        split at hs
        · rename_i hm; cases hs; exact if_pos hm
        · cases hs
      | none =>
        simp only at hs ⊢
        split at hs
        · cases hs; rfl
        · cases hs
    · cases hs
  · cases hk

theorem load_call {K : Oracle} {l : List DV} {h h1 : Hp} {z : Option Nat} {p : Opd} {f : Opd} {xs : List Opd} {ap : List (Nat × Opd)} {v v1 : DV} (hs : step K l h (.load z p) = some (v, h)) (ht : step K l h (.call f xs ap) = some (v1, h1)) (ha : ∃ q ∈ ap, q.1 = z.getD 1 ∧ q.2.ev l = p.ev l) :
    step K l h1 (.load z p) = some (v, h1) := by
  simp only [step] at ht
  split at ht
  · rename_i v2 h2 _
    split at ht
    · rename_i hal
      cases ht
      obtain ⟨q, hq, hq3, hqp⟩ := ha
      have := List.all_eq_true.1 hal q hq
      rw [hq3, hqp] at this
      exact load_keeps hs this
    · cases ht
  · cases ht

theorem addr_call {K : Oracle} {l : List DV} {h h1 : Hp} {z : Nat} {p i : Opd} {f : Opd} {xs : List Opd} {ap : List (Nat × Opd)} {v v1 : DV} (hs : step K l h (.indexAddr z p i) = some (v, h)) (ht : step K l h (.call f xs ap) = some (v1, h1)) (ha : ∃ q ∈ ap, q.1 = z ∧ q.2.ev l = p.ev l) :
    step K l h1 (.indexAddr z p i) = some (v, h1) := by
  simp only [step] at ht
  split at ht
  · rename_i v2 h2 _
    split at ht
    · rename_i hal
      cases ht
      obtain ⟨q, hq, hq3, hqp⟩ := ha
      have hk := List.all_eq_true.1 hal q hq
      rw [hq3, hqp] at hk
      simp only [step] at hs ⊢
      split at hs
      · rename_i b s off len k m g1 g2
        rw [g1] at hk
        split at hs
        · rename_i hn
          split at hs
          · rename_i bk hb
            split at hs
            · rename_i hz
              cases hs
              unfold keeps at hk
              split at hk
              · rename_i a c ha hc
                simp only [look] at hc
                split at hc
                · rename_i k2 hk2
                  split at hc
                  · rename_i hz2
                    rw [if_pos hn, if_pos hz2]
                  · cases hc
                · cases hc
              · cases hk
            · cases hs
          · cases hs
        · cases hs
      · split at hs
        · rename_i hn
          split at hs
          · cases hs
            rw [if_pos hn]
          · cases hs
        · cases hs
      · cases hs
    · cases ht
  · cases ht

theorem store_blk {K : Oracle} {l : List DV} {h h1 : Hp} {n : Nat} {x y : Opd} {ap : List (Nat × Opd)} {v1 : DV} (ht : step K l h (.store n x y ap) = some (v1, h1)) {b : Bool} {i s : Nat} {k : Blk} (hk : h.blk b i s = some k) : ∃ k2, h1.blk b i s = some k2 ∧ k2.z = k.z ∧ k2.xs.length = k.xs.length := by
  simp only [step] at ht
  split at ht
  · rename_i b' i' s' e o hx
    split at ht
    · rename_i k' hk'
      split at ht
      · rename_i r hr
        split at ht
        · cases ht
          obtain ⟨g1, g2⟩ := Hp.blk_some hk
          obtain ⟨g1', g2'⟩ := Hp.blk_some hk'
          by_cases hb : b' = b ∧ i' = i
          · obtain ⟨rfl, rfl⟩ := hb
            rw [g1] at g1'
            cases g1'
            have hi : i' < (h.heap b').length := (List.getElem?_eq_some_iff.1 g1).1
            refine ⟨{ k with xs := k.xs.set e (u07 r o (y.ev l).cells) }, ?_, rfl, by simp⟩
            have : ((h.put b' i' { k with xs := k.xs.set e (u07 r o (y.ev l).cells) }).heap b')[i']? = some { k with xs := k.xs.set e (u07 r o (y.ev l).cells) } := by
              cases b' <;> simp only [Hp.put, Hp.heap, Bool.false_eq_true, if_false, if_true] at hi ⊢ <;> simp [hi]
            unfold Hp.blk
            rw [this]
            simp only
            rw [if_pos g2]
          · refine ⟨k, ?_, rfl, rfl⟩
            have : ((h.put b' i' { k' with xs := k'.xs.set e (u07 r o (y.ev l).cells) }).heap b)[i]? = some k := by
              cases b <;> cases b' <;> simp only [Hp.put, Hp.heap, Bool.false_eq_true, if_false, if_true] at g1 ⊢ <;> first
                | exact g1
                | (rw [List.getElem?_set, if_neg (by rintro rfl; exact hb ⟨rfl, rfl⟩)]; exact g1)
            simp [Hp.blk, this, g2]
        · cases ht
      · cases ht
    · cases ht
  · cases ht
theorem addr_store {K : Oracle} {l : List DV} {h h1 : Hp} {n : Nat} {x y : Opd} {ap : List (Nat × Opd)} {v v1 : DV} {op : DOp} (ho : (∃ z a i, op = .indexAddr z a i) ∨ ∃ z a lo hi, op = .slice z a lo hi) (hs : step K l h op = some (v, h)) (ht : step K l h (.store n x y ap) = some (v1, h1)) : step K l h1 op = some (v, h1) := by
  rcases ho with ⟨z, a, i, rfl⟩ | ⟨z, a, lo, hi, rfl⟩
  · simp only [step] at hs ⊢
    split at hs
    · rename_i b s off len k m g1 g2
      split at hs
      · rename_i hn
        split at hs
        · rename_i bk hk
          split at hs
          · rename_i hz
            cases hs
            obtain ⟨k2, e1, e2, _⟩ := store_blk ht hk
            rw [if_pos hn, e1]
            simp only
            rw [if_pos (e2.trans hz)]
          · cases hs
        · cases hs
      · cases hs
    · rename_i z' xs k m g1 g2
      split at hs
      · rename_i hn
        split at hs
        · rename_i r hr
          cases hs
          rw [if_pos hn]
        · cases hs
      · cases hs
    · cases hs
  · simp only [step] at hs ⊢
    split at hs <;> rename_i hx
    all_goals try (cases hs; done)
    all_goals (split at hs) <;> try (cases hs; done)
    all_goals first
      | (rename_i k1 k2
         split at hs
         · rename_i hc'
           cases hs
           exact if_pos hc'
         · cases hs)
      | (rename_i k1 k2
         split at hs
         · rename_i k hk
           split at hs
           · rename_i hc'
             cases hs
             obtain ⟨k2', e1, e2, e3⟩ := store_blk ht hk
             rw [e1]
             simp only [e2, e3]
             exact if_pos hc'
           · cases hs
         · cases hs)

theorem u3p (op : DOp) (ap : List (Nat × Opd)) : (op.withAp ap).cls = op.cls := by cases op <;> rfl
theorem u6c {g : Log} {ck : List Nat} {q : Nat × Opd} : q ∈ pick g ck ↔ ∃ e ∈ g, ck.contains e.1 = true ∧ q = (e.2.1, .val e.2.2) := by
  unfold pick
  rw [List.mem_filterMap]
  constructor
  · rintro ⟨e, he, h⟩
    split at h
    · rename_i hc; cases h; exact ⟨e, he, hc, rfl⟩
    · cases h
  · rintro ⟨e, he, hc, rfl⟩
    exact ⟨e, he, if_pos hc⟩
theorem pick_sub {g g' : Log} {ck : List Nat} (h : ∀ e ∈ g', e ∈ g) : ∀ q ∈ pick g' ck, q ∈ pick g ck := fun q hq => by
  obtain ⟨e, he, h2⟩ := u6c.1 hq
  exact u6c.2 ⟨e, h e he, h2⟩
theorem u3a {i : Nat} {op : DOp} {l : List DV} {g : Log} {e : Nat × Nat × DV} : e ∈ logOf i op l g ↔ e ∈ g ∨ ∃ n p, u3t op = some (n, p) ∧ e = (i, n, p.ev l) := by
  unfold logOf
  cases h : u3t op with
  | none => simp
  | some q =>
    obtain ⟨n, p⟩ := q
    simp only [List.mem_cons]
    constructor
    · rintro (h | h)
      · exact .inr ⟨_, _, rfl, h⟩
      · exact .inl h
    · rintro (h | ⟨_, _, e, h⟩)
      · exact .inr h
      · cases e; exact .inl h
theorem step_fewer {K : Oracle} {l : List DV} {h : Hp} {op : DOp} {ap ap' : List (Nat × Opd)} {R : DV × Hp} (hs : ∀ q ∈ ap', q ∈ ap) (hr : step K l h (op.withAp ap) = some R) : step K l h (op.withAp ap') = some R := by
  cases op <;> simp only [DOp.withAp] at hr ⊢ <;> try exact hr
  · simp only [step] at hr ⊢
    split at hr
    · split at hr
      · split at hr
        · split at hr
          · rename_i hc
            obtain ⟨c1, c2, c3, c4⟩ := hc
            rw [if_pos ⟨c1, c2, c3, List.all_eq_true.2 fun q hq => List.all_eq_true.1 c4 q (hs q hq)⟩]
            exact hr
          · cases hr
        · cases hr
      · cases hr
    · cases hr
  · simp only [step] at hr ⊢
    split at hr
    · split at hr
      · rename_i hal
        rw [if_pos (List.all_eq_true.2 fun q hq => List.all_eq_true.1 hal q (hs q hq))]
        exact hr
      · cases hr
    · cases hr
theorem u4G {K : Oracle} {R : List DV × Hp} : ∀ (os : List DRow) (l : List DV) (h : Hp) (g g' : Log), (∀ e ∈ g', e ∈ g) → draws K os l h g = some R → draws K os l h g' = some R
  | [], l, h, g, g', _, hr => hr
  | o :: r, l, h, g, g', hs, hr => by
    simp only [draws] at hr ⊢
    cases hw : wants l o.o.guard with
    | none => rw [hw] at hr; cases hr
    | some b =>
      rw [hw] at hr
      cases b with
      | false => exact u4G r _ _ g g' hs hr
      | true =>
        simp only at hr ⊢
        cases hst : step K l h (o.o.op.withAp (pick g o.ck)) with
        | none => rw [hst] at hr; cases hr
        | some q =>
          obtain ⟨v, h1⟩ := q
          rw [hst] at hr
          rw [step_fewer (pick_sub hs) hst]
          refine u4G r _ _ _ _ (fun e he => ?_) hr
          rw [u3a] at he ⊢
          exact he.imp (hs e) id

theorem steps_swap {K : Oracle} {l : List DV} {h h1 h2 : Hp} {x i : DRow} {v u : DV} {A B : List (Nat × Opd)} (hc : compat x i = true) (hb : ∀ n p, u3t x.o.op = some (n, p) → i.ck.contains x.i = true → ∃ q ∈ B, q.1 = n ∧ q.2.ev l = p.ev l) (hx : step K l h (x.o.op.withAp A) = some (v, h1)) (hi : step K l h1 (i.o.op.withAp B) = some (u, h2)) :
    ∃ h3, step K l h (i.o.op.withAp B) = some (u, h3) ∧ step K l h3 (x.o.op.withAp A) = some (v, h2) := by
  obtain ⟨xi, xck, ⟨xd, xop, xg⟩⟩ := x
  obtain ⟨ii, ick, ⟨id, iop, ig⟩⟩ := i
  simp only [compat, Bool.or_eq_true, Bool.and_eq_true, beq_iff_eq] at hc hb hx hi ⊢
  rcases hc with ((hc | hc) | ⟨hc1, hc2⟩) | hc
  · obtain ⟨rfl, g⟩ := cls0 (by rw [u3p]; exact hc) hx
    exact ⟨h2, hi, g h2⟩
  · obtain ⟨rfl, g⟩ := cls0 (by rw [u3p]; exact hc) hi
    exact ⟨h, g h, hx⟩
  · obtain ⟨rfl, g⟩ := cls1 (by rw [u3p]; exact hc1) hx
    rcases hc2 with hc2 | hc2
    · obtain ⟨rfl, g'⟩ := cls1 (by rw [u3p]; exact hc2) hi
      exact ⟨_, hi, hx⟩
    · exact ⟨h2, hi, g h2 (cls2 (by rw [u3p]; exact hc2) hi)⟩
  · split at hc
    · rename_i z p n q y ap
      simp only [DOp.withAp] at hx hi ⊢
      have h0 : h1 = h := (cls1 rfl hx).1
      subst h0
      exact ⟨h2, hi, load_store hx hi (hb _ p rfl hc)⟩
    · rename_i z p f xs ap
      simp only [DOp.withAp] at hx hi ⊢
      have h0 : h1 = h := (cls1 rfl hx).1
      subst h0
      exact ⟨h2, hi, load_call hx hi (hb _ p rfl hc)⟩
    · rename_i z t j f xs ap
      simp only [DOp.withAp] at hx hi ⊢
      have h0 : h1 = h := u5v (by simp only [DOp.cls]; split <;> simp) hx
      subst h0
      exact ⟨h2, hi, addr_call hx hi (hb _ (.tmp t) rfl hc)⟩
    · simp only [DOp.withAp] at hx hi ⊢
      have h0 : h1 = h := u5v (by simp only [DOp.cls]; split <;> simp) hx
      subst h0
      exact ⟨h2, hi, addr_store (.inl ⟨_, _, _, rfl⟩) hx hi⟩
    · simp only [DOp.withAp] at hx hi ⊢
      have h0 : h1 = h := u5v (by simp only [DOp.cls]; split <;> simp) hx
      subst h0
      exact ⟨h2, hi, addr_store (.inr ⟨_, _, _, _, rfl⟩) hx hi⟩
    · cases hc

theorem compat_log {x i : DRow} (hc : compat x i = true) (l : List DV) (g : Log) : x.o.op.withAp (pick (logOf i.i i.o.op l g) x.ck) = x.o.op.withAp (pick g x.ck) := by
  obtain ⟨xi, xck, ⟨xd, xop, xg⟩⟩ := x
  obtain ⟨ii, ick, ⟨id, iop, ig⟩⟩ := i
  cases xop <;> simp only [DOp.withAp] <;> cases iop <;> first
    | rfl
    | (simp [compat, DOp.cls] at hc; done)
    | (rename_i z y j
       cases y <;> first
         | rfl
         | (simp [compat, DOp.cls, Opd.isF] at hc; done))
theorem u3i {op : DOp} {g : Log} {ck : List Nat} {t : Nat} (h : t ∈ (op.withAp (pick g ck)).looks) : t ∈ op.looks := by
  have hv : ∀ t : Nat, t ∉ (pick g ck).flatMap fun p => p.2.looks := by
    intro t ht
    obtain ⟨q, hq, ht⟩ := List.mem_flatMap.1 ht
    obtain ⟨e, _, _, rfl⟩ := u6c.1 hq
    cases ht
  cases op <;> simp only [DOp.withAp] at h <;> try exact h
  all_goals
    simp only [DOp.looks, List.mem_append] at h ⊢
    rcases h with h | h
    · exact .inl h
    · exact absurd h (hv t)

theorem u4h {i : Nat} {op : DOp} {l l' : List DV} {g : Log} (h : ∀ t ∈ op.looks, gt l t = gt l' t) : logOf i op l g = logOf i op l' g := by
  unfold logOf
  cases hl : u3t op with
  | none => rfl
  | some q =>
    obtain ⟨n, p⟩ := q
    have hp : ∀ t ∈ p.looks, t ∈ op.looks := by
      intro t ht
      cases op with
      | load z x =>
        simp only [u3t, Option.some.injEq, Prod.mk.injEq] at hl
        obtain ⟨rfl, rfl⟩ := hl
        simpa [DOp.looks] using ht
      | indexAddr z x i =>
        cases x with
        | tmp u =>
          simp only [u3t, Option.some.injEq, Prod.mk.injEq] at hl
          obtain ⟨rfl, rfl⟩ := hl
          simp only [DOp.looks, List.mem_append]
          exact .inl ht
        | _ => simp [u3t] at hl
      | _ => simp [u3t] at hl
    simp only [Opd.ev_same fun t ht => h t (hp t ht)]

theorem draws_swap {K : Oracle} {x i : DRow} {r : List DRow} {l : List DV} {h : Hp} {g : Log} {R : List DV × Hp} (hd : indep x i = true) (hr : draws K (x :: i :: r) l h g = some R) : draws K (i :: x :: r) l h g = some R := by
  simp only [indep, Bool.and_eq_true] at hd
  obtain ⟨⟨⟨d1, d2⟩, d3⟩, d4⟩ := hd
  have d3' : dstNe i.o.dst x.o.dst = true := by
    cases hx : x.o.dst <;> cases hi : i.o.dst <;> simp_all [dstNe]
    exact fun e => d3 e.symm
  have lx : ∀ v, (∀ t ∈ i.o.op.looks, gt (putT l x.o.dst v) t = gt l t) ∧ ∀ t ∈ u3v i.o.guard, gt (putT l x.o.dst v) t = gt l t := fun v =>
    ⟨fun t ht => gt_off d1 t (by simp [DOper.looks, ht]), fun t ht => gt_off d1 t (by simp [DOper.looks, ht])⟩
  have li : ∀ v, (∀ t ∈ x.o.op.looks, gt (putT l i.o.dst v) t = gt l t) ∧ ∀ t ∈ u3v x.o.guard, gt (putT l i.o.dst v) t = gt l t := fun v =>
    ⟨fun t ht => gt_off d2 t (by simp [DOper.looks, ht]), fun t ht => gt_off d2 t (by simp [DOper.looks, ht])⟩
  simp only [draws] at hr ⊢
  cases wx : wants l x.o.guard with
  | none => rw [wx] at hr; cases hr
  | some bx =>
    rw [wx] at hr
    cases bx with
    | false =>
      simp only at hr
      rw [u30 (lx (.tup [])).2] at hr
      cases wi : wants l i.o.guard with
      | none => rw [wi] at hr; cases hr
      | some bi =>
        rw [wi] at hr
        cases bi with
        | false =>
          simp only at hr ⊢
          rw [u30 (li (.tup [])).2, wx]
          simp only
          rw [u50 d3']; exact hr
        | true =>
          simp only at hr ⊢
          rw [u4Q fun t ht => (lx (.tup [])).1 t (u3i ht)] at hr
          cases si : step K l h (i.o.op.withAp (pick g i.ck)) with
          | none => rw [si] at hr; cases hr
          | some q =>
            obtain ⟨u, h1⟩ := q
            rw [si] at hr
            simp only at hr ⊢
            rw [u30 (li u).2, wx]
            simp only
            rw [u50 d3', ← u4h (lx (.tup [])).1]; exact hr
    | true =>
      simp only at hr
      cases sx : step K l h (x.o.op.withAp (pick g x.ck)) with
      | none => rw [sx] at hr; cases hr
      | some q =>
        obtain ⟨v, h1⟩ := q
        rw [sx] at hr
        simp only at hr
        rw [u30 (lx v).2] at hr
        cases wi : wants l i.o.guard with
        | none => rw [wi] at hr; cases hr
        | some bi =>
          rw [wi] at hr
          cases bi with
          | false =>
            simp only at hr ⊢
            rw [u30 (li (.tup [])).2, wx]
            simp only
            rw [u4Q fun t ht => (li (.tup [])).1 t (u3i ht), sx]
            simp only
            rw [u50 d3', u4h (li (.tup [])).1]; exact hr
          | true =>
            simp only at hr ⊢
            rw [u4Q fun t ht => (lx v).1 t (u3i ht)] at hr
            cases si : step K l h1 (i.o.op.withAp (pick (logOf x.i x.o.op l g) i.ck)) with
            | none => rw [si] at hr; cases hr
            | some q =>
              obtain ⟨u, h2⟩ := q
              rw [si] at hr
              simp only at hr
              obtain ⟨h3, g1, g2⟩ := steps_swap d4 (fun n p hp hck => ⟨(n, .val (p.ev l)), u6c.2 ⟨(x.i, n, p.ev l), u3a.2 (.inr ⟨n, p, hp, rfl⟩), hck, rfl⟩, rfl, rfl⟩) sx si
              rw [step_fewer (pick_sub fun e he => u3a.2 (.inl he)) g1]
              simp only
              rw [u30 (li u).2, wx]
              simp only
              rw [compat_log d4, u4Q fun t ht => (li u).1 t (u3i ht), g2]
              simp only
              rw [u50 d3']
              refine u4G r _ _ _ _ (fun e he => ?_) hr
              rw [u4h (li u).1] at he
              rw [u4h (lx v).1]
              rw [u3a, u3a] at he
              rw [u3a, u3a]
              rcases he with (he | he) | he
              · exact .inl (.inl he)
              · exact .inr he
              · exact .inl (.inr he)

theorem u3J {K : Oracle} {i : DRow} {r : List DRow} {R : List DV × Hp} : ∀ (q : List DRow), (∀ x ∈ q, indep x i = true) → ∀ (l : List DV) (h : Hp) (g : Log), draws K (q ++ i :: r) l h g = some R → draws K (i :: (q ++ r)) l h g = some R
  | [], _, l, h, g, hr => hr
  | x :: q, hd, l, h, g, hr => by
    refine draws_swap (hd x (by simp)) ?_
    have step1 : ∀ l h g, draws K (q ++ i :: r) l h g = some R → draws K (i :: (q ++ r)) l h g = some R := u3J q fun y hy => hd y (List.mem_cons_of_mem _ hy)
    rw [List.cons_append] at hr
    show draws K (x :: i :: (q ++ r)) l h g = some R
    rw [draws]
    rw [draws] at hr
    cases hw : wants l x.o.guard with
    | none => rw [hw] at hr; cases hr
    | some b =>
      rw [hw] at hr
      cases b with
      | true =>
        simp only at hr ⊢
        cases hs : step K l h (x.o.op.withAp (pick g x.ck)) with
        | none => rw [hs] at hr; cases hr
        | some p =>
          obtain ⟨v, h1⟩ := p
          rw [hs] at hr
          simp only at hr ⊢
          exact step1 _ _ _ hr
      | false =>
        simp only at hr ⊢
        exact step1 _ _ _ hr

end Go.Dv
