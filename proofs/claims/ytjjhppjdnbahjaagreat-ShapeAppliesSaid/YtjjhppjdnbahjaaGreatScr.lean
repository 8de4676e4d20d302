/- What the functions that write over an answer come to: they end, and boxes that were there stay. -/
import Derived.Test.YtjjhppjdnbahjaaGreatDvI
set_option linter.unusedVariables false
set_option linter.unusedSimpArgs false
open Go (IntKind)
namespace Go.Dv
theorem u0u (l : List DV) (a : Nat) (v : DV) (b : Nat) : gt (l.set a v) b = if a = b ∧ a < l.length then v else gt l b := by
  unfold gt
  simp only [List.getD_eq_getElem?_getD, List.getElem?_set]
  by_cases h : a = b
  · subst h
    by_cases h2 : a < l.length
    · simp [h2]
    · simp [h2]
  · simp [h]
theorem u27 {n : Int} (h1 : -9223372036854775808 ≤ n) (h2 : n ≤ 9223372036854775807) : IntKind.wrap .i64 n = n := by rw [IntKind.wrap_i64]; omega
structure Keep (Z : List Nat) (h h' : Hp) : Prop where
  b : ∀ q, q < h.B.length → h'.B[q]? = h.B[q]?
  r : ∀ (j : Nat) (k : Blk), h.R[j]? = some k → ∃ k' : Blk, h'.R[j]? = some k' ∧ k'.s = k.s ∧ k'.z = k.z ∧ k'.xs.length = k.xs.length ∧ (k.z ∉ Z → k' = k) ∧ ∀ (e : Nat) (r : List DV), k.xs[e]? = some r → ∃ r', k'.xs[e]? = some r' ∧ (r.length = k.z → r'.length = k.z)
theorem Keep.refl (Z : List Nat) (h : Hp) : Keep Z h h := ⟨fun _ _ => rfl, fun j k e => ⟨k, e, rfl, rfl, rfl, fun _ => rfl, fun e r hr => ⟨r, hr, id⟩⟩⟩
theorem Keep.trans {Z : List Nat} {a b c : Hp} (hab : Keep Z a b) (hbc : Keep Z b c) (hl : a.B.length ≤ b.B.length) : Keep Z a c := by
  refine ⟨fun q hq => (hbc.b q (Nat.lt_of_lt_of_le hq hl)).trans (hab.b q hq), fun j k e => ?_⟩
  obtain ⟨k1, e1, s1, z1, n1, u1, r1⟩ := hab.r j k e
  obtain ⟨k2, e2, s2, z2, n2, u2, r2⟩ := hbc.r j k1 e1
  refine ⟨k2, e2, s2.trans s1, z2.trans z1, n2.trans n1, fun hz => (u2 (by rw [z1]; exact hz)).trans (u1 hz), fun e r hr => ?_⟩
  obtain ⟨r', h1, h2⟩ := r1 e r hr
  obtain ⟨r'', h3, h4⟩ := r2 e r' h1
  exact ⟨r'', h3, fun h => by have := h4 (by rw [z1]; exact h2 h); rwa [z1] at this⟩
theorem Keep.more {Y Z : List Nat} {a b : Hp} (h : Keep Y a b) (hs : ∀ z, z ∈ Y → z ∈ Z) : Keep Z a b := ⟨h.b, fun j k e => by
  obtain ⟨k1, e1, s1, z1, n1, u1, r1⟩ := h.r j k e
  exact ⟨k1, e1, s1, z1, n1, fun hz => u1 fun hy => hz (hs _ hy), r1⟩⟩
theorem Keep.put {Z : List Nat} {h : Hp} {i : Nat} {k : Blk} {xs : List (List DV)} (hk : h.R[i]? = some k) (hz : k.z ∈ Z) (hl : xs.length = k.xs.length) (hr : ∀ (e : Nat) (r r' : List DV), k.xs[e]? = some r → xs[e]? = some r' → r.length = k.z → r'.length = k.z) : Keep Z h (h.put true i { k with xs := xs }) := by
  refine ⟨fun q _ => by simp [Hp.put], fun j k0 e0 => ?_⟩
  simp only [Hp.put, if_true]
  by_cases hj : i = j
  · subst hj
    rw [hk] at e0; cases e0
    refine ⟨{ k with xs := xs }, by rw [List.getElem?_set_self (u02 hk)], rfl, rfl, hl, fun h => absurd hz h, fun e' r0 h0 => ?_⟩
    have hlt : e' < xs.length := by rw [hl]; exact u02 h0
    exact ⟨xs[e'], List.getElem?_eq_getElem hlt, hr e' r0 _ h0 (List.getElem?_eq_getElem hlt)⟩
  · exact ⟨k0, by rw [List.getElem?_set_ne hj]; exact e0, rfl, rfl, rfl, fun _ => rfl, fun e' r0 h0 => ⟨r0, h0, id⟩⟩
theorem Keep.push {Z : List Nat} {h : Hp} {z : Nat} {xs : List (List DV)} : Keep Z h (h.new true z xs).2 := by
  refine ⟨fun q _ => by simp [Hp.new], fun j k e => ⟨k, ?_, rfl, rfl, rfl, fun _ => rfl, fun e r hr => ⟨r, hr, id⟩⟩⟩
  simp only [Hp.new, if_true]
  rw [List.getElem?_append_left (u02 e)]; exact e
def InBlk (h : Hp) (z : Nat) (d : DV) (n : Nat) : Prop := (d = .nils ∧ n = 0) ∨ ∃ i m off k, d = .sl i m off n ∧ h.R[i]? = some k ∧ k.s = m ∧ k.z = z ∧ off + n ≤ k.xs.length ∧ ∀ e, off ≤ e → e < off + n → ∃ r, k.xs[e]? = some r ∧ r.length = z
theorem InBlk.keep {Z : List Nat} {h h' : Hp} (K : Keep Z h h') {z : Nat} {d : DV} {n : Nat} (B : InBlk h z d n) : InBlk h' z d n := by
  rcases B with B | ⟨i, m, off, k, h1, h2, h3, h4, h5, h6⟩
  · exact .inl B
  · obtain ⟨k', g1, g2, g3, g4, _, g6⟩ := K.r i k h2
    refine .inr ⟨i, m, off, k', h1, g1, g2.trans h3, g3.trans h4, by rw [g4]; exact h5, fun e a b => ?_⟩
    obtain ⟨r, r1, r2⟩ := h6 e a b
    obtain ⟨r', q1, q2⟩ := g6 e r r1
    exact ⟨r', q1, (q2 (r2.trans h4.symm)).trans h4⟩
section
variable {tbl : Table}
def numB : DC := .seq (.seq (.ops [⟨some 3, .move (.tmp 2), none⟩, ⟨some 4, .move (.tmp 0), none⟩, ⟨some 5, .len false (.tmp 4), none⟩, ⟨some 6, .bin .lss (.tmp 3) (.tmp 5), none⟩]) (.cond (.tmp 6) .skip (.exit 0)))
  (.seq (.block 1 (.ops [⟨some 9, .move (.tmp 0), none⟩, ⟨some 10, .move (.tmp 2), none⟩, ⟨some 11, .indexAddr 1 (.tmp 9) (.tmp 10), none⟩, ⟨none, .store 1 (.tmp 11) (.val (.int .i64 (-99))) [], none⟩]))
    (.ops [⟨some 7, .move (.tmp 2), none⟩, ⟨some 8, .bin .add (.tmp 7) (.val (.int .i64 1)), none⟩, ⟨some 2, .move (.tmp 8), none⟩]))
def numD : DF := ⟨false, 15, 1, .seq (.seq (.ops [⟨some 2, .move (.val (.int .i64 0)), none⟩]) (.block 0 (.loop numB)))
  (.ops [⟨some 12, .move (.tmp 0), none⟩, ⟨some 13, .buildSlice 1 1 [.int .i64 0] [(0, .val (.int .i64 5))], none⟩, ⟨some 14, .append 1000001 8 false (.tmp 12) (.tmp 13), none⟩, ⟨some 0, .move (.tmp 14), none⟩]), []⟩
theorem num_round {l : List DV} {h : Hp} {i m off len c : Nat} {k : Blk} {r : List DV} (hl : l.length = 15) (h0 : gt l 0 = .sl i m off len) (h2 : gt l 2 = .int .i64 (c : Int)) (hc : c < len) (hn : len ≤ 1000000)
    (hb : h.R[i]? = some k) (hs : k.s = m) (hz : k.z = 1) (hr : k.xs[off + c]? = some r) (hr1 : r.length = 1) :
    ∃ l', ex tbl numB l h = some (.normal, l', h.put true i { k with xs := k.xs.set (off + c) (u07 r 0 [.int .i64 (-99)]) }) ∧ l'.length = 15 ∧ gt l' 0 = gt l 0 ∧ gt l' 2 = .int .i64 ((c + 1 : Nat) : Int) := by
  have hbk := u0x hb hs
  have hlt : (c : Int) < (len : Int) := by omega
  have hw : IntKind.wrap .i64 ((c : Int) + 1) = (c : Int) + 1 := u27 (by omega) (by omega)
  refine ⟨((((((((((l.set 3 (.int .i64 (c : Int))).set 4 (.sl i m off len)).set 5 (.int .i64 (len : Int))).set 6 (.bool true)).set 9 (.sl i m off len)).set 10 (.int .i64 (c : Int))).set 11 (.ptr true i m (off + c) 0)).set 7 (.int .i64 (c : Int))).set 8 (.int .i64 ((c : Int) + 1))).set 2 (.int .i64 ((c : Int) + 1))), ?_, ?_, ?_, ?_⟩
  · simp [numB, u0z, u0M, u15, u0w, u1C, ops, wants, step, putT, u0u, Opd.ev, hl, h0, h2, binOp, intOp, hlt, hc, hbk, hz, hr, hr1, hw, DV.cells, DV.isCell, u07]
  · simp [hl]
  · simp [u0u, hl]
  · simp [u0u, hl]
theorem Keep.row {Z : List Nat} {h : Hp} {i e : Nat} {k : Blk} {r r' : List DV} (hk : h.R[i]? = some k) (hz : k.z ∈ Z) (hr : k.xs[e]? = some r) (hl : r'.length = r.length) : Keep Z h (h.put true i { k with xs := k.xs.set e r' }) :=
  Keep.put hk hz (by simp) fun e' r0 r1 h0 h1 hh => by
    rw [List.getElem?_set] at h1
    by_cases he : e = e'
    · subst he
      rw [if_pos rfl, if_pos (u02 hr)] at h1
      cases h1
      rw [hr] at h0; cases h0
      rw [hl]; exact hh
    · rw [if_neg he, h0] at h1; cases h1; exact hh
theorem num_end {l : List DV} {h : Hp} {d : DV} {c : Nat} (hl : l.length = 15) (h0 : gt l 0 = d) (h2 : gt l 2 = .int .i64 (c : Int)) (hd : d = .nils ∧ c = 0 ∨ ∃ i m off, d = .sl i m off c) :
    ∃ l', ex tbl numB l h = some (.exit 0, l', h) ∧ l'.length = 15 ∧ gt l' 0 = d := by
  rcases hd with ⟨rfl, rfl⟩ | ⟨i, m, off, rfl⟩
  · refine ⟨(((l.set 3 (.int .i64 0)).set 4 .nils).set 5 (.int .i64 0)).set 6 (.bool false), ?_, by simp [hl], by simp [u0u, hl, h0]⟩
    simp [numB, u0z, u0M, u15, u0w, u1C, u3c, ops, wants, step, putT, u0u, Opd.ev, hl, h0, h2, binOp, intOp]
  · refine ⟨(((l.set 3 (.int .i64 (c : Int))).set 4 (.sl i m off c)).set 5 (.int .i64 (c : Int))).set 6 (.bool false), ?_, by simp [hl], by simp [u0u, hl, h0]⟩
    simp [numB, u0z, u0M, u15, u0w, u1C, u3c, ops, wants, step, putT, u0u, Opd.ev, hl, h0, h2, binOp, intOp]
theorem num_loop {d : DV} {len : Nat} (hn : len ≤ 1000000) : ∀ (n c : Nat), c + n = len → ∀ {l : List DV} {h : Hp}, l.length = 15 → gt l 0 = d → gt l 2 = .int .i64 (c : Int) → InBlk h 1 d len →
    ∃ l' h', ex tbl (.loop numB) l h = some (.exit 0, l', h') ∧ l'.length = 15 ∧ gt l' 0 = d ∧ Keep [1] h h' ∧ h'.B = h.B
  | 0, c, hc, l, h, hl, h0, h2, B => by
    obtain ⟨l', e1, e2, e3⟩ := num_end (tbl := tbl) (h := h) hl h0 h2 (by
      rcases B with ⟨h, h'⟩ | ⟨i, m, off, _, h, _⟩
      · exact .inl ⟨h, by omega⟩
      · exact .inr ⟨i, m, off, by rw [h]; congr 1; omega⟩)
    exact ⟨l', h, by rw [u2V, e1], e2, e3, Keep.refl _ _, rfl⟩
  | n + 1, c, hc, l, h, hl, h0, h2, B => by
    have B' := B
    rcases B with ⟨_, h'⟩ | ⟨i, m, off, k, rfl, b1, b2, b3, b4, b5⟩
    · omega
    · obtain ⟨r, r1, r2⟩ := b5 (off + c) (by omega) (by omega)
      obtain ⟨l1, e1, e2, e3, e4⟩ := num_round (tbl := tbl) hl h0 h2 (by omega) hn b1 b2 b3 r1 r2
      have K : Keep [1] h _ := Keep.row (r' := u07 r 0 [.int .i64 (-99)]) b1 (by rw [b3]; simp) r1 (u2I _ _ _)
      obtain ⟨l2, h', f1, f2, f3, f4, f5⟩ := num_loop hn n (c + 1) (by omega) e2 (e3.trans h0) e4 (B'.keep K)
      exact ⟨l2, h', by rw [u2V, e1]; exact f1, f2, f3, K.trans f4 (by simp [Hp.put]), f5.trans (by simp [Hp.put])⟩
theorem num_run {f : FuncId} (hp : tbl.prim f = none) (hd : tbl.fn f = some numD) {d : DV} {len : Nat} {h : Hp} (hn : len ≤ 1000000) (B : InBlk h 1 d len) :
    ∃ h', callK tbl (ex tbl) (.fn f []) [d] h = some (.tup [], h') ∧ Keep [1] h h' ∧ h'.B = h.B := by
  have hs : ∀ (l : List DV) (h : Hp), ex tbl (.block 0 (.loop numB)) l h = match ex tbl (.loop numB) l h with
      | some (.exit id', l', h') => if id' = 0 then some (.normal, l', h') else some (.exit id', l', h')
      | x => x := fun l h => u0w ..
  obtain ⟨l1, h1, e1, e2, e3, e4, e5⟩ := num_loop (tbl := tbl) (d := d) hn len 0 (by omega) (l := ([d] ++ List.replicate 14 DV.undef).set 2 (.int .i64 0)) (h := h) rfl rfl rfl B
  have B1 := B.keep e4
  have room1 : room (len + 1) 8 = true := by
    simp only [room, decide_eq_true_eq]; omega
  have fin : ∃ l2 h2, ex tbl (.ops [⟨some 12, .move (.tmp 0), none⟩, ⟨some 13, .buildSlice 1 1 [.int .i64 0] [(0, .val (.int .i64 5))], none⟩, ⟨some 14, .append 1000001 8 false (.tmp 12) (.tmp 13), none⟩, ⟨some 0, .move (.tmp 14), none⟩]) l1 h1 = some (.normal, l2, h2) ∧ Keep [1] h1 h2 ∧ h2.B = h1.B := by
    let hb := (h1.new true 1 [[.int .i64 5]]).2
    have K : Keep [1] h1 hb := Keep.push
    have hnew : hb.blk true h1.R.length h1.c = some ⟨h1.c, 1, [[.int .i64 5]]⟩ := by
      refine u0x ?_ rfl
      simp [hb, Hp.new]
    have hbB : hb.B = h1.B := by simp [hb, Hp.new]
    have B2 := B1.keep K
    have run : ∀ {h3 : Hp}, u2K hb 1 8 d [[.int .i64 5]] = some (.undef, h3) → ex tbl (.ops [⟨some 12, .move (.tmp 0), none⟩, ⟨some 13, .buildSlice 1 1 [.int .i64 0] [(0, .val (.int .i64 5))], none⟩, ⟨some 14, .append 1000001 8 false (.tmp 12) (.tmp 13), none⟩, ⟨some 0, .move (.tmp 14), none⟩]) l1 h1 =
        some (.normal, (((l1.set 12 d).set 13 (.sl h1.R.length h1.c 0 1)).set 14 .undef).set 0 .undef, h3) := by
      intro h3 ha
      have hel : elems hb 1 (.sl h1.R.length h1.c 0 1) = some [[.int .i64 5]] := by
        simp [elems, hnew]
      simp [u0M, ops, wants, step, putT, u0u, Opd.ev, e2, e3, fill, chunk, u07, DV.cells, DV.isCell]
      have e6 : (h1.new true 1 [[DV.int .i64 5]]).1 = h1.R.length := by simp [Hp.new]
      simp only [e6]
      have hel' : u1n (h1.new true 1 [[DV.int .i64 5]]).2 1 false (.sl h1.R.length h1.c 0 1) = some [[.int .i64 5]] := hel
      have ha' : u2K (h1.new true 1 [[DV.int .i64 5]]).2 1 8 d [[.int .i64 5]] = some (.undef, h3) := ha
      simp only [hel', ha']
    rcases B2 with ⟨rfl, _⟩ | ⟨i, m, off, k, rfl, b1, b2, b3, b4, b5⟩
    · exact ⟨_, _, run (by simp [u2K, show room 1 8 = true from by decide]), K, hbB⟩
    · have hbk := u0x b1 b2
      by_cases htip : off + len = k.xs.length
      · exact ⟨_, _, run (by simp [u2K, hbk, b3, room1, htip]), K, hbB⟩
      · have hin : off + len + 1 ≤ k.xs.length := by omega
        refine ⟨_, _, run (h3 := hb.put true i { k with xs := k.xs.take (off + len) ++ [[.int .i64 5]] ++ k.xs.drop (off + len + 1) }) (by simp [u2K, hbk, b3, room1, htip, hin]), ?_, by simp only [Hp.put, if_true]; exact hbB⟩
        refine K.trans (Keep.put b1 (by rw [b3]; simp) (by simp; omega) fun e r r' h0 h1 hh => ?_) (by rw [hbB]; exact Nat.le_refl _)
        rw [b3] at hh ⊢
        rw [List.append_assoc, List.getElem?_append] at h1
        split at h1
        · rw [List.getElem?_take] at h1
          split at h1
          · rw [h0] at h1; cases h1; exact hh
          · cases h1
        · rename_i hge
          simp only [List.length_take] at hge h1
          rw [show min (off + len) k.xs.length = off + len by omega] at hge h1
          cases he : e - (off + len) with
          | zero => rw [he] at h1; simp at h1; rw [← h1]; rfl
          | succ q =>
            rw [he] at h1
            simp only [List.cons_append, List.nil_append, List.getElem?_cons_succ, List.getElem?_drop] at h1
            rw [show off + len + 1 + q = e by omega, h0] at h1
            cases h1; exact hh
  obtain ⟨l2, h2, g1, g2, g3⟩ := fin
  refine ⟨h2, ?_, e4.trans g2 (by rw [e5]; exact Nat.le_refl _), g3.trans e5⟩
  have hbody : ex tbl numD.body ([d] ++ List.replicate 14 DV.undef) h = some (.normal, l2, h2) := by
    show ex tbl (.seq (.seq (.ops [⟨some 2, .move (.val (.int .i64 0)), none⟩]) (.block 0 (.loop numB))) _) _ h = _
    rw [u0z, u0z]
    have e0 : ex tbl (.ops [⟨some 2, .move (.val (.int .i64 0)), none⟩]) ([d] ++ List.replicate 14 DV.undef) h = some (.normal, ([d] ++ List.replicate 14 DV.undef).set 2 (.int .i64 0), h) := by
      simp [u0M, ops, wants, step, putT, Opd.ev]
    rw [e0]
    simp only
    rw [hs, e1]
    simp only [if_true]
    exact g1
  simp only [callK, hp, hd, numD, List.append_nil, Bool.false_eq_true, if_false, List.length_cons, List.length_nil]
  rw [if_neg (by simp)]
  show (match ex tbl numD.body ([d] ++ List.replicate 14 DV.undef) h with | some (.ret, l, h') => _ | some (.normal, l, h') => _ | _ => none) = _
  rw [hbody]
  rfl
theorem Keep.box {Z : List Nat} {h : Hp} {z : Nat} {xs : List (List DV)} : Keep Z h (h.new false z xs).2 := by
  refine ⟨fun q hq => ?_, fun j k e => ⟨k, ?_, rfl, rfl, rfl, fun _ => rfl, fun e r hr => ⟨r, hr, id⟩⟩⟩
  · simp only [Hp.new, Bool.false_eq_true, if_false]
    rw [List.getElem?_append_left hq]
  · simpa [Hp.new] using e
def opD (num : FuncId) : DF := ⟨false, 5, 1, .seq (.ops [⟨some 1, .box false 12 (.tmp 0), none⟩]) (.ops [⟨some 2, .fieldAddr 3 (.tmp 1), none⟩, ⟨some 3, .load none (.tmp 2), none⟩, ⟨some 4, .call (.val (.fn num [])) [.tmp 3] [], none⟩]), []⟩
theorem op_run {f num : FuncId} (hp : tbl.prim f = none) (hd : tbl.fn f = some (opD num)) (np : tbl.prim num = none) (nd : tbl.fn num = some numD) {cs : List DV} {d : DV} {len : Nat} {h : Hp} (hl : cs.length = 12) (hc : cs.all DV.isCell = true) (h3 : cs[3]? = some d)
    (hn : len ≤ 1000000) (B : InBlk h 1 d len) : ∃ h', callK tbl (ex tbl) (.fn f []) [.agg cs] h = some (.tup [], h') ∧ Keep [1] h h' ∧ h.B.length ≤ h'.B.length := by
  have K : Keep [1] h (h.new false 12 [cs]).2 := Keep.box
  obtain ⟨h', e1, e2, e3⟩ := num_run np nd hn (B.keep K)
  have hbB : (h.new false 12 [cs]).2.B = h.B ++ [⟨h.c, 12, [cs]⟩] := by simp [Hp.new]
  have hblk : (h.new false 12 [cs]).2.blk false (h.new false 12 [cs]).1 h.c = some ⟨h.c, 12, [cs]⟩ := by simp [Hp.new, Hp.blk, Hp.heap]
  refine ⟨h', ?_, K.trans e2 (by rw [hbB]; simp), by rw [e3, hbB]; simp⟩
  have hc' : ∀ x ∈ cs, x.isCell = true := fun x hx => List.all_eq_true.1 hc x hx
  have e1' : (calls tbl (ex tbl)).k (.fn num []) [d] (h.new false 12 [cs]).2 = some (.tup [], h') := e1
  simp [callK, hp, hd, opD, u0z, u0M, ops, wants, step, putT, gt, Opd.ev, DV.cells, hl, hc', u29, u2k]
  rw [if_pos hc']
  simp [hblk, h3, e1']
def u2p (h : Hp) (z : Nat) (d : DV) (c n : Nat) (P : List DV → Prop) : Prop := (d = .nils ∧ n = 0) ∨ ∃ i m off k, d = .sl i m off n ∧ h.R[i]? = some k ∧ k.s = m ∧ k.z = z ∧ off + n ≤ k.xs.length ∧ ∀ e, off + c ≤ e → e < off + n → ∃ r, k.xs[e]? = some r ∧ r.length = z ∧ P r
def OpOk (h : Hp) (cs : List DV) : Prop := (cs.take 12).all DV.isCell = true ∧ ∃ d n, cs[3]? = some d ∧ InBlk h 1 d n ∧ n ≤ 1000000
def tnB : DC := .seq (.seq (.ops [⟨some 4, .move (.tmp 2), none⟩, ⟨some 5, .fieldAddr 0 (.tmp 1), none⟩, ⟨some 6, .load none (.tmp 5), none⟩, ⟨some 7, .len false (.tmp 6), none⟩, ⟨some 8, .bin .lss (.tmp 4) (.tmp 7), none⟩]) (.cond (.tmp 8) .skip (.exit 0)))
  (.seq (.block 1 (.ops [⟨some 11, .fieldAddr 0 (.tmp 1), none⟩, ⟨some 12, .load none (.tmp 11), none⟩, ⟨some 13, .move (.tmp 2), none⟩, ⟨some 14, .build [.int .i64 0, .int .i64 0, .int .i64 0, .int .i64 0, .str ⟨#[]⟩] [(4, (1, .val (.str ⟨#[63]⟩)))], none⟩, ⟨some 15, .indexAddr 5 (.tmp 12) (.tmp 13), none⟩, ⟨none, .store 5 (.tmp 15) (.tmp 14) [], none⟩]))
    (.ops [⟨some 9, .move (.tmp 2), none⟩, ⟨some 10, .bin .add (.tmp 9) (.val (.int .i64 1)), none⟩, ⟨some 2, .move (.tmp 10), none⟩]))
theorem tn_round {l : List DV} {h : Hp} {b mb i m off len c : Nat} {k : Blk} {r br : List DV} (hl : l.length = 35) (h1 : gt l 1 = .ptr false b mb 0 0) (hc : gt l 2 = .int .i64 (c : Int)) (hB : h.B[b]? = some ⟨mb, 2, [br]⟩) (hd : br[0]? = some (.sl i m off len)) (hlt : c < len) (hn : len ≤ 1000000) (hk : h.R[i]? = some k) (hs : k.s = m) (hz : k.z = 5) (hr : k.xs[off + c]? = some r) (hr1 : r.length = 5) :
    ∃ l', ex tbl tnB l h = some (.normal, l', h.put true i { k with xs := k.xs.set (off + c) (u07 r 0 [.int .i64 0, .int .i64 0, .int .i64 0, .int .i64 0, .str ⟨#[63]⟩]) }) ∧ l'.length = 35 ∧ gt l' 1 = gt l 1 ∧ gt l' 2 = .int .i64 ((c + 1 : Nat) : Int) := by
  have hbk := u0x hk hs
  have hbb : h.blk false b mb = some ⟨mb, 2, [br]⟩ := by simp only [Hp.blk, Hp.heap, Bool.false_eq_true, if_false, hB, if_true]
  have hlt2 : (c : Int) < (len : Int) := by omega
  have hw : IntKind.wrap .i64 ((c : Int) + 1) = (c : Int) + 1 := u27 (by omega) (by omega)
  refine ⟨(((((((((((((l.set 4 (.int .i64 (c : Int))).set 5 (.ptr false b mb 0 0)).set 6 (.sl i m off len)).set 7 (.int .i64 (len : Int))).set 8 (.bool true)).set 11 (.ptr false b mb 0 0)).set 12 (.sl i m off len)).set 13 (.int .i64 (c : Int))).set 14 (.agg [.int .i64 0, .int .i64 0, .int .i64 0, .int .i64 0, .str ⟨#[63]⟩])).set 15 (.ptr true i m (off + c) 0)).set 9 (.int .i64 (c : Int))).set 10 (.int .i64 ((c : Int) + 1))).set 2 (.int .i64 ((c : Int) + 1))), ?_, by simp [hl], by simp [u0u, hl], by simp [u0u, hl]⟩
  simp [tnB, u0z, u0M, u15, u0w, u1C, ops, wants, step, putT, u0u, Opd.ev, hl, h1, hc, binOp, intOp, hlt, hlt2, hbb, hd, hbk, hz, hr, hr1, hw, DV.cells, DV.isCell, u07, fill]
theorem tn_end {l : List DV} {h : Hp} {b mb c : Nat} {d : DV} {br : List DV} (hl : l.length = 35) (h1 : gt l 1 = .ptr false b mb 0 0) (hc : gt l 2 = .int .i64 (c : Int)) (hB : h.B[b]? = some ⟨mb, 2, [br]⟩) (hd : br[0]? = some d) (hdd : d = .nils ∧ c = 0 ∨ ∃ i m off, d = .sl i m off c) :
    ∃ l', ex tbl tnB l h = some (.exit 0, l', h) ∧ l'.length = 35 ∧ gt l' 1 = gt l 1 := by
  have hbb : h.blk false b mb = some ⟨mb, 2, [br]⟩ := by simp only [Hp.blk, Hp.heap, Bool.false_eq_true, if_false, hB, if_true]
  rcases hdd with ⟨rfl, rfl⟩ | ⟨i, m, off, rfl⟩
  · refine ⟨(((((l.set 4 (.int .i64 0)).set 5 (.ptr false b mb 0 0)).set 6 (.nils)).set 7 (.int .i64 0)).set 8 (.bool false)), ?_, by simp [hl], by simp [u0u, hl]⟩
    simp [tnB, u0z, u0M, u15, u0w, u1C, u3c, ops, wants, step, putT, u0u, Opd.ev, hl, h1, hc, hbb, hd, binOp, intOp]
  · refine ⟨(((((l.set 4 (.int .i64 (c : Int))).set 5 (.ptr false b mb 0 0)).set 6 (.sl i m off c)).set 7 (.int .i64 (c : Int))).set 8 (.bool false)), ?_, by simp [hl], by simp [u0u, hl]⟩
    simp [tnB, u0z, u0M, u15, u0w, u1C, u3c, ops, wants, step, putT, u0u, Opd.ev, hl, h1, hc, hbb, hd, binOp, intOp]
def tmB (g : FuncId) : DC := .seq (.seq (.ops [⟨some 16, .move (.tmp 3), none⟩, ⟨some 17, .fieldAddr 1 (.tmp 1), none⟩, ⟨some 18, .load none (.tmp 17), none⟩, ⟨some 19, .len false (.tmp 18), none⟩, ⟨some 20, .bin .lss (.tmp 16) (.tmp 19), none⟩]) (.cond (.tmp 20) .skip (.exit 2)))
  (.seq (.block 3 (.seq (.ops [⟨some 23, .fieldAddr 1 (.tmp 1), none⟩, ⟨some 24, .load none (.tmp 23), none⟩, ⟨some 25, .move (.tmp 3), none⟩, ⟨some 26, .indexAddr 17 (.tmp 24) (.tmp 25), none⟩, ⟨some 27, .fieldAddr 0 (.tmp 26), none⟩, ⟨some 28, .load (some 12) (.tmp 27), none⟩, ⟨some 29, .call (.val (.fn g [])) [.tmp 28] [], none⟩]) (.ops [⟨some 30, .fieldAddr 1 (.tmp 1), none⟩, ⟨some 31, .load none (.tmp 30), none⟩, ⟨some 32, .move (.tmp 3), none⟩, ⟨some 33, .build [.int .i64 0, .int .i64 0, .int .i64 0, .nils, .int .i64 0, .int .i64 0, .int .i64 0, .int .i64 0, .int .i64 0, .str ⟨#[]⟩, .int .i64 0, .int .i64 0, .bool false, .int .i64 0, .int .i64 0, .str ⟨#[]⟩, .bool false] [(15, (1, .val (.str ⟨#[63]⟩)))], none⟩, ⟨some 34, .indexAddr 17 (.tmp 31) (.tmp 32), none⟩, ⟨none, .store 17 (.tmp 34) (.tmp 33) [], none⟩])))
    (.ops [⟨some 21, .move (.tmp 3), none⟩, ⟨some 22, .bin .add (.tmp 21) (.val (.int .i64 1)), none⟩, ⟨some 3, .move (.tmp 22), none⟩]))
theorem tm_round {l : List DV} {h : Hp} {b mb i m off len c : Nat} {k : Blk} {r br : List DV} (hl : l.length = 35) (h1 : gt l 1 = .ptr false b mb 0 0) (hc : gt l 3 = .int .i64 (c : Int)) (hB : h.B[b]? = some ⟨mb, 2, [br]⟩) (hd : br[1]? = some (.sl i m off len)) (hlt : c < len) (hn : len ≤ 1000000) (hk : h.R[i]? = some k) (hs : k.s = m) (hz : k.z = 17) (hr : k.xs[off + c]? = some r) (hr1 : r.length = 17) {g : FuncId} {h2 : Hp}  (hcall : callK tbl (ex tbl) (.fn g []) [.agg (r.take 12)] h = some (.tup [], h2)) (hB2 : h2.B[b]? = some ⟨mb, 2, [br]⟩) (hk2 : h2.R[i]? = some k) :
    ∃ l', ex tbl (tmB g) l h = some (.normal, l', h2.put true i { k with xs := k.xs.set (off + c) (u07 r 0 [.int .i64 0, .int .i64 0, .int .i64 0, .nils, .int .i64 0, .int .i64 0, .int .i64 0, .int .i64 0, .int .i64 0, .str ⟨#[]⟩, .int .i64 0, .int .i64 0, .bool false, .int .i64 0, .int .i64 0, .str ⟨#[63]⟩, .bool false]) }) ∧ l'.length = 35 ∧ gt l' 1 = gt l 1 ∧ gt l' 3 = .int .i64 ((c + 1 : Nat) : Int) ∧ gt l' 2 = gt l 2 := by
  have hbk := u0x hk hs
  have hbb : h.blk false b mb = some ⟨mb, 2, [br]⟩ := by simp only [Hp.blk, Hp.heap, Bool.false_eq_true, if_false, hB, if_true]
  have hbk2 := u0x hk2 hs
  have hbb2 : h2.blk false b mb = some ⟨mb, 2, [br]⟩ := by simp only [Hp.blk, Hp.heap, Bool.false_eq_true, if_false, hB2, if_true]
  have hcall2 : (calls tbl (ex tbl)).k (.fn g []) [.agg (r.take 12)] h = some (.tup [], h2) := hcall
  have hlt2 : (c : Int) < (len : Int) := by omega
  have hw : IntKind.wrap .i64 ((c : Int) + 1) = (c : Int) + 1 := u27 (by omega) (by omega)
  refine ⟨((((((((((((((((((((l.set 16 (.int .i64 (c : Int))).set 17 (.ptr false b mb 0 1)).set 18 (.sl i m off len)).set 19 (.int .i64 (len : Int))).set 20 (.bool true)).set 23 (.ptr false b mb 0 1)).set 24 (.sl i m off len)).set 25 (.int .i64 (c : Int))).set 26 (.ptr true i m (off + c) 0)).set 27 (.ptr true i m (off + c) 0)).set 28 (.agg (r.take 12))).set 29 (.tup [])).set 30 (.ptr false b mb 0 1)).set 31 (.sl i m off len)).set 32 (.int .i64 (c : Int))).set 33 (.agg [.int .i64 0, .int .i64 0, .int .i64 0, .nils, .int .i64 0, .int .i64 0, .int .i64 0, .int .i64 0, .int .i64 0, .str ⟨#[]⟩, .int .i64 0, .int .i64 0, .bool false, .int .i64 0, .int .i64 0, .str ⟨#[63]⟩, .bool false])).set 34 (.ptr true i m (off + c) 0)).set 21 (.int .i64 (c : Int))).set 22 (.int .i64 ((c : Int) + 1))).set 3 (.int .i64 ((c : Int) + 1))), ?_, by simp [hl], by simp [u0u, hl], by simp [u0u, hl], by simp [u0u, hl]⟩
  simp [tmB, u0z, u0M, u15, u0w, u1C, ops, wants, step, putT, u0u, Opd.ev, hl, h1, hc, binOp, intOp, hlt, hlt2, hbb, hd, hbk, hz, hr, hr1, hw, DV.cells, DV.isCell, u07, fill, hbk2, hbb2, hcall2, List.drop_zero]
theorem tm_end {g : FuncId} {l : List DV} {h : Hp} {b mb c : Nat} {d : DV} {br : List DV} (hl : l.length = 35) (h1 : gt l 1 = .ptr false b mb 0 0) (hc : gt l 3 = .int .i64 (c : Int)) (hB : h.B[b]? = some ⟨mb, 2, [br]⟩) (hd : br[1]? = some d) (hdd : d = .nils ∧ c = 0 ∨ ∃ i m off, d = .sl i m off c) :
    ∃ l', ex tbl (tmB g) l h = some (.exit 2, l', h) ∧ l'.length = 35 ∧ gt l' 1 = gt l 1 ∧ gt l' 2 = gt l 2 := by
  have hbb : h.blk false b mb = some ⟨mb, 2, [br]⟩ := by simp only [Hp.blk, Hp.heap, Bool.false_eq_true, if_false, hB, if_true]
  rcases hdd with ⟨rfl, rfl⟩ | ⟨i, m, off, rfl⟩
  · refine ⟨(((((l.set 16 (.int .i64 0)).set 17 (.ptr false b mb 0 1)).set 18 (.nils)).set 19 (.int .i64 0)).set 20 (.bool false)), ?_, by simp [hl], by simp [u0u, hl], by simp [u0u, hl]⟩
    simp [tmB, u0z, u0M, u15, u0w, u1C, u3c, ops, wants, step, putT, u0u, Opd.ev, hl, h1, hc, hbb, hd, binOp, intOp]
  · refine ⟨(((((l.set 16 (.int .i64 (c : Int))).set 17 (.ptr false b mb 0 1)).set 18 (.sl i m off c)).set 19 (.int .i64 (c : Int))).set 20 (.bool false)), ?_, by simp [hl], by simp [u0u, hl], by simp [u0u, hl]⟩
    simp [tmB, u0z, u0M, u15, u0w, u1C, u3c, ops, wants, step, putT, u0u, Opd.ev, hl, h1, hc, hbb, hd, binOp, intOp]
theorem Keep.same {Z : List Nat} {h h' : Hp} (K : Keep Z h h') {i : Nat} {k : Blk} (hk : h.R[i]? = some k) (hz : k.z ∉ Z) : h'.R[i]? = some k := by
  obtain ⟨k', g1, _, _, _, g5, _⟩ := K.r i k hk
  rw [g5 hz] at g1; exact g1
theorem OpOk.keep {Z : List Nat} {h h' : Hp} (K : Keep Z h h') {cs : List DV} (o : OpOk h cs) : OpOk h' cs := by
  obtain ⟨h1, d, n, h2, h3, h4⟩ := o
  exact ⟨h1, d, n, h2, h3.keep K, h4⟩
theorem u2p.keep {Z : List Nat} {h h' : Hp} (K : Keep Z h h') {z : Nat} (hz : z ∉ Z) {d : DV} {c n : Nat} {P Q : List DV → Prop} (hPQ : ∀ r, P r → Q r) (B : u2p h z d c n P) : u2p h' z d c n Q := by
  rcases B with B | ⟨i, m, off, k, h1, h2, h3, h4, h5, h6⟩
  · exact .inl B
  · exact .inr ⟨i, m, off, k, h1, K.same h2 (by rw [h4]; exact hz), h3, h4, h5, fun e a b => let ⟨r, r1, r2, r3⟩ := h6 e a b; ⟨r, r1, r2, hPQ r r3⟩⟩
theorem u2p.row {h : Hp} {z i m off c n : Nat} {k : Blk} {P Q : List DV → Prop} {r' : List DV} (hPQ : ∀ r, P r → Q r) (h2 : h.R[i]? = some k) (h3 : k.s = m) (h4 : k.z = z) (h5 : off + n ≤ k.xs.length)
    (h6 : ∀ e, off + c ≤ e → e < off + n → ∃ r, k.xs[e]? = some r ∧ r.length = z ∧ P r) : u2p (h.put true i { k with xs := k.xs.set (off + c) r' }) z (.sl i m off n) (c + 1) n Q := by
  refine .inr ⟨i, m, off, { k with xs := k.xs.set (off + c) r' }, rfl, by simp only [Hp.put, if_true]; rw [List.getElem?_set_self (u02 h2)], h3, h4, by simpa using h5, fun e a b => ?_⟩
  obtain ⟨r0, r1, r2, r3⟩ := h6 e (by omega) b
  exact ⟨r0, by simp only; rw [List.getElem?_set_ne (by omega)]; exact r1, r2, hPQ r0 r3⟩
theorem tn_loop {d : DV} {len : Nat} (hn : len ≤ 1000000) {b mb : Nat} {br : List DV} (hd : br[0]? = some d) : ∀ (n c : Nat), c + n = len → ∀ {l : List DV} {h : Hp}, l.length = 35 → gt l 1 = .ptr false b mb 0 0 → gt l 2 = .int .i64 (c : Int) → h.B[b]? = some ⟨mb, 2, [br]⟩ → InBlk h 5 d len →
    ∃ l' h', ex tbl (.loop tnB) l h = some (.exit 0, l', h') ∧ l'.length = 35 ∧ gt l' 1 = gt l 1 ∧ Keep [5] h h' ∧ h'.B = h.B
  | 0, c, hc, l, h, hl, h1, h2, hB, B => by
    obtain ⟨l', e1, e2, e3⟩ := tn_end (tbl := tbl) (h := h) hl h1 h2 hB hd (by
      rcases B with ⟨h, h'⟩ | ⟨i, m, off, _, h, _⟩
      · exact .inl ⟨h, by omega⟩
      · exact .inr ⟨i, m, off, by rw [h]; congr 1; omega⟩)
    exact ⟨l', h, by rw [u2V, e1], e2, e3, Keep.refl _ _, rfl⟩
  | n + 1, c, hc, l, h, hl, h1, h2, hB, B => by
    have B' := B
    rcases B with ⟨_, h'⟩ | ⟨i, m, off, k, rfl, b1, b2, b3, b4, b5⟩
    · omega
    · obtain ⟨r, r1, r2⟩ := b5 (off + c) (by omega) (by omega)
      obtain ⟨l1, e1, e2, e3, e4⟩ := tn_round (tbl := tbl) hl h1 h2 hB hd (by omega) hn b1 b2 b3 r1 r2
      have K : Keep [5] h _ := Keep.row (r' := u07 r 0 [.int .i64 0, .int .i64 0, .int .i64 0, .int .i64 0, .str ⟨#[63]⟩]) b1 (by rw [b3]; simp) r1 (u2I _ _ _)
      obtain ⟨l2, h', f1, f2, f3, f4, f5⟩ := tn_loop hn hd n (c + 1) (by omega) e2 (e3.trans h1) e4 (by simpa [Hp.put] using hB) (B'.keep K)
      exact ⟨l2, h', by rw [u2V, e1]; exact f1, f2, f3.trans e3, K.trans f4 (by simp [Hp.put]), f5.trans (by simp [Hp.put])⟩
theorem tm_loop {g num : FuncId} (hp : tbl.prim g = none) (hgd : tbl.fn g = some (opD num)) (np : tbl.prim num = none) (nd : tbl.fn num = some numD) {d : DV} {len : Nat} (hn : len ≤ 1000000) {b mb : Nat} {br : List DV} (hd : br[1]? = some d) :
    ∀ (n c : Nat), c + n = len → ∀ {l : List DV} {h : Hp}, l.length = 35 → gt l 1 = .ptr false b mb 0 0 → gt l 3 = .int .i64 (c : Int) → h.B[b]? = some ⟨mb, 2, [br]⟩ → u2p h 17 d c len (OpOk h) →
    ∃ l' h', ex tbl (.loop (tmB g)) l h = some (.exit 2, l', h') ∧ l'.length = 35 ∧ Keep [1, 17] h h' ∧ h.B.length ≤ h'.B.length
  | 0, c, hc, l, h, hl, h1, h2, hB, B => by
    obtain ⟨l', e1, e2, e3⟩ := tm_end (tbl := tbl) (g := g) (h := h) hl h1 h2 hB hd (by
      rcases B with ⟨h, h'⟩ | ⟨i, m, off, _, h, _⟩
      · exact .inl ⟨h, by omega⟩
      · exact .inr ⟨i, m, off, by rw [h]; congr 1; omega⟩)
    exact ⟨l', h, by rw [u2V, e1], e2, Keep.refl _ _, Nat.le_refl _⟩
  | n + 1, c, hc, l, h, hl, h1, h2, hB, B => by
    rcases B with ⟨_, h'⟩ | ⟨i, m, off, k, rfl, b1, b2, b3, b4, b5⟩
    · omega
    · obtain ⟨r, r1, r2, o1, dd, nn, o2, o3, o4⟩ := b5 (off + c) (by omega) (by omega)
      obtain ⟨h2', c1, c2, c3⟩ := op_run hp hgd np nd (cs := r.take 12) (by rw [List.length_take, r2]; rfl) o1 (by rw [List.getElem?_take, if_pos (by omega)]; exact o2) o4 o3
      have hk2 := c2.same b1 (by rw [b3]; simp)
      have hB2 : h2'.B[b]? = some ⟨mb, 2, [br]⟩ := by rw [c2.b b (u02 hB)]; exact hB
      obtain ⟨l1, e1, e2, e3, e4, _⟩ := tm_round (tbl := tbl) hl h1 h2 hB hd (by omega) hn b1 b2 b3 r1 r2 c1 hB2 hk2
      have K : Keep [1, 17] h2' _ := (Keep.row (Z := [17]) (r' := u07 r 0 [.int .i64 0, .int .i64 0, .int .i64 0, .nils, .int .i64 0, .int .i64 0, .int .i64 0, .int .i64 0, .int .i64 0, .str ⟨#[]⟩, .int .i64 0, .int .i64 0, .bool false, .int .i64 0, .int .i64 0, .str ⟨#[63]⟩, .bool false]) hk2 (by rw [b3]; simp) r1 (u2I _ _ _)).more (by simp)
      have K1 : Keep [1, 17] h h2' := c2.more (by simp)
      have K2 := K1.trans K c3
      obtain ⟨l2, h', f1, f2, f3, f4⟩ := tm_loop hp hgd np nd hn hd n (c + 1) (by omega) e2 (e3.trans h1) e4 (by simpa [Hp.put] using hB2) (u2p.row (P := OpOk h) (fun r o => o.keep K2) hk2 b2 b3 b4 b5)
      have hle : h2'.B.length ≤ h'.B.length := by simpa [Hp.put] using f4
      exact ⟨l2, h', by rw [u2V, e1]; exact f1, f2, K2.trans f3 (by simpa [Hp.put] using c3), Nat.le_trans c3 hle⟩
def treeD (g : FuncId) : DF := ⟨false, 35, 1, .seq (.ops [⟨some 1, .box false 2 (.tmp 0), none⟩]) (.seq (.seq (.ops [⟨some 2, .move (.val (.int .i64 0)), none⟩]) (.block 0 (.loop tnB))) (.seq (.ops [⟨some 3, .move (.val (.int .i64 0)), none⟩]) (.block 2 (.loop (tmB g))))), []⟩
theorem tree_run {f g num : FuncId} (fp : tbl.prim f = none) (fd : tbl.fn f = some (treeD g)) (hp : tbl.prim g = none) (hgd : tbl.fn g = some (opD num)) (np : tbl.prim num = none) (nd : tbl.fn num = some numD) {dN dM : DV} {nN nM : Nat} {h : Hp}
    (h1 : nN ≤ 1000000) (h2 : nM ≤ 1000000) (c1 : dN.isCell = true) (c2 : dM.isCell = true) (BN : InBlk h 5 dN nN) (BM : u2p h 17 dM 0 nM (OpOk h)) :
    ∃ h', callK tbl (ex tbl) (.fn f []) [.agg [dN, dM]] h = some (.tup [], h') ∧ Keep [1, 5, 17] h h' ∧ h.B.length ≤ h'.B.length := by
  let hb := (h.new false 2 [[dN, dM]]).2
  have K0 : Keep [1, 5, 17] h hb := Keep.box
  have hbB : hb.B = h.B ++ [⟨h.c, 2, [[dN, dM]]⟩] := by simp [hb, Hp.new]
  have hBb : hb.B[h.B.length]? = some ⟨h.c, 2, [[dN, dM]]⟩ := by rw [hbB]; simp
  have BN0 := BN.keep K0
  have BM0 : u2p hb 17 dM 0 nM (OpOk hb) := BM.keep (Z := []) Keep.box (by simp) fun r o => o.keep K0
  let L0 : List DV := ([DV.agg [dN, dM]] ++ List.replicate 34 DV.undef).set 1 (.ptr false h.B.length h.c 0 0)
  obtain ⟨l1, hh1, e1, e2, e3, e4, e5⟩ := tn_loop (tbl := tbl) (d := dN) h1 (br := [dN, dM]) rfl nN 0 (by omega) (l := L0.set 2 (.int .i64 0)) (h := hb) rfl rfl rfl hBb BN0
  have K1 : Keep [1, 5, 17] hb hh1 := e4.more (by simp)
  have BM1 : u2p hh1 17 dM 0 nM (OpOk hh1) := BM0.keep e4 (by simp) fun r o => o.keep e4
  obtain ⟨l2, hh2, f1, f2, f3, f4⟩ := tm_loop (tbl := tbl) hp hgd np nd (d := dM) h2 (br := [dN, dM]) rfl nM 0 (by omega) (l := l1.set 3 (.int .i64 0)) (h := hh1) (by simp [e2]) (by rw [u0u]; simp [e3]; rfl) (by rw [u0u]; simp [e2]) (by rw [e5]; exact hBb) BM1
  have K2 : Keep [1, 5, 17] hh1 hh2 := f3.more (by simp)
  have l0 : h.B.length ≤ hb.B.length := by rw [hbB]; simp
  have l1' : hb.B.length ≤ hh1.B.length := by rw [e5]; exact Nat.le_refl _
  refine ⟨hh2, ?_, (K0.trans K1 l0).trans K2 (Nat.le_trans l0 l1'), Nat.le_trans (Nat.le_trans l0 l1') f4⟩
  have hbody : ex tbl (treeD g).body ([DV.agg [dN, dM]] ++ List.replicate 34 DV.undef) h = some (.normal, l2, hh2) := by
    have a0 : ex tbl (.ops [⟨some 1, .box false 2 (.tmp 0), none⟩]) ([DV.agg [dN, dM]] ++ List.replicate 34 DV.undef) h = some (.normal, L0, hb) := by
      simp [u0M, ops, wants, step, putT, gt, Opd.ev, DV.cells, c1, c2, L0, hb, Hp.new]
    have a1 : ex tbl (.ops [⟨some 2, .move (.val (.int .i64 0)), none⟩]) L0 hb = some (.normal, L0.set 2 (.int .i64 0), hb) := by simp [u0M, ops, wants, step, putT, Opd.ev]
    have a2 : ex tbl (.ops [⟨some 3, .move (.val (.int .i64 0)), none⟩]) l1 hh1 = some (.normal, l1.set 3 (.int .i64 0), hh1) := by simp [u0M, ops, wants, step, putT, Opd.ev]
    show ex tbl (.seq _ (.seq (.seq _ (.block 0 (.loop tnB))) (.seq _ (.block 2 (.loop (tmB g)))))) _ h = _
    rw [u0z, a0]
    simp only
    rw [u0z, u0z, a1]
    simp only
    rw [u0w, e1]
    simp only [if_true]
    rw [u0z, a2]
    simp only
    rw [u0w, f1]
    simp only [if_true]
  simp only [callK, fp, fd, treeD, List.append_nil, Bool.false_eq_true, if_false, List.length_cons, List.length_nil]
  rw [if_neg (by simp)]
  show (match ex tbl (treeD g).body ([DV.agg [dN, dM]] ++ List.replicate 34 DV.undef) h with | some (.ret, l, h') => _ | some (.normal, l, h') => _ | _ => none) = _
  rw [hbody]
  rfl
theorem RW.cell {X : RX} : ∀ {s : Sh} {x : El s} {ds : List DV}, s.plain = true → RW X true s x ds → ∀ d ∈ ds, d.isCell = true
  | .int _, _, _, _, h, d, hd | .bool, _, _, _, h, d, hd | .str, _, _, _, h, d, hd => by simp only [RW] at h; subst h; simp at hd; subst hd; rfl
  | .list s, _, _, _, h, d, hd => by
    obtain ⟨d', rfl, h⟩ := h
    simp at hd; subst hd
    rcases h with ⟨rfl, _⟩ | ⟨_, _, _, _, rfl, _⟩ <;> rfl
  | .pair a b, x, _, hp, h, d, hd => by
    simp only [Sh.plain, Bool.and_eq_true] at hp
    obtain ⟨d1, d2, rfl, h1, h2⟩ := h
    rcases List.mem_append.1 hd with hd | hd
    · exact RW.cell hp.1 h1 d hd
    · exact RW.cell hp.2 h2 d hd
  | .tree a, x, _, hp, h, d, hd => by
    obtain ⟨d1, d', rfl, h1, h2⟩ := h
    rcases List.mem_append.1 hd with hd | hd
    · exact RW.cell (s := a) hp h1 d hd
    · simp at hd; subst hd
      rcases h2 with (⟨rfl, _⟩ | ⟨_, rfl, _⟩) | ⟨_, _, _, _, rfl, _⟩ <;> rfl
  | .uno a, x, _, hp, h, d, hd => RW.cell (s := a) hp h d hd
  | .mark a, _, _, hp, _, _, _ => by simp [Sh.plain] at hp
theorem RYs.inBlkP {X : RX} {dh : Hp} (hz : ∀ i k, X.z i = some k → dh.R[i]? = some k) {s : Sh} {l : List (El s)} {d : DV} (h : RYs X (fun x r => RW X true s x r) s.size l d) {P : List DV → Prop} (hP : ∀ x ∈ l, ∀ r, RW X true s x r → P r) :
    u2p dh s.size d 0 l.length P ∧ d.isCell = true := by
  rcases h with ⟨rfl, rfl⟩ | ⟨i, m, off, k, rfl, h2, h3, h4, h5, h6⟩
  · exact ⟨.inl ⟨rfl, rfl⟩, rfl⟩
  · refine ⟨.inr ⟨i, m, off, k, rfl, hz _ _ h2, h3, h4, h5, fun e a b => ?_⟩, rfl⟩
    have hlt : e - off < l.length := by omega
    obtain ⟨r, r1, r2⟩ := h6.get (List.getElem?_eq_getElem hlt)
    rw [List.getElem?_take, if_pos hlt, List.getElem?_drop, show off + (e - off) = e by omega] at r1
    exact ⟨r, r1, RW.length r2, hP _ (List.getElem_mem hlt) r r2⟩
theorem u2p.inBlk {h : Hp} {z : Nat} {d : DV} {n : Nat} {P : List DV → Prop} (B : u2p h z d 0 n P) : InBlk h z d n := by
  rcases B with B | ⟨i, m, off, k, h1, h2, h3, h4, h5, h6⟩
  · exact .inl B
  · exact .inr ⟨i, m, off, k, h1, h2, h3, h4, h5, fun e a b => let ⟨r, r1, r2, _⟩ := h6 e (by omega) b; ⟨r, r1, r2⟩⟩
abbrev u3R : Sh := .pair (.int .i64) (.int .i64)
abbrev yOp : Sh := .pair u3R (.pair (.int .i64) (.pair (.list (.int .i64)) (.pair (.int .i64) (.pair u3R (.pair u3R (.pair .str u3R))))))
abbrev yEntry : Sh := .pair yOp (.pair .bool (.pair u3R (.pair .str .bool)))
abbrev yNode : Sh := .pair u3R (.pair u3R .str)
abbrev yTree : Sh := .pair (.list yNode) (.list yEntry)
theorem op_ok {X : RX} {dh : Hp} (hz : ∀ i k, X.z i = some k → dh.R[i]? = some k) {x : El yOp} {r r' : List DV} (h : RW X true yOp x r) (hs : small yOp x = true) : OpOk dh (r ++ r') := by
  have hl : r.length = 12 := RW.length h
  have hc := RW.cell rfl h
  obtain ⟨d1, d2, rfl, h1, d3, d4, rfl, h2, d5, d6, rfl, h3, h4⟩ := h
  obtain ⟨dd, rfl, h3⟩ := h3
  have l1 : d1.length = 2 := RW.length h1
  have l2 : d3.length = 1 := RW.length h2
  obtain ⟨g1, g2⟩ := RYs.inBlkP hz h3 (P := fun _ => True) fun _ _ _ _ => trivial
  refine ⟨?_, dd, x.2.2.1.length, ?_, g1.inBlk, ?_⟩
  · rw [List.take_append_of_le_length (by omega), List.take_of_length_le (by omega), List.all_eq_true]
    exact hc
  · rw [List.append_assoc, List.getElem?_append_right (by omega), l1, List.append_assoc, List.getElem?_append_right (by omega), l2]
    rfl
  · simp only [small, Bool.and_eq_true, decide_eq_true_eq] at hs
    omega
theorem entry_ok {X : RX} {dh : Hp} (hz : ∀ i k, X.z i = some k → dh.R[i]? = some k) {x : El yEntry} {r : List DV} (h : RW X true yEntry x r) (hs : small yEntry x = true) : OpOk dh r := by
  obtain ⟨d1, d2, rfl, h1, h2⟩ := h
  have hs' : small yOp x.1 = true := by
    rw [show small yEntry x = (small yOp x.1 && small (.pair .bool (.pair u3R (.pair .str .bool))) x.2) from rfl, Bool.and_eq_true] at hs
    exact hs.1
  exact op_ok hz h1 hs'
end
end Go.Dv
/- What the functions that write over a shape come to. -/
set_option linter.unusedVariables false
set_option linter.unusedSimpArgs false
open Go (IntKind)
namespace Go.Dv
section
variable {tbl : Table}
def regB : DC := .seq (.seq (.ops [⟨some 3, .move (.tmp 2), none⟩, ⟨some 4, .move (.tmp 0), none⟩, ⟨some 5, .len false (.tmp 4), none⟩, ⟨some 6, .bin .lss (.tmp 3) (.tmp 5), none⟩]) (.cond (.tmp 6) .skip (.exit 0)))
  (.seq (.block 1 (.ops [⟨some 9, .move (.tmp 0), none⟩, ⟨some 10, .move (.tmp 2), none⟩, ⟨some 11, .build [.int .i64 0, .int .i64 0, .int .i64 0, .int .i64 0] [(0, (1, .val (.int .i64 (-9))))], none⟩, ⟨some 12, .indexAddr 4 (.tmp 9) (.tmp 10), none⟩, ⟨none, .store 4 (.tmp 12) (.tmp 11) [], none⟩]))
    (.ops [⟨some 7, .move (.tmp 2), none⟩, ⟨some 8, .bin .add (.tmp 7) (.val (.int .i64 1)), none⟩, ⟨some 2, .move (.tmp 8), none⟩]))
abbrev regT : List DOper := [⟨some 13, .move (.tmp 0), none⟩, ⟨some 14, .build [.int .i64 0, .int .i64 0, .int .i64 0, .int .i64 0] [], none⟩, ⟨some 15, .buildSlice 4 1 [.int .i64 0, .int .i64 0, .int .i64 0, .int .i64 0] [(0, .tmp 14)], none⟩, ⟨some 16, .append 1000004 32 false (.tmp 13) (.tmp 15), none⟩, ⟨some 0, .move (.tmp 16), none⟩]
def regD : DF := ⟨false, 17, 1, .seq (.seq (.ops [⟨some 2, .move (.val (.int .i64 0)), none⟩]) (.block 0 (.loop regB))) (.ops regT), []⟩
abbrev zreg : List DV := [.int .i64 0, .int .i64 0, .int .i64 0, .int .i64 0]
abbrev yreg : List DV := [.int .i64 (-9), .int .i64 0, .int .i64 0, .int .i64 0]
theorem reg_round {l : List DV} {h : Hp} {i m off len c : Nat} {k : Blk} {r : List DV} (hl : l.length = 17) (h0 : gt l 0 = .sl i m off len) (h2 : gt l 2 = .int .i64 (c : Int)) (hc : c < len) (hn : len ≤ 1000000)
    (hb : h.R[i]? = some k) (hs : k.s = m) (hz : k.z = 4) (hr : k.xs[off + c]? = some r) (hr1 : r.length = 4) :
    ∃ l', ex tbl regB l h = some (.normal, l', h.put true i { k with xs := k.xs.set (off + c) (u07 r 0 yreg) }) ∧ l'.length = 17 ∧ gt l' 0 = gt l 0 ∧ gt l' 2 = .int .i64 ((c + 1 : Nat) : Int) := by
  have hbk := u0x hb hs
  have hlt : (c : Int) < (len : Int) := by omega
  have hw : IntKind.wrap .i64 ((c : Int) + 1) = (c : Int) + 1 := u27 (by omega) (by omega)
  refine ⟨(((((((((((l.set 3 (.int .i64 (c : Int))).set 4 (.sl i m off len)).set 5 (.int .i64 (len : Int))).set 6 (.bool true)).set 9 (.sl i m off len)).set 10 (.int .i64 (c : Int))).set 11 (.agg yreg)).set 12 (.ptr true i m (off + c) 0)).set 7 (.int .i64 (c : Int))).set 8 (.int .i64 ((c : Int) + 1))).set 2 (.int .i64 ((c : Int) + 1))), ?_, ?_, ?_, ?_⟩
  · simp [regB, u0z, u0M, u15, u0w, u1C, ops, wants, step, putT, u0u, Opd.ev, hl, h0, h2, binOp, intOp, hlt, hc, hbk, hz, hr, hr1, hw, DV.cells, DV.isCell, u07, fill]
  · simp [hl]
  · simp [u0u, hl]
  · simp [u0u, hl]
theorem reg_end {l : List DV} {h : Hp} {d : DV} {c : Nat} (hl : l.length = 17) (h0 : gt l 0 = d) (h2 : gt l 2 = .int .i64 (c : Int)) (hd : d = .nils ∧ c = 0 ∨ ∃ i m off, d = .sl i m off c) :
    ∃ l', ex tbl regB l h = some (.exit 0, l', h) ∧ l'.length = 17 ∧ gt l' 0 = d := by
  rcases hd with ⟨rfl, rfl⟩ | ⟨i, m, off, rfl⟩
  · refine ⟨(((l.set 3 (.int .i64 0)).set 4 .nils).set 5 (.int .i64 0)).set 6 (.bool false), ?_, by simp [hl], by simp [u0u, hl, h0]⟩
    simp [regB, u0z, u0M, u15, u0w, u1C, u3c, ops, wants, step, putT, u0u, Opd.ev, hl, h0, h2, binOp, intOp]
  · refine ⟨(((l.set 3 (.int .i64 (c : Int))).set 4 (.sl i m off c)).set 5 (.int .i64 (c : Int))).set 6 (.bool false), ?_, by simp [hl], by simp [u0u, hl, h0]⟩
    simp [regB, u0z, u0M, u15, u0w, u1C, u3c, ops, wants, step, putT, u0u, Opd.ev, hl, h0, h2, binOp, intOp]
theorem reg_loop {d : DV} {len : Nat} (hn : len ≤ 1000000) : ∀ (n c : Nat), c + n = len → ∀ {l : List DV} {h : Hp}, l.length = 17 → gt l 0 = d → gt l 2 = .int .i64 (c : Int) → InBlk h 4 d len →
    ∃ l' h', ex tbl (.loop regB) l h = some (.exit 0, l', h') ∧ l'.length = 17 ∧ gt l' 0 = d ∧ Keep [4] h h' ∧ h'.B = h.B
  | 0, c, hc, l, h, hl, h0, h2, B => by
    obtain ⟨l', e1, e2, e3⟩ := reg_end (tbl := tbl) (h := h) hl h0 h2 (by
      rcases B with ⟨h, h'⟩ | ⟨i, m, off, _, h, _⟩
      · exact .inl ⟨h, by omega⟩
      · exact .inr ⟨i, m, off, by rw [h]; congr 1; omega⟩)
    exact ⟨l', h, by rw [u2V, e1], e2, e3, Keep.refl _ _, rfl⟩
  | n + 1, c, hc, l, h, hl, h0, h2, B => by
    have B' := B
    rcases B with ⟨_, h'⟩ | ⟨i, m, off, k, rfl, b1, b2, b3, b4, b5⟩
    · omega
    · obtain ⟨r, r1, r2⟩ := b5 (off + c) (by omega) (by omega)
      obtain ⟨l1, e1, e2, e3, e4⟩ := reg_round (tbl := tbl) hl h0 h2 (by omega) hn b1 b2 b3 r1 r2
      have K : Keep [4] h _ := Keep.row (r' := u07 r 0 yreg) b1 (by rw [b3]; simp) r1 (u2I _ _ _)
      obtain ⟨l2, h', f1, f2, f3, f4, f5⟩ := reg_loop hn n (c + 1) (by omega) e2 (e3.trans h0) e4 (B'.keep K)
      exact ⟨l2, h', by rw [u2V, e1]; exact f1, f2, f3, K.trans f4 (by simp [Hp.put]), f5.trans (by simp [Hp.put])⟩
theorem reg_run {f : FuncId} (hp : tbl.prim f = none) (hd : tbl.fn f = some regD) {d : DV} {len : Nat} {h : Hp} (hn : len ≤ 1000000) (B : InBlk h 4 d len) :
    ∃ h', callK tbl (ex tbl) (.fn f []) [d] h = some (.tup [], h') ∧ Keep [4] h h' ∧ h'.B = h.B := by
  have hs : ∀ (l : List DV) (h : Hp), ex tbl (.block 0 (.loop regB)) l h = match ex tbl (.loop regB) l h with
      | some (.exit id', l', h') => if id' = 0 then some (.normal, l', h') else some (.exit id', l', h')
      | x => x := fun l h => u0w ..
  obtain ⟨l1, h1, e1, e2, e3, e4, e5⟩ := reg_loop (tbl := tbl) (d := d) hn len 0 (by omega) (l := ([d] ++ List.replicate 16 DV.undef).set 2 (.int .i64 0)) (h := h) rfl rfl rfl B
  have B1 := B.keep e4
  have room1 : room (len + 1) 32 = true := by
    simp only [room, decide_eq_true_eq]; omega
  have fin : ∃ l2 h2, ex tbl (.ops regT) l1 h1 = some (.normal, l2, h2) ∧ Keep [4] h1 h2 ∧ h2.B = h1.B := by
    let hb := (h1.new true 4 [zreg]).2
    have K : Keep [4] h1 hb := Keep.push
    have hnew : hb.blk true h1.R.length h1.c = some ⟨h1.c, 4, [zreg]⟩ := by
      refine u0x ?_ rfl
      simp [hb, Hp.new]
    have hbB : hb.B = h1.B := by simp [hb, Hp.new]
    have B2 := B1.keep K
    have run : ∀ {h3 : Hp}, u2K hb 4 32 d [zreg] = some (.undef, h3) → ex tbl (.ops regT) l1 h1 =
        some (.normal, ((((l1.set 13 d).set 14 (.agg zreg)).set 15 (.sl h1.R.length h1.c 0 1)).set 16 .undef).set 0 .undef, h3) := by
      intro h3 ha
      have hel : elems hb 4 (.sl h1.R.length h1.c 0 1) = some [zreg] := by
        simp [elems, hnew]
      simp [regT, u0M, ops, wants, step, putT, u0u, Opd.ev, e2, e3, fill, chunk, u07, DV.cells, DV.isCell]
      have e6 : (h1.new true 4 [zreg]).1 = h1.R.length := by simp [Hp.new]
      simp only [e6]
      have hel' : u1n (h1.new true 4 [zreg]).2 4 false (.sl h1.R.length h1.c 0 1) = some [zreg] := hel
      have ha' : u2K (h1.new true 4 [zreg]).2 4 32 d [zreg] = some (.undef, h3) := ha
      simp only [hel', ha']
    rcases B2 with ⟨rfl, _⟩ | ⟨i, m, off, k, rfl, b1, b2, b3, b4, b5⟩
    · exact ⟨_, _, run (by simp [u2K, show room 1 32 = true from by decide]), K, hbB⟩
    · have hbk := u0x b1 b2
      by_cases htip : off + len = k.xs.length
      · exact ⟨_, _, run (by simp [u2K, hbk, b3, room1, htip]), K, hbB⟩
      · have hin : off + len + 1 ≤ k.xs.length := by omega
        refine ⟨_, _, run (h3 := hb.put true i { k with xs := k.xs.take (off + len) ++ [zreg] ++ k.xs.drop (off + len + 1) }) (by simp [u2K, hbk, b3, room1, htip, hin]), ?_, by simp only [Hp.put, if_true]; exact hbB⟩
        refine K.trans (Keep.put b1 (by rw [b3]; simp) (by simp; omega) fun e r r' h0 h1 hh => ?_) (by rw [hbB]; exact Nat.le_refl _)
        rw [b3] at hh ⊢
        rw [List.append_assoc, List.getElem?_append] at h1
        split at h1
        · rw [List.getElem?_take] at h1
          split at h1
          · rw [h0] at h1; cases h1; exact hh
          · cases h1
        · rename_i hge
          simp only [List.length_take] at hge h1
          rw [show min (off + len) k.xs.length = off + len by omega] at hge h1
          cases he : e - (off + len) with
          | zero => rw [he] at h1; simp at h1; rw [← h1]; rfl
          | succ q =>
            rw [he] at h1
            simp only [List.cons_append, List.nil_append, List.getElem?_cons_succ, List.getElem?_drop] at h1
            rw [show off + len + 1 + q = e by omega, h0] at h1
            cases h1; exact hh
  obtain ⟨l2, h2, g1, g2, g3⟩ := fin
  refine ⟨h2, ?_, e4.trans g2 (by rw [e5]; exact Nat.le_refl _), g3.trans e5⟩
  have hbody : ex tbl regD.body ([d] ++ List.replicate 16 DV.undef) h = some (.normal, l2, h2) := by
    show ex tbl (.seq (.seq (.ops [⟨some 2, .move (.val (.int .i64 0)), none⟩]) (.block 0 (.loop regB))) _) _ h = _
    rw [u0z, u0z]
    have e0 : ex tbl (.ops [⟨some 2, .move (.val (.int .i64 0)), none⟩]) ([d] ++ List.replicate 16 DV.undef) h = some (.normal, ([d] ++ List.replicate 16 DV.undef).set 2 (.int .i64 0), h) := by
      simp [u0M, ops, wants, step, putT, Opd.ev]
    rw [e0]
    simp only
    rw [hs, e1]
    simp only [if_true]
    exact g1
  simp only [callK, hp, hd, regD, List.append_nil, Bool.false_eq_true, if_false, List.length_cons, List.length_nil]
  rw [if_neg (by simp)]
  show (match ex tbl regD.body ([d] ++ List.replicate 16 DV.undef) h with | some (.ret, l, h') => _ | some (.normal, l, h') => _ | _ => none) = _
  rw [hbody]
  rfl
def u4x (h : Hp) (cs : List DV) : Prop := ∃ d n, cs[2]? = some d ∧ InBlk h 4 d n ∧ n ≤ 1000000
theorem u4x.keep {Z : List Nat} {h h' : Hp} (K : Keep Z h h') {cs : List DV} (o : u4x h cs) : u4x h' cs := by
  obtain ⟨d, n, h2, h3, h4⟩ := o
  exact ⟨d, n, h2, h3.keep K, h4⟩
abbrev zlook : List DV := [.int .i64 0, .int .i64 0, .nils]
def slB (g : FuncId) : DC := .seq (.seq (.ops [⟨some 6, .move (.tmp 2), none⟩, ⟨some 7, .fieldAddr 2 (.tmp 1), none⟩, ⟨some 8, .load none (.tmp 7), none⟩, ⟨some 9, .len false (.tmp 8), none⟩, ⟨some 10, .bin .lss (.tmp 6) (.tmp 9), none⟩]) (.cond (.tmp 10) .skip (.exit 0)))
  (.seq (.block 1 (.seq (.ops [⟨some 13, .fieldAddr 2 (.tmp 1), none⟩, ⟨some 14, .load none (.tmp 13), none⟩, ⟨some 15, .move (.tmp 2), none⟩, ⟨some 16, .indexAddr 3 (.tmp 14) (.tmp 15), none⟩, ⟨some 17, .fieldAddr 2 (.tmp 16), none⟩, ⟨some 18, .load none (.tmp 17), none⟩, ⟨some 19, .call (.val (.fn g [])) [.tmp 18] [], none⟩]) (.ops [⟨some 20, .fieldAddr 2 (.tmp 1), none⟩, ⟨some 21, .load none (.tmp 20), none⟩, ⟨some 22, .move (.tmp 2), none⟩, ⟨some 23, .build [.int .i64 0, .int .i64 0, .nils] [], none⟩, ⟨some 24, .indexAddr 3 (.tmp 21) (.tmp 22), none⟩, ⟨none, .store 3 (.tmp 24) (.tmp 23) [], none⟩])))
    (.ops [⟨some 11, .move (.tmp 2), none⟩, ⟨some 12, .bin .add (.tmp 11) (.val (.int .i64 1)), none⟩, ⟨some 2, .move (.tmp 12), none⟩]))
theorem sl_round {l : List DV} {h : Hp} {b mb i m off len c : Nat} {k : Blk} {r br : List DV} {q : DV} (hl : l.length = 25) (h1 : gt l 1 = .ptr false b mb 0 0) (hc : gt l 2 = .int .i64 (c : Int)) (hB : h.B[b]? = some ⟨mb, 3, [br]⟩) (hd : br[2]? = some (.sl i m off len)) (hlt : c < len) (hn : len ≤ 1000000) (hk : h.R[i]? = some k) (hs : k.s = m) (hz : k.z = 3) (hr : k.xs[off + c]? = some r) (hr1 : r.length = 3) (hq : r[2]? = some q) {g : FuncId} {h2 : Hp} (hcall : callK tbl (ex tbl) (.fn g []) [q] h = some (.tup [], h2)) (hB2 : h2.B[b]? = some ⟨mb, 3, [br]⟩) (hk2 : h2.R[i]? = some k) :
    ∃ l', ex tbl (slB g) l h = some (.normal, l', h2.put true i { k with xs := k.xs.set (off + c) (u07 r 0 zlook) }) ∧ l'.length = 25 ∧ gt l' 1 = gt l 1 ∧ gt l' 2 = .int .i64 ((c + 1 : Nat) : Int) := by
  obtain ⟨a, b', q', rfl⟩ : ∃ a b' q', r = [a, b', q'] := match r, hr1 with | [a, b', q'], _ => ⟨a, b', q', rfl⟩
  obtain rfl : q = q' := by simpa using hq.symm
  have hbk := u0x hk hs
  have hbb : h.blk false b mb = some ⟨mb, 3, [br]⟩ := by simp only [Hp.blk, Hp.heap, Bool.false_eq_true, if_false, hB, if_true]
  have hbk2 := u0x hk2 hs
  have hbb2 : h2.blk false b mb = some ⟨mb, 3, [br]⟩ := by simp only [Hp.blk, Hp.heap, Bool.false_eq_true, if_false, hB2, if_true]
  have hcall2 : (calls tbl (ex tbl)).k (.fn g []) [q] h = some (.tup [], h2) := hcall
  have hlt2 : (c : Int) < (len : Int) := by omega
  have hw : IntKind.wrap .i64 ((c : Int) + 1) = (c : Int) + 1 := u27 (by omega) (by omega)
  refine ⟨((((((((((((((((((((l.set 6 (.int .i64 (c : Int))).set 7 (.ptr false b mb 0 2)).set 8 (.sl i m off len)).set 9 (.int .i64 (len : Int))).set 10 (.bool true)).set 13 (.ptr false b mb 0 2)).set 14 (.sl i m off len)).set 15 (.int .i64 (c : Int))).set 16 (.ptr true i m (off + c) 0)).set 17 (.ptr true i m (off + c) 2)).set 18 q).set 19 (.tup [])).set 20 (.ptr false b mb 0 2)).set 21 (.sl i m off len)).set 22 (.int .i64 (c : Int))).set 23 (.agg zlook)).set 24 (.ptr true i m (off + c) 0)).set 11 (.int .i64 (c : Int))).set 12 (.int .i64 ((c : Int) + 1))).set 2 (.int .i64 ((c : Int) + 1))), ?_, by simp [hl], by simp [u0u, hl], by simp [u0u, hl]⟩
  simp [slB, u0z, u0M, u15, u0w, u1C, ops, wants, step, putT, u0u, Opd.ev, hl, h1, hc, binOp, intOp, hlt, hlt2, hbb, hd, hbk, hz, hr, hr1, hw, DV.cells, DV.isCell, u07, fill, hbk2, hbb2, hcall2]
theorem sl_end {g : FuncId} {l : List DV} {h : Hp} {b mb c : Nat} {d : DV} {br : List DV} (hl : l.length = 25) (h1 : gt l 1 = .ptr false b mb 0 0) (hc : gt l 2 = .int .i64 (c : Int)) (hB : h.B[b]? = some ⟨mb, 3, [br]⟩) (hd : br[2]? = some d) (hdd : d = .nils ∧ c = 0 ∨ ∃ i m off, d = .sl i m off c) :
    ∃ l', ex tbl (slB g) l h = some (.exit 0, l', h) ∧ l'.length = 25 := by
  have hbb : h.blk false b mb = some ⟨mb, 3, [br]⟩ := by simp only [Hp.blk, Hp.heap, Bool.false_eq_true, if_false, hB, if_true]
  rcases hdd with ⟨rfl, rfl⟩ | ⟨i, m, off, rfl⟩
  · refine ⟨(((((l.set 6 (.int .i64 0)).set 7 (.ptr false b mb 0 2)).set 8 (.nils)).set 9 (.int .i64 0)).set 10 (.bool false)), ?_, by simp [hl]⟩
    simp [slB, u0z, u0M, u15, u0w, u1C, u3c, ops, wants, step, putT, u0u, Opd.ev, hl, h1, hc, hbb, hd, binOp, intOp]
  · refine ⟨(((((l.set 6 (.int .i64 (c : Int))).set 7 (.ptr false b mb 0 2)).set 8 (.sl i m off c)).set 9 (.int .i64 (c : Int))).set 10 (.bool false)), ?_, by simp [hl]⟩
    simp [slB, u0z, u0M, u15, u0w, u1C, u3c, ops, wants, step, putT, u0u, Opd.ev, hl, h1, hc, hbb, hd, binOp, intOp]
theorem sl_loop {g : FuncId} (hp : tbl.prim g = none) (hgd : tbl.fn g = some regD) {d : DV} {len : Nat} (hn : len ≤ 1000000) {b mb : Nat} {br : List DV} (hd : br[2]? = some d) :
    ∀ (n c : Nat), c + n = len → ∀ {l : List DV} {h : Hp}, l.length = 25 → gt l 1 = .ptr false b mb 0 0 → gt l 2 = .int .i64 (c : Int) → h.B[b]? = some ⟨mb, 3, [br]⟩ → u2p h 3 d c len (u4x h) →
    ∃ l' h', ex tbl (.loop (slB g)) l h = some (.exit 0, l', h') ∧ l'.length = 25 ∧ Keep [3, 4] h h' ∧ h'.B = h.B
  | 0, c, hc, l, h, hl, h1, h2, hB, B => by
    obtain ⟨l', e1, e2⟩ := sl_end (tbl := tbl) (g := g) (h := h) hl h1 h2 hB hd (by
      rcases B with ⟨h, h'⟩ | ⟨i, m, off, _, h, _⟩
      · exact .inl ⟨h, by omega⟩
      · exact .inr ⟨i, m, off, by rw [h]; congr 1; omega⟩)
    exact ⟨l', h, by rw [u2V, e1], e2, Keep.refl _ _, rfl⟩
  | n + 1, c, hc, l, h, hl, h1, h2, hB, B => by
    rcases B with ⟨_, h'⟩ | ⟨i, m, off, k, rfl, b1, b2, b3, b4, b5⟩
    · omega
    · obtain ⟨r, r1, r2, dd, nn, o2, o3, o4⟩ := b5 (off + c) (by omega) (by omega)
      obtain ⟨h2', c1, c2, c3⟩ := reg_run (tbl := tbl) hp hgd o4 o3
      have hk2 := c2.same b1 (by rw [b3]; simp)
      have hB2 : h2'.B[b]? = some ⟨mb, 3, [br]⟩ := by rw [c3]; exact hB
      obtain ⟨l1, e1, e2, e3, e4⟩ := sl_round (tbl := tbl) hl h1 h2 hB hd (by omega) hn b1 b2 b3 r1 r2 o2 c1 hB2 hk2
      have K : Keep [3, 4] h2' _ := (Keep.row (Z := [3]) (r' := u07 r 0 zlook) hk2 (by rw [b3]; simp) r1 (u2I _ _ _)).more (by simp)
      have K1 : Keep [3, 4] h h2' := c2.more (by simp)
      have K2 := K1.trans K (by rw [c3]; exact Nat.le_refl _)
      obtain ⟨l2, h', f1, f2, f3, f4⟩ := sl_loop hp hgd hn hd n (c + 1) (by omega) e2 (e3.trans h1) e4 (by simpa [Hp.put] using hB2) (u2p.row (P := u4x h) (fun r o => o.keep K2) hk2 b2 b3 b4 b5)
      exact ⟨l2, h', by rw [u2V, e1]; exact f1, f2, K2.trans f3 (by simp [Hp.put, c3]), f4.trans (by simp [Hp.put, c3])⟩
def shapeD (t g : FuncId) : DF := ⟨false, 25, 1, .seq (.ops [⟨some 1, .box false 3 (.tmp 0), none⟩]) (.seq (.ops [⟨some 3, .fieldAddr 0 (.tmp 1), none⟩, ⟨some 4, .load (some 2) (.tmp 3), none⟩, ⟨some 5, .call (.val (.fn t [])) [.tmp 4] [], none⟩]) (.seq (.ops [⟨some 2, .move (.val (.int .i64 0)), none⟩]) (.block 0 (.loop (slB g))))), []⟩
theorem shape_run {f t g num rg : FuncId} (sp : tbl.prim f = none) (sd : tbl.fn f = some (shapeD t rg)) (fp : tbl.prim t = none) (fd : tbl.fn t = some (treeD g)) (hp : tbl.prim g = none) (hgd : tbl.fn g = some (opD num)) (np : tbl.prim num = none) (nd : tbl.fn num = some numD) (rp : tbl.prim rg = none) (rd : tbl.fn rg = some regD)
    {dN dM dL : DV} {nN nM nL : Nat} {h : Hp}
    (h1 : nN ≤ 1000000) (h2 : nM ≤ 1000000) (h3 : nL ≤ 1000000) (c1 : dN.isCell = true) (c2 : dM.isCell = true) (c3 : dL.isCell = true) (BN : InBlk h 5 dN nN) (BM : u2p h 17 dM 0 nM (OpOk h)) (BL : u2p h 3 dL 0 nL (u4x h)) :
    ∃ h', callK tbl (ex tbl) (.fn f []) [.agg [dN, dM, dL]] h = some (.tup [], h') ∧ Keep [1, 3, 4, 5, 17] h h' ∧ h.B.length ≤ h'.B.length := by
  let hb := (h.new false 3 [[dN, dM, dL]]).2
  have K0 : Keep [1, 5, 17] h hb := Keep.box
  have hbB : hb.B = h.B ++ [⟨h.c, 3, [[dN, dM, dL]]⟩] := by simp [hb, Hp.new]
  have hBb : hb.B[h.B.length]? = some ⟨h.c, 3, [[dN, dM, dL]]⟩ := by rw [hbB]; simp
  have BN0 := BN.keep K0
  have BM0 : u2p hb 17 dM 0 nM (OpOk hb) := BM.keep (Z := []) Keep.box (by simp) fun r o => o.keep K0
  have BL0 : u2p hb 3 dL 0 nL (u4x hb) := BL.keep K0 (by simp) fun r o => o.keep K0
  let L0 : List DV := ([DV.agg [dN, dM, dL]] ++ List.replicate 24 DV.undef).set 1 (.ptr false h.B.length h.c 0 0)
  obtain ⟨hh1, e1, e4, e5⟩ := tree_run (tbl := tbl) fp fd hp hgd np nd h1 h2 c1 c2 BN0 BM0
  have hcall : (calls tbl (ex tbl)).k (.fn t []) [.agg [dN, dM]] hb = some (.tup [], hh1) := e1
  have BL1 : u2p hh1 3 dL 0 nL (u4x hh1) := BL0.keep e4 (by simp) fun r o => o.keep e4
  have hB1 : hh1.B[h.B.length]? = some ⟨h.c, 3, [[dN, dM, dL]]⟩ := by rw [e4.b _ (u02 hBb)]; exact hBb
  have hbb : hb.blk false h.B.length h.c = some ⟨h.c, 3, [[dN, dM, dL]]⟩ := by simp only [Hp.blk, Hp.heap, Bool.false_eq_true, if_false, hBb, if_true]
  let L1 : List DV := ((L0.set 3 (.ptr false h.B.length h.c 0 0)).set 4 (.agg [dN, dM])).set 5 (.tup [])
  obtain ⟨l2, hh2, f1, f2, f3, f4⟩ := sl_loop (tbl := tbl) rp rd (d := dL) h3 (br := [dN, dM, dL]) rfl nL 0 (by omega) (l := L1.set 2 (.int .i64 0)) (h := hh1) rfl rfl rfl hB1 BL1
  have K1 : Keep [1, 3, 4, 5, 17] h hb := Keep.box
  have K2 : Keep [1, 3, 4, 5, 17] hb hh1 := e4.more (by intro z hz; simp at hz ⊢; omega)
  have K3 : Keep [1, 3, 4, 5, 17] hh1 hh2 := f3.more (by intro z hz; simp at hz ⊢; omega)
  have l0 : h.B.length ≤ hb.B.length := by rw [hbB]; simp
  refine ⟨hh2, ?_, (K1.trans K2 l0).trans K3 (Nat.le_trans l0 e5), Nat.le_trans (Nat.le_trans l0 e5) (by rw [f4]; exact Nat.le_refl _)⟩
  have hbody : ex tbl (shapeD t rg).body ([DV.agg [dN, dM, dL]] ++ List.replicate 24 DV.undef) h = some (.normal, l2, hh2) := by
    have a0 : ex tbl (.ops [⟨some 1, .box false 3 (.tmp 0), none⟩]) ([DV.agg [dN, dM, dL]] ++ List.replicate 24 DV.undef) h = some (.normal, L0, hb) := by
      simp [u0M, ops, wants, step, putT, gt, Opd.ev, DV.cells, c1, c2, c3, L0, hb, Hp.new]
    have a1 : ex tbl (.ops [⟨some 3, .fieldAddr 0 (.tmp 1), none⟩, ⟨some 4, .load (some 2) (.tmp 3), none⟩, ⟨some 5, .call (.val (.fn t [])) [.tmp 4] [], none⟩]) L0 hb = some (.normal, L1, hh1) := by
      have g1 : gt L0 1 = .ptr false h.B.length h.c 0 0 := rfl
      have gl : L0.length = 25 := rfl
      simp [u0M, ops, wants, step, putT, u0u, Opd.ev, g1, gl, hbb, hcall, L1]
    have a2 : ex tbl (.ops [⟨some 2, .move (.val (.int .i64 0)), none⟩]) L1 hh1 = some (.normal, L1.set 2 (.int .i64 0), hh1) := by simp [u0M, ops, wants, step, putT, Opd.ev]
    show ex tbl (.seq _ (.seq _ (.seq _ (.block 0 (.loop (slB rg)))))) _ h = _
    rw [u0z, a0]
    simp only
    rw [u0z, a1]
    simp only
    rw [u0z, a2]
    simp only
    rw [u0w, f1]
    simp only [if_true]
  simp only [callK, sp, sd, shapeD, List.append_nil, Bool.false_eq_true, if_false, List.length_cons, List.length_nil]
  rw [if_neg (by simp)]
  show (match ex tbl (shapeD t rg).body ([DV.agg [dN, dM, dL]] ++ List.replicate 24 DV.undef) h with | some (.ret, l, h') => _ | some (.normal, l, h') => _ | _ => none) = _
  rw [hbody]
  rfl
abbrev yReg : Sh := .pair (.int .i64) (.pair (.int .i64) u3R)
abbrev yLook : Sh := .pair u3R (.list yReg)
abbrev yShape : Sh := .pair yTree (.list yLook)
theorem slook_ok {X : RX} {dh : Hp} (hz : ∀ i k, X.z i = some k → dh.R[i]? = some k) {x : El yLook} {r : List DV} (h : RW X true yLook x r) (hs : small yLook x = true) : u4x dh r := by
  obtain ⟨d1, d2, rfl, h1, h2⟩ := h
  obtain ⟨dd, rfl, h3⟩ := h2
  have l1 : d1.length = 2 := RW.length h1
  obtain ⟨g1, g2⟩ := RYs.inBlkP hz h3 (P := fun _ => True) fun _ _ _ _ => trivial
  refine ⟨dd, x.2.length, ?_, g1.inBlk, ?_⟩
  · rw [List.getElem?_append_right (by omega), l1]; rfl
  · rw [show small yLook x = (small u3R x.1 && (decide (x.2.length ≤ 1000000) && x.2.all (small yReg))) from rfl] at hs
    simp only [Bool.and_eq_true, decide_eq_true_eq] at hs
    exact hs.2.1
theorem shape_w {f t g num rg : FuncId} (sp : tbl.prim f = none) (sd : tbl.fn f = some (shapeD t rg)) (fp : tbl.prim t = none) (fd : tbl.fn t = some (treeD g)) (hp : tbl.prim g = none) (hgd : tbl.fn g = some (opD num)) (np : tbl.prim num = none) (nd : tbl.fn num = some numD) (rp : tbl.prim rg = none) (rd : tbl.fn rg = some regD) : WOk (calls tbl (ex tbl)) f yShape := by
  intro X dh d y hz h ha _ hs
  obtain ⟨ds, rfl⟩ := ha rfl
  obtain ⟨dT, d3, hd, ⟨d1, d2, hT, h1, h2⟩, h3⟩ := h
  obtain ⟨dN, rfl, h1⟩ := h1
  obtain ⟨dM, rfl, h2⟩ := h2
  obtain ⟨dL, rfl, h3⟩ := h3
  subst hT
  have hds : ds = [dN, dM, dL] := hd
  subst hds
  rw [show small yShape y = (((decide (y.1.1.length ≤ 1000000) && y.1.1.all (small yNode)) && (decide (y.1.2.length ≤ 1000000) && y.1.2.all (small yEntry))) && (decide (y.2.length ≤ 1000000) && y.2.all (small yLook))) from rfl] at hs
  simp only [Bool.and_eq_true, decide_eq_true_eq, List.all_eq_true] at hs
  obtain ⟨b1, c1⟩ := RYs.inBlkP hz h1 (P := fun _ => True) fun _ _ _ _ => trivial
  obtain ⟨b2, c2⟩ := RYs.inBlkP hz h2 (P := OpOk dh) fun x hx r hr => entry_ok hz hr (hs.1.2.2 x hx)
  obtain ⟨b3, c3⟩ := RYs.inBlkP hz h3 (P := u4x dh) fun x hx r hr => slook_ok hz hr (hs.2.2 x hx)
  obtain ⟨h', e1, e2, _⟩ := shape_run sp sd fp fd hp hgd np nd rp rd hs.1.1.1 hs.1.2.1 hs.2.1 c1 c2 c3 b1.inBlk b2 b3
  exact ⟨h', e1, e2.b⟩
end
end Go.Dv
