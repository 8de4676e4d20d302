/- The engine: slots in a tree; the operations, each told by itself (laid by a program): the kernel is quicker so. -/
import Derived.Test.YtdpgchmodijllaaGreatDvD
import Derived.Test.YtdpgchmodijllaaGreatDvI
set_option linter.unusedVariables false
set_option linter.unusedSimpArgs false
namespace Go.Dv
inductive Sl where
  | lf (v : DV) | nd (n : Nat) (a b : Sl)
def Sl.toL : Sl → List DV
  | .lf v => [v]
  | .nd _ a b => a.toL ++ b.toL
def Sl.wf : Sl → Prop
  | .lf _ => True
  | .nd n a b => n = a.toL.length ∧ a.wf ∧ b.wf
noncomputable def Sl.get (s : Sl) (t : Nat) : DV :=
  @Sl.rec (fun _ => Nat → DV) (fun v t => cond (Nat.beq t 0) v .undef) (fun n _ _ ga gb t => @Bool.rec (fun _ => DV) (ga t) (gb (Nat.sub t n)) (Nat.ble n t)) s t
noncomputable def Sl.put (s : Sl) (t : Nat) (x : DV) : Sl :=
  @Sl.rec (fun _ => Nat → Sl) (fun v t => .lf (cond (Nat.beq t 0) x v)) (fun n a b ga gb t => @Bool.rec (fun _ => Sl) (.nd n (ga t) b) (.nd n a (gb (Nat.sub t n))) (Nat.ble n t)) s t
theorem Sl.get_eq : ∀ {s : Sl} {t : Nat}, s.wf → s.get t = gt s.toL t
  | .lf v, t, _ => by
    cases t <;> rfl
  | .nd n a b, t, h => by
    obtain ⟨h1, h2, h3⟩ := h
    have ia := Sl.get_eq (s := a) (t := t) h2
    have ib := Sl.get_eq (s := b) (t := t - n) h3
    show @Bool.rec (fun _ => DV) (a.get t) (b.get (t - n)) (Nat.ble n t) = _
    rw [ia, ib]
    simp only [Sl.toL, gt, List.getD_eq_getElem?_getD]
    by_cases hc : n ≤ t
    · rw [Nat.ble_eq_true_of_le hc, List.getElem?_append_right (by omega), h1]
    · have : Nat.ble n t = false := by
        cases e : Nat.ble n t with
        | false => rfl
        | true => exact absurd (Nat.le_of_ble_eq_true e) hc
      rw [this, List.getElem?_append_left (by omega)]
theorem Sl.put_eq : ∀ {s : Sl} {t : Nat} {x : DV}, s.wf → (s.put t x).wf ∧ (s.put t x).toL = s.toL.set t x
  | .lf v, t, x, _ => by
    cases t <;> exact ⟨trivial, rfl⟩
  | .nd n a b, t, x, h => by
    obtain ⟨h1, h2, h3⟩ := h
    have ia := Sl.put_eq (s := a) (t := t) (x := x) h2
    have ib := Sl.put_eq (s := b) (t := t - n) (x := x) h3
    have e0 : (Sl.nd n a b).put t x = @Bool.rec (fun _ => Sl) (.nd n (a.put t x) b) (.nd n a (b.put (t - n) x)) (Nat.ble n t) := rfl
    rw [e0]
    by_cases hc : n ≤ t
    · rw [Nat.ble_eq_true_of_le hc]
      refine ⟨⟨h1, h2, ib.1⟩, ?_⟩
      show a.toL ++ (b.put (t - n) x).toL = (a.toL ++ b.toL).set t x
      rw [ib.2, List.set_append_right t x (by omega), h1]
    · have : Nat.ble n t = false := by
        cases e : Nat.ble n t with
        | false => rfl
        | true => exact absurd (Nat.le_of_ble_eq_true e) hc
      rw [this]
      refine ⟨⟨by rw [h1, ia.2, List.length_set], ia.1, h3⟩, ?_⟩
      show (a.put t x).toL ++ b.toL = (a.toL ++ b.toL).set t x
      rw [ia.2, List.set_append_left t x (by omega)]
noncomputable def tabS (f : Nat → DV) (d : Nat) : Nat → Nat → Sl :=
  @Nat.rec (fun _ => Nat → Nat → Sl) (fun i _ => .lf (f i)) (fun _ r i n => cond (Nat.ble n 1) (.lf (f i)) (.nd (Nat.div n 2) (r i (Nat.div n 2)) (r (Nat.add i (Nat.div n 2)) (Nat.sub n (Nat.div n 2))))) d
theorem tabS_ok (f : Nat → DV) : ∀ (d i n : Nat), 0 < n → n ≤ 2 ^ d → (tabS f d i n).wf ∧ (tabS f d i n).toL = (List.range n).map fun k => f (i + k)
  | 0, i, n, h0, h1 => by
    have : n = 1 := by simp at h1; omega
    subst this
    exact ⟨trivial, by simp [tabS, Sl.toL]⟩
  | d + 1, i, n, h0, h1 => by
    have e0 : tabS f (d + 1) i n = cond (Nat.ble n 1) (.lf (f i)) (.nd (n / 2) (tabS f d i (n / 2)) (tabS f d (i + n / 2) (n - n / 2))) := rfl
    rw [e0]
    by_cases hc : n ≤ 1
    · rw [Nat.ble_eq_true_of_le hc]
      have : n = 1 := by omega
      subst this
      exact ⟨trivial, by simp [Sl.toL]⟩
    · have : Nat.ble n 1 = false := by
        cases e : Nat.ble n 1 with
        | false => rfl
        | true => exact absurd (Nat.le_of_ble_eq_true e) hc
      rw [this]
      obtain ⟨a1, a2⟩ := tabS_ok f d i (n / 2) (by omega) (by rw [Nat.pow_succ] at h1; omega)
      obtain ⟨b1, b2⟩ := tabS_ok f d (i + n / 2) (n - n / 2) (by omega) (by rw [Nat.pow_succ] at h1; omega)
      refine ⟨⟨by simp [a2], a1, b1⟩, ?_⟩
      show (tabS f d i (n / 2)).toL ++ (tabS f d (i + n / 2) (n - n / 2)).toL = _
      rw [a2, b2]
      apply List.ext_getElem (by simp; omega)
      intro k k1 k2
      by_cases hk : k < n / 2
      · rw [List.getElem_append_left (by simpa using hk)]; simp
      · rw [List.getElem_append_right (by simpa using Nat.le_of_not_lt hk)]
        simp only [List.getElem_map, List.getElem_range, List.length_map, List.length_range]
        congr 1
        omega
noncomputable def ofL (l : List DV) : Sl := tabS (gt l) 20 0 l.length
theorem ofL_ok {l : List DV} (h0 : 0 < l.length) (h1 : l.length ≤ 2 ^ 20) : (ofL l).wf ∧ (ofL l).toL = l := by
  obtain ⟨a, b⟩ := tabS_ok (gt l) 20 0 l.length h0 h1
  refine ⟨a, ?_⟩
  rw [ofL, b]
  apply List.ext_getElem (by simp)
  intro k k1 k2
  simp only [List.getElem_map, List.getElem_range, Nat.zero_add, gt, List.getD_eq_getElem?_getD, List.getElem?_eq_getElem k2, Option.getD_some]
noncomputable def Opd.evS (l : Sl) : Opd → DV
  | .tmp t => l.get t
  | .val v => v
  | .frz t => (l.get t).fzn
theorem Opd.evS_eq {l : Sl} (w : l.wf) (x : Opd) : x.evS l = x.ev l.toL := by
  cases x <;> simp only [Opd.evS, Opd.ev, Sl.get_eq w]
noncomputable def wrapI (n : Int) : Int := @Int.rec (fun _ => Int) (fun m => @Bool.rec (fun _ => Int) (IntKind.wrap .i64 (.ofNat m)) (.ofNat m) (Nat.ble m 9223372036854775807)) (fun m => @Bool.rec (fun _ => Int) (IntKind.wrap .i64 (.negSucc m)) (.negSucc m) (Nat.ble m 9223372036854775807)) n
noncomputable def ltI (a b : Int) : Bool := @Int.rec (fun _ => Int → Bool) (fun m b => @Int.rec (fun _ => Bool) (fun n => Nat.ble (Nat.succ m) n) (fun _ => false) b) (fun m b => @Int.rec (fun _ => Bool) (fun _ => true) (fun n => Nat.ble (Nat.succ n) m) b) a b
noncomputable def eqI (a b : Int) : Bool := @Int.rec (fun _ => Int → Bool) (fun m b => @Int.rec (fun _ => Bool) (fun n => Nat.beq m n) (fun _ => false) b) (fun m b => @Int.rec (fun _ => Bool) (fun _ => false) (fun n => Nat.beq m n) b) a b
noncomputable def notB (b : Bool) : Bool := @Bool.rec (fun _ => Bool) true false b
noncomputable def isI64 (k : IntKind) : Bool := @IntKind.rec (fun _ => Bool) false false false true false false false false k
theorem wrapI_eq (n : Int) : wrapI n = IntKind.wrap .i64 n := by
  have key : ∀ n : Int, -9223372036854775808 ≤ n → n ≤ 9223372036854775807 → IntKind.wrap .i64 n = n := by
    intro n h1 h2
    have e1 : (2 : Int) ^ 64 = 18446744073709551616 := by decide
    have e2 : (2 : Int) ^ (64 - 1) = 9223372036854775808 := by decide
    simp only [IntKind.wrap, IntKind.bits, IntKind.signed, e1, e2, Bool.true_and, decide_eq_true_eq]
    split <;> omega
  cases n with
  | ofNat m =>
    show @Bool.rec (fun _ => Int) _ _ (Nat.ble m 9223372036854775807) = _
    cases h : Nat.ble m 9223372036854775807 with
    | false => rfl
    | true => have := Nat.le_of_ble_eq_true h; show Int.ofNat m = _; exact (key _ (by simp only [Int.ofNat_eq_natCast]; omega) (by simp only [Int.ofNat_eq_natCast]; omega)).symm
  | negSucc m =>
    show @Bool.rec (fun _ => Int) _ _ (Nat.ble m 9223372036854775807) = _
    cases h : Nat.ble m 9223372036854775807 with
    | false => rfl
    | true => have := Nat.le_of_ble_eq_true h; show Int.negSucc m = _; exact (key _ (by omega) (by omega)).symm
theorem ltI_eq (a b : Int) : ltI a b = decide (a < b) := by
  cases a <;> cases b <;> simp only [ltI]
  · rename_i m n; cases h : Nat.ble (Nat.succ m) n with
    | false =>
             have : ¬ Nat.succ m ≤ n := fun q => by rw [Nat.ble_eq_true_of_le q] at h; cases h
             symm; rw [decide_eq_false_iff_not]; simp only [Int.ofNat_eq_natCast]; omega
    | true => have := Nat.le_of_ble_eq_true h; symm; rw [decide_eq_true_eq]; simp only [Int.ofNat_eq_natCast]; omega
  · symm; rw [decide_eq_false_iff_not]; simp only [Int.ofNat_eq_natCast]; omega
  · symm; rw [decide_eq_true_eq]; simp only [Int.ofNat_eq_natCast]; omega
  · rename_i m n; cases h : Nat.ble (Nat.succ n) m with
    | false =>
             have : ¬ Nat.succ n ≤ m := fun q => by rw [Nat.ble_eq_true_of_le q] at h; cases h
             symm; rw [decide_eq_false_iff_not]; omega
    | true => have := Nat.le_of_ble_eq_true h; symm; rw [decide_eq_true_eq]; omega
theorem eqI_eq (a b : Int) : eqI a b = (a == b) := by
  cases a <;> cases b <;> simp only [eqI]
  · rename_i m n; rw [Bool.eq_iff_iff]; simp only [Nat.beq_eq, beq_iff_eq, Int.ofNat_eq_natCast]; omega
  · symm; rw [beq_eq_false_iff_ne]; simp
  · symm; rw [beq_eq_false_iff_ne]; simp
  · rename_i m n; rw [Bool.eq_iff_iff]; simp only [Nat.beq_eq, beq_iff_eq]; omega
noncomputable def binI (op : BinOp) : Int → Int → Option DV :=
  @BinOp.rec (fun _ => Int → Int → Option DV) (fun a b => some (.int .i64 (wrapI (Int.add a b)))) (fun a b => some (.int .i64 (wrapI (Int.sub a b)))) (fun a b => binOp .mul (.int .i64 a) (.int .i64 b)) (fun a b => binOp .quo (.int .i64 a) (.int .i64 b)) (fun a b => binOp .rem (.int .i64 a) (.int .i64 b)) (fun a b => binOp .and (.int .i64 a) (.int .i64 b)) (fun a b => binOp .or (.int .i64 a) (.int .i64 b)) (fun a b => binOp .xor (.int .i64 a) (.int .i64 b)) (fun a b => binOp .shl (.int .i64 a) (.int .i64 b)) (fun a b => binOp .shr (.int .i64 a) (.int .i64 b)) (fun a b => binOp .andNot (.int .i64 a) (.int .i64 b))
    (fun a b => some (.bool (eqI a b))) (fun a b => some (.bool (notB (eqI a b)))) (fun a b => some (.bool (ltI a b))) (fun a b => some (.bool (notB (ltI b a)))) (fun a b => some (.bool (ltI b a))) (fun a b => some (.bool (notB (ltI a b)))) op
noncomputable def binF (op : BinOp) (v w : DV) : Option DV := match v with
  | .int k a => match w with
    | .int k' b => @Bool.rec (fun _ => Option DV) (binOp op (.int k a) (.int k' b)) (@Bool.rec (fun _ => Option DV) (binOp op (.int k a) (.int k' b)) (binI op a b) (isI64 k')) (isI64 k)
    | w => binOp op (.int k a) w
  | v => binOp op v w
theorem notB_eq (b : Bool) : notB b = !b := by cases b <;> rfl
theorem binI_eq (op : BinOp) (a b : Int) : binI op a b = binOp op (.int .i64 a) (.int .i64 b) := by
  have e1 : (!decide (b < a)) = decide (a ≤ b) := by rw [Bool.eq_iff_iff]; simp
  have e2 : (!decide (a < b)) = decide (b ≤ a) := by rw [Bool.eq_iff_iff]; simp
  cases op <;> simp only [binI, binOp, intOp, if_true, wrapI_eq, eqI_eq, ltI_eq, notB_eq, bne, e1, e2, GT.gt, GE.ge] <;> rfl
theorem binF_eq (op : BinOp) (v w : DV) : binF op v w = binOp op v w := by
  unfold binF
  split
  · split
    · rename_i k a _ k' b
      cases k <;> first
        | rfl
        | (cases k' <;> first
            | rfl
            | exact binI_eq op a b)
    · rfl
  · rfl
section
variable {α : Type}
noncomputable def frcN (n : Nat) (c : Nat → α) : α := @Nat.rec (fun _ => α) (c 0) (fun m _ => c (Nat.succ m)) n
noncomputable def frcI (n : Int) (c : Int → α) : α := @Int.rec (fun _ => α) (fun m => frcN m fun m => c (.ofNat m)) (fun m => frcN m fun m => c (.negSucc m)) n
noncomputable def frcB (b : Bool) (c : Bool → α) : α := @Bool.rec (fun _ => α) (c false) (c true) b
noncomputable def frcL {β : Type} (f : β → (β → α) → α) (l : List β) : (List β → α) → α :=
  @List.rec β (fun _ => (List β → α) → α) (fun c => c []) (fun a _ ih c => f a fun a => ih fun r => c (a :: r)) l
noncomputable def frc1 (v : DV) (c : DV → α) : α := match v with
  | .int k n => frcI n fun n => c (.int k n)
  | .bool b => frcB b fun b => c (.bool b)
  | .sl i s off len => frcN i fun i => frcN s fun s => frcN off fun off => frcN len fun len => c (.sl i s off len)
  | .ptr b i s e o => frcB b fun b => frcN i fun i => frcN s fun s => frcN e fun e => frcN o fun o => c (.ptr b i s e o)
  | v => c v
noncomputable def frcS (v : DV) (c : DV → α) : α := match v with
  | .agg cs => frcL frc1 cs fun cs => c (.agg cs)
  | .tup cs => frcL frc1 cs fun cs => c (.tup cs)
  | v => frc1 v c
theorem frcN_eq (n : Nat) (c : Nat → α) : frcN n c = c n := by cases n <;> rfl
theorem frcI_eq (n : Int) (c : Int → α) : frcI n c = c n := by cases n <;> simp only [frcI, frcN_eq]
theorem frcB_eq (b : Bool) (c : Bool → α) : frcB b c = c b := by cases b <;> rfl
theorem frcL_eq {β : Type} {f : β → (β → α) → α} (hf : ∀ b c, f b c = c b) : ∀ (l : List β) (c : List β → α), frcL f l c = c l
  | [], _ => rfl
  | a :: r, c => by
    have e0 : frcL f (a :: r) c = f a fun a => frcL f r fun r => c (a :: r) := rfl
    rw [e0, hf, frcL_eq hf r]
theorem frc1_eq (v : DV) (c : DV → α) : frc1 v c = c v := by cases v <;> simp only [frc1, frcI_eq, frcB_eq, frcN_eq]
theorem frcS_eq (v : DV) (c : DV → α) : frcS v c = c v := by
  cases v <;> simp only [frcS, frc1_eq, frcL_eq frc1_eq]
end
noncomputable def frcO (o : Option (DV × Hp)) : Option (DV × Hp) := match o with
  | some (v, h) => frcS v fun v => some (v, h)
  | none => none
theorem frcO_eq (o : Option (DV × Hp)) : frcO o = o := by
  unfold frcO; split <;> simp only [frcS_eq]
section
variable {α : Type}
noncomputable def ixF (l : List α) (n : Nat) : Option α := @List.rec α (fun _ => Nat → Option α) (fun _ => none) (fun a _ ih n => @Nat.rec (fun _ => Option α) (some a) (fun m _ => ih m) n) l n
theorem ixF_eq : ∀ (l : List α) (n : Nat), ixF l n = l[n]?
  | [], n => by simp [ixF]
  | a :: r, 0 => rfl
  | a :: r, n + 1 => by
    have := ixF_eq r n
    rw [List.getElem?_cons_succ, ← this]; rfl
noncomputable def stF (l : List α) (n : Nat) (v : α) : List α := @List.rec α (fun _ => Nat → α → List α) (fun _ _ => []) (fun a r ih n v => @Nat.rec (fun _ => List α) (v :: r) (fun m _ => a :: ih m v) n) l n v
theorem stF_eq : ∀ (l : List α) (n : Nat) (v : α), stF l n v = l.set n v
  | [], n, v => by simp [stF]
  | a :: r, 0, v => rfl
  | a :: r, n + 1, v => by
    have := stF_eq r n v
    rw [List.set_cons_succ, ← this]; rfl
noncomputable def lnF (l : List α) : Nat := @List.rec α (fun _ => Nat) 0 (fun _ _ ih => Nat.add ih 1) l
theorem lnF_eq : ∀ (l : List α), lnF l = l.length
  | [] => rfl
  | a :: r => by
    have := lnF_eq r
    rw [List.length_cons, ← this]; rfl
noncomputable def apF (l : List α) (v : α) : List α := @List.rec α (fun _ => α → List α) (fun v => [v]) (fun a _ ih v => a :: ih v) l v
theorem apF_eq : ∀ (l : List α) (v : α), apF l v = l ++ [v]
  | [], v => rfl
  | a :: r, v => by
    have := apF_eq r v
    rw [List.cons_append, ← this]; rfl
end
noncomputable def Hp.heapF (h : Hp) (b : Bool) : List Blk := @Bool.rec (fun _ => List Blk) h.B h.R b
noncomputable def Hp.blkF (h : Hp) (b : Bool) (i s : Nat) : Option Blk :=
  match ixF (h.heapF b) i with
  | some k => @Bool.rec (fun _ => Option Blk) none (some k) (Nat.beq k.s s)
  | none => none
theorem Hp.blkF_eq (h : Hp) (b : Bool) (i s : Nat) : h.blkF b i s = h.blk b i s := by
  have e : h.heapF b = h.heap b := by cases b <;> rfl
  unfold Hp.blkF Hp.blk
  rw [ixF_eq, e]
  cases (h.heap b)[i]? with
  | none => rfl
  | some k =>
    by_cases hk : k.s = s
    · simp only [hk, Nat.beq_refl, if_true]
    · simp only [if_neg hk, show Nat.beq k.s s = false from by cases hb : Nat.beq k.s s with | false => rfl | true => exact absurd (Nat.eq_of_beq_eq_true hb) hk]
noncomputable def Hp.putF (h : Hp) (b : Bool) (i : Nat) (k : Blk) : Hp := @Bool.rec (fun _ => Hp) { h with B := stF h.B i k } { h with R := stF h.R i k } b
theorem Hp.putF_eq (h : Hp) (b : Bool) (i : Nat) (k : Blk) : h.putF b i k = h.put b i k := by cases b <;> simp only [Hp.putF, Hp.put, stF_eq] <;> rfl
noncomputable def Hp.newF (h : Hp) (b : Bool) (z : Nat) (xs : List (List DV)) : Nat × Hp :=
  @Bool.rec (fun _ => Nat × Hp) (lnF h.B, { h with B := apF h.B ⟨h.c, z, xs⟩, c := Nat.add h.c 1 }) (lnF h.R, { h with R := apF h.R ⟨h.c, z, xs⟩, c := Nat.add h.c 1 }) b
theorem Hp.newF_eq (h : Hp) (b : Bool) (z : Nat) (xs : List (List DV)) : h.newF b z xs = h.new b z xs := by cases b <;> simp only [Hp.newF, Hp.new, lnF_eq, apF_eq] <;> rfl
noncomputable section
variable (K : Oracle) (l : Sl) (h : Hp)
def s_move (x : Opd) : Option (DV × Hp) := some (x.evS l, h)
def s_pick (c : Opd) (a : Opd) (b : Opd) : Option (DV × Hp) := match c.evS l with
    | .bool b' => some (if b' then a.evS l else b.evS l, h)
    | _ => none
def s_alloc (esc : Bool) (z : Nat) (cs : List DV) : Option (DV × Hp) := some (.ptr esc (h.newF esc z [cs]).1 h.c 0 0, (h.newF esc z [cs]).2)
def s_box (esc : Bool) (z : Nat) (x : Opd) : Option (DV × Hp) := if (x.evS l).cells.length = z ∧ (x.evS l).cells.all DV.isCell then some (.ptr esc (h.newF esc z [(x.evS l).cells]).1 h.c 0 0, (h.newF esc z [(x.evS l).cells]).2) else none
def s_build (zero : List DV) (ps : List (Nat × Nat × Opd)) : Option (DV × Hp) :=
    if ps.all fun p => (p.2.2.evS l).cells.length == p.2.1 && (p.2.2.evS l).cells.all DV.isCell then (fill zero (ps.map fun p => (p.1, (p.2.2.evS l).cells))).map fun cs => (.agg cs, h) else none
def s_buildSlice (z : Nat) (len : Nat) (zero : List DV) (ps : List (Nat × Opd)) : Option (DV × Hp) :=
    if zero.all DV.isCell ∧ ps.all fun p => (p.2.evS l).cells.length == z && (p.2.evS l).cells.all DV.isCell then
      match fill ((List.replicate len zero).flatten) (ps.map fun p => (p.1 * z, (p.2.evS l).cells)) with
      | some cs => some (.sl (h.new true z (chunk z len cs)).1 h.c 0 len, (h.new true z (chunk z len cs)).2)
      | none => none
    else none
def s_load (z : Option Nat) (x : Opd) : Option (DV × Hp) := match x.evS l with
    | .ptr b i s e o => match h.blkF b i s with
      | some k => match ixF k.xs e with
        | some r => match z with
          | some n => if o + n ≤ r.length then some (.agg ((r.drop o).take n), h) else none
          | none => match ixF r o with
            | some v => some (v, h)
            | none => none
        | none => none
      | none => none
    | .fp r => match z with
      | some n => if n ≤ r.length then some (.agg (r.take n), h) else none
      | none => match r with
        | v :: _ => some (v, h)
        | [] => none
    | _ => none
def s_store (z : Nat) (x : Opd) (y : Opd) (ap : List (Nat × Opd)) : Option (DV × Hp) := match x.evS l with
    | .ptr b i s e o => match h.blkF b i s with
      | some k => match ixF k.xs e with
        | some r =>
          if (y.evS l).cells.length = z ∧ o + z ≤ r.length ∧ (y.evS l).cells.all DV.isCell ∧ ap.all (fun p => apartOk (x.evS l) z (p.2.evS l) p.1) then
            some (.undef, h.putF b i { k with xs := stF k.xs e (overlay r o (y.evS l).cells) })
          else none
        | none => none
      | none => none
    | _ => none
def s_nilCheck (x : Opd) : Option (DV × Hp) := match x.evS l with
    | .ptr b i s e o => some (.ptr b i s e o, h)
    | .fp r => some (.fp r, h)
    | _ => none
def s_bin (op : BinOp) (x : Opd) (y : Opd) : Option (DV × Hp) := (binF op (x.evS l) (y.evS l)).map fun v => (v, h)
def s_eqv (k : EqK) (neg : Bool) (x : Opd) (y : Opd) : Option (DV × Hp) := (eqv k (x.evS l) (y.evS l)).map fun b => (.bool (if neg then !b else b), h)
def s_un (op : UnOp) (x : Opd) : Option (DV × Hp) := (unOp op (x.evS l)).map fun v => (v, h)
def s_conv (k : IntKind) (x : Opd) : Option (DV × Hp) := match x.evS l with
    | .int _ n => some (.int k (k.wrap n), h)
    | _ => none
def s_toStr (x : Opd) : Option (DV × Hp) := match elems h 1 (x.evS l) with
    | some xs => (bytesOf xs).map fun b => (.str ⟨b.toArray⟩, h)
    | none => none
def s_toBytes (x : Opd) : Option (DV × Hp) := match x.evS l with
    | .str b => some (.sl (h.new true 1 (b.toList.map fun x => [.int .u8 x.toNat])).1 h.c 0 b.size, (h.new true 1 (b.toList.map fun x => [.int .u8 x.toNat])).2)
    | _ => none
def s_same (x : Opd) : Option (DV × Hp) := match x.evS l with
    | .str s => some (.str s, h)
    | _ => none
def s_makeSlice (z : Nat) (bytes : Nat) (zero : List DV) (a : Opd) (c : Opd) : Option (DV × Hp) := match a.evS l, c.evS l with
    | .int _ n, .int _ m =>
      if 0 ≤ n ∧ n ≤ m ∧ room m.toNat bytes then
        some (.sl (h.new true z (List.replicate n.toNat zero)).1 h.c 0 n.toNat, (h.new true z (List.replicate n.toNat zero)).2)
      else none
    | _, _ => none
def s_slice (zz : Nat) (x : Opd) (lo : Option Opd) (hi : Option Opd) : Option (DV × Hp) := match x.evS l with
    | .str s => match bound (lo.map (·.evS l)) 0, bound (hi.map (·.evS l)) s.size with
      | some a, some b => if a ≤ b ∧ b ≤ s.size ∧ zz = 0 then some (.str (s.extract a b), h) else none
      | _, _ => none
    | .nils => match bound (lo.map (·.evS l)) 0, bound (hi.map (·.evS l)) 0 with
      | some a, some b => if a ≤ b ∧ b ≤ 0 ∧ zz ≠ 0 then some (.nils, h) else none
      | _, _ => none
    | .row z xs => match bound (lo.map (·.evS l)) 0, bound (hi.map (·.evS l)) xs.length with
      | some a, some b => if a ≤ b ∧ b ≤ xs.length ∧ z = zz ∧ zz ≠ 0 then some (.row z ((xs.take b).drop a), h) else none
      | _, _ => none
    | .sl i s off len => match bound (lo.map (·.evS l)) 0, bound (hi.map (·.evS l)) len with
      | some a, some b => match h.blk true i s with
        | some k => if a ≤ b ∧ (b ≤ len ∨ off + b ≤ k.xs.length) ∧ k.z = zz ∧ zz ≠ 0 then some (.sl i s (off + a) (b - a), h) else none
        | none => none
      | _, _ => none
    | _ => none
def s_chk3 (x : Opd) (lo : Option Opd) (hi : Option Opd) (m : Opd) : Option (DV × Hp) := match lenOf (x.evS l), bound (lo.map (·.evS l)) 0, bound (hi.map (·.evS l)) 0, bound (some (m.evS l)) 0 with
    | some n, some a, some b, some c => if a ≤ b ∧ b ≤ c ∧ c ≤ n then some (.undef, h) else none
    | _, _, _, _ => none
def s_clear (z : Nat) (zero : List DV) (x : Opd) : Option (DV × Hp) := match x.evS l with
    | .nils => some (.tup [], h)
    | .sl i s off len => match h.blk true i s with
      | some k => if k.z = z ∧ off + len ≤ k.xs.length then some (.tup [], h.put true i { k with xs := k.xs.take off ++ List.replicate len zero ++ k.xs.drop (off + len) }) else none
      | none => none
    | _ => none
def s_fieldAddr (off : Nat) (x : Opd) : Option (DV × Hp) := match x.evS l with
    | .ptr b i s e o => some (.ptr b i s e (o + off), h)
    | .fp r => some (.fp (r.drop off), h)
    | _ => none
def s_field (off : Nat) (z : Option Nat) (x : Opd) : Option (DV × Hp) := match x.evS l with
    | .agg cs => match z with
      | some n => if off + n ≤ cs.length then some (.agg ((cs.drop off).take n), h) else none
      | none => match ixF cs off with
        | some v => some (v, h)
        | none => none
    | _ => none
def s_indexAddr (z : Nat) (x : Opd) (i : Opd) : Option (DV × Hp) := match x.evS l, i.evS l with
    | .sl b s off len, .int _ n => if 0 ≤ n ∧ n.toNat < len then
        match h.blkF true b s with
        | some k => if k.z = z then some (.ptr true b s (off + n.toNat) 0, h) else none
        | none => none
      else none
    | .row z' xs, .int _ n => if 0 ≤ n ∧ z' = z then
        match ixF xs n.toNat with
        | some r => some (.fp r, h)
        | none => none
      else none
    | _, _ => none
def s_indexArr (m : Nat) (z : Nat) (x : Opd) (i : Opd) : Option (DV × Hp) := match x.evS l, i.evS l with
    | .ptr b j s e o, .int _ n => if 0 ≤ n ∧ n.toNat < m then some (.ptr b j s e (o + n.toNat * z), h) else none
    | .fp r, .int _ n => if 0 ≤ n ∧ n.toNat < m then some (.fp (r.drop (n.toNat * z)), h) else none
    | _, _ => none
def s_indexStr (x : Opd) (i : Opd) : Option (DV × Hp) := match x.evS l, i.evS l with
    | .str s, .int _ n => if 0 ≤ n then
        match s.toList[n.toNat]? with
        | some c => some (.int .u8 c.toNat, h)
        | none => none
      else none
    | _, _ => none
def s_indexVal (m : Nat) (s : Nat) (z : Option Nat) (x : Opd) (i : Opd) : Option (DV × Hp) := match x.evS l, i.evS l with
    | .agg cs, .int _ n => if 0 ≤ n ∧ n.toNat < m then
        match z with
        | some k => if n.toNat * s + k ≤ cs.length then some (.agg ((cs.drop (n.toNat * s)).take k), h) else none
        | none => match cs[n.toNat * s]? with
          | some v => some (v, h)
          | none => none
      else none
    | _, _ => none
def s_extract (i : Nat) (x : Opd) : Option (DV × Hp) := match x.evS l with
    | .tup vs => match ixF vs i with
      | some v => some (v, h)
      | none => none
    | _ => none
def s_len (st : Bool) (x : Opd) : Option (DV × Hp) := match st, x.evS l with
    | false, .nils => some (.int .i64 0, h)
    | false, .row _ xs => some (.int .i64 xs.length, h)
    | false, .sl _ _ _ n => some (.int .i64 n, h)
    | true, .str s => some (.int .i64 s.size, h)
    | _, _ => none
def s_append (z : Nat) (bytes : Nat) (st : Bool) (x : Opd) (y : Opd) : Option (DV × Hp) := match elemsOf h z st (y.evS l) with
    | some ys => match appendTo h z (x.evS l) ys with
      | some r => match r.1 with
        | .sl _ _ _ n => if room n bytes then some r else none
        | _ => some r
      | none => none
    | none => none
def s_copy (z : Nat) (st : Bool) (x : Opd) (y : Opd) : Option (DV × Hp) := match elemsOf h z st (y.evS l), x.evS l with
    | some ys, .sl i s off len => match h.blk true i s with
      | some k => if k.z = z ∧ off + len ≤ k.xs.length then
          some (.int .i64 (min ys.length len : Nat), h.put true i { k with xs := k.xs.take off ++ ys.take len ++ k.xs.drop (off + min ys.length len) })
        else none
      | none => none
    | _, _ => none
def s_maxm (mx : Bool) (xs : List Opd) : Option (DV × Hp) := match xs.map (fun x => Opd.evS l x) with
    | [.int k a, .int _ b] => some (.int k (if mx then (if b > a then b else a) else (if b < a then b else a)), h)
    | _ => none
def s_makeFunc (f : FuncId) (xs : List Opd) : Option (DV × Hp) := some (.fn f (xs.map (·.evS l)), h)
def s_call (f : Opd) (args : List Opd) (ap : List (Nat × Opd)) : Option (DV × Hp) := match K.k (f.evS l) (args.map fun x => Opd.evS l x) h with
    | some (v, h') => if ap.all fun q => keeps h h' q.1 (q.2.evS l) then some (v, h') else none
    | none => none
def s_callq (f : Opd) (args : List Opd) : Option (DV × Hp) :=
    if okDeep h 8 (f.evS l) && (args.map fun x => Opd.evS l x).all (okDeep h 8) then
      match K.q (res h 8 (f.evS l)) ((args.map fun x => Opd.evS l x).map (res h 8)) with
      | some v => if v.flat || ((f.evS l).still && (args.map fun x => Opd.evS l x).all DV.still) then some (v, h) else none
      | none => none
    else none
def stepF (K : Oracle) (l : Sl) (h : Hp) (op : DOp) : Option (DV × Hp) :=
  @DOp.rec (fun _ => Oracle → Sl → Hp → Option (DV × Hp))
    (fun x K l h => s_move l h x)
    (fun c a b K l h => s_pick l h c a b)
    (fun esc z cs K l h => s_alloc h esc z cs)
    (fun esc z x K l h => frcO (s_box l h esc z x))
    (fun zero ps K l h => s_build l h zero ps)
    (fun z len zero ps K l h => frcO (s_buildSlice l h z len zero ps))
    (fun z x K l h => s_load l h z x)
    (fun z x y ap K l h => s_store l h z x y ap)
    (fun x K l h => s_nilCheck l h x)
    (fun op x y K l h => frcO (s_bin l h op x y))
    (fun k neg x y K l h => frcO (s_eqv l h k neg x y))
    (fun op x K l h => frcO (s_un l h op x))
    (fun k x K l h => frcO (s_conv l h k x))
    (fun x K l h => frcO (s_toStr l h x))
    (fun x K l h => s_toBytes l h x)
    (fun x K l h => s_same l h x)
    (fun z bytes zero a c K l h => frcO (s_makeSlice l h z bytes zero a c))
    (fun zz x lo hi K l h => frcO (s_slice l h zz x lo hi))
    (fun x lo hi m K l h => s_chk3 l h x lo hi m)
    (fun z zero x K l h => s_clear l h z zero x)
    (fun off x K l h => s_fieldAddr l h off x)
    (fun off z x K l h => s_field l h off z x)
    (fun z x i K l h => frcO (s_indexAddr l h z x i))
    (fun m z x i K l h => frcO (s_indexArr l h m z x i))
    (fun x i K l h => frcO (s_indexStr l h x i))
    (fun m s z x i K l h => frcO (s_indexVal l h m s z x i))
    (fun i x K l h => s_extract l h i x)
    (fun st x K l h => frcO (s_len l h st x))
    (fun z bytes st x y K l h => frcO (s_append l h z bytes st x y))
    (fun z st x y K l h => frcO (s_copy l h z st x y))
    (fun mx xs K l h => frcO (s_maxm l h mx xs))
    (fun f xs K l h => s_makeFunc l h f xs)
    (fun f args ap K l h => frcO (s_call K l h f args ap))
    (fun f args K l h => frcO (s_callq K l h f args)) op K l h
end
theorem stepF_eq (K : Oracle) {l : Sl} (w : l.wf) (h : Hp) (op : DOp) : stepF K l h op = step K l.toL h op := by
  have e := Opd.evS_eq w
  have e' : Opd.evS l = Opd.ev l.toL := funext e
  cases op <;> simp only [stepF, step, frcO_eq, s_move, s_pick, s_alloc, s_box, s_build, s_buildSlice, s_load, s_store, s_nilCheck, s_bin, s_eqv, s_un, s_conv, s_toStr, s_toBytes, s_same, s_makeSlice, s_slice, s_chk3, s_clear, s_fieldAddr, s_field, s_indexAddr, s_indexArr, s_indexStr, s_indexVal, s_extract, s_len, s_append, s_copy, s_maxm, s_makeFunc, s_call, s_callq, e, binF_eq, ixF_eq, stF_eq, Hp.blkF_eq, Hp.putF_eq, Hp.newF_eq] <;> rfl
end Go.Dv
/- The engine: the run over slots in a tree, told so that the kernel evaluates it quickly; some functions by their natives. -/
set_option linter.unusedVariables false
set_option linter.unusedSimpArgs false
namespace Go.Dv
abbrev RunsF := DC → Sl → Hp → Option (Ex × Sl × Hp)
inductive Ent where
  | none | code (d : DF) | prim (p : List DV → Hp → Option (DV × Hp)) | nat (p : List DV → Option DV)
inductive TF where
  | leaf | node (k : Nat) (e : Ent) (a b : TF)
noncomputable section
section
variable {α : Type}
def frc (n : Nat) : DV → (DV → α) → α :=
  @Nat.rec (fun _ => DV → (DV → α) → α) (fun v c => c v) (fun _ r v c => match v with
    | .row z xs => frcN z fun z => frcL (frcL r) xs fun xs => c (.row z xs)
    | .fp cs => frcL r cs fun cs => c (.fp cs)
    | .agg cs => frcL r cs fun cs => c (.agg cs)
    | .tup cs => frcL r cs fun cs => c (.tup cs)
    | .fn f cs => frcL r cs fun cs => c (.fn f cs)
    | v => frc1 v c) n
def frcK (k : Blk) (c : Blk → α) : α := match k with
  | ⟨s, z, xs⟩ => frcN s fun s => frcN z fun z => frcL (frcL (frc 10)) xs fun xs => c ⟨s, z, xs⟩
def frcT {β : Type} (f : β → (β → α) → α) (l : List β) (c : List β → α) : α := match l with
  | [] => c []
  | a :: r => frcL f r fun r => c (a :: r)
def frc0 {β : Type} (b : β) (c : β → α) : α := c b
def frcH (h : Hp) (c : Hp → α) : α := match h with
  | ⟨B, R, n⟩ => frcL frc0 B fun B => frcL frcK R fun R => frcN n fun n => c ⟨B, R, n⟩
theorem frc0_eq {β : Type} (b : β) (c : β → α) : frc0 b c = c b := rfl
theorem frc_eq : ∀ (n : Nat) (v : DV) (c : DV → α), frc n v c = c v
  | 0, _, _ => rfl
  | n + 1, v, c => by
    have e0 : frc (n + 1) v c = match v with
      | .row z xs => frcN z fun z => frcL (frcL (frc n)) xs fun xs => c (.row z xs)
      | .fp cs => frcL (frc n) cs fun cs => c (.fp cs)
      | .agg cs => frcL (frc n) cs fun cs => c (.agg cs)
      | .tup cs => frcL (frc n) cs fun cs => c (.tup cs)
      | .fn f cs => frcL (frc n) cs fun cs => c (.fn f cs)
      | v => frc1 v c := rfl
    rw [e0]
    cases v <;> simp only [frc1_eq, frcN_eq, frcL_eq (frc_eq n), frcL_eq (frcL_eq (frc_eq n))]
theorem frcK_eq (k : Blk) (c : Blk → α) : frcK k c = c k := by
  obtain ⟨s, z, xs⟩ := k
  simp only [frcK, frcN_eq, frcL_eq (frcL_eq (frc_eq 10))]
theorem frcH_eq (h : Hp) (c : Hp → α) : frcH h c = c h := by
  obtain ⟨B, R, n⟩ := h
  simp only [frcH, frcN_eq, frcL_eq frcK_eq, frcL_eq (frc0_eq (β := Blk))]
end
def TF.get (t : TF) (f : Nat) : Ent :=
  @TF.rec (fun _ => Nat → Ent) (fun _ => .none) (fun k e _ _ ga gb f => cond (Nat.beq f k) e (cond (Nat.ble f k) (ga f) (gb f))) t f
def wantsF (l : Sl) : Option (Nat × Bool) → Option Bool
  | none => some true
  | some (t, b) => match l.get t with
    | .bool b' => some (b' == b)
    | .tup _ => some false
    | _ => none
def putF (l : Sl) (d : Option Nat) (v : DV) : Sl :=
  match d with
  | some d => l.put d v
  | none => l
def opR (K : Oracle) (o : DOper) (ih : Sl → Hp → Option (Sl × Hp)) (l : Sl) (h : Hp) : Option (Sl × Hp) :=
  match stepF K l h o.op with
  | some (v, h') => ih (putF l o.dst v) h'
  | none => none
def opG (K : Oracle) (o : DOper) (ih : Sl → Hp → Option (Sl × Hp)) (l : Sl) (h : Hp) (w : Option Bool) : Option (Sl × Hp) :=
  match w with
  | some true => opR K o ih l h
  | some false => ih (putF l o.dst (.tup [])) h
  | none => none
def opF (K : Oracle) (o : DOper) (ih : Sl → Hp → Option (Sl × Hp)) (l : Sl) (h : Hp) : Option (Sl × Hp) :=
  match o.guard with
  | none => opR K o ih l h
  | some g => opG K o ih l h (wantsF l (some g))
theorem opF_is (K : Oracle) (o : DOper) (ih : Sl → Hp → Option (Sl × Hp)) (l : Sl) (h : Hp) : opF K o ih l h = opG K o ih l h (wantsF l o.guard) := by
  unfold opF
  split
  · rename_i e; rw [e]; rfl
  · rename_i e; rw [e]
def opsF (K : Oracle) (os : List DOper) : Sl → Hp → Option (Sl × Hp) :=
  @List.rec DOper (fun _ => Sl → Hp → Option (Sl × Hp)) (fun l h => some (l, h)) (fun o _ ih l h => opF K o ih l h) os
def logF (i : Nat) (op : DOp) (l : Sl) (g : Log) : Log :=
  match logArg op with
  | some (n, x) => (i, n, x.evS l) :: g
  | none => g
def drawF (K : Oracle) (o : DRow) (ih : Sl → Hp → Log → Option (Sl × Hp)) (l : Sl) (h : Hp) (g : Log) : Option (Sl × Hp) :=
  match wantsF l o.o.guard with
  | some true => match stepF K l h (o.o.op.withAp (pick g o.ck)) with
    | some (v, h') => ih (putF l o.o.dst v) h' (logF o.i o.o.op l g)
    | none => none
  | some false => ih (putF l o.o.dst (.tup [])) h g
  | none => none
def drawsF (K : Oracle) (os : List DRow) : Sl → Hp → Log → Option (Sl × Hp) :=
  @List.rec DRow (fun _ => Sl → Hp → Log → Option (Sl × Hp)) (fun l h _ => some (l, h)) (fun o _ ih l h g => drawF K o ih l h g) os
def resOneF (l : Sl) (h : Hp) : Nat × Option (Option Nat) → Option DV
  | (t, none) => some (l.get t)
  | (t, some z) => match s_load l h z (.tmp t) with
    | some (v, _) => some v
    | none => none
def resAllF (l : Sl) (h : Hp) : List (Nat × Option (Option Nat)) → Option (List DV)
  | [] => some []
  | r :: rs => match resOneF l h r, resAllF l h rs with
    | some v, some vs => some (v :: vs)
    | _, _ => none
def resValF (l : Sl) (h : Hp) (rs : List (Nat × Option (Option Nat))) : Option DV :=
  match resAllF l h rs with
  | some [v] => some v
  | some vs => some (.tup vs)
  | none => none
def enterF (d : DF) (args : List DV) : Option Sl :=
  cond (Nat.beq args.length d.params && Nat.ble args.length d.n && Nat.ble 1 d.n && Nat.ble d.n 4096) (some (tabS (gt args) 12 0 d.n)) none
def frcR (o : Option DV) : Option DV := match o with
  | some v => frc 10 v some
  | none => none
def codeQ (r : RunsF) (d : DF) (args : List DV) : Option DV :=
  match d.pure with
  | false => none
  | true => match enterF d args with
    | none => none
    | some s => match r d.body s ⟨[], [], 0⟩ with
      | some (.ret, l, h') | some (.normal, l, h') => frcR ((resValF l h' d.results).map (res h' 8))
      | _ => none
def codeK (r : RunsF) (d : DF) (args : List DV) (h : Hp) : Option (DV × Hp) :=
  match enterF d args with
  | none => none
  | some s => match r d.body s h with
    | some (.ret, l, h') | some (.normal, l, h') => (resValF l h' d.results).map fun v => (v, h')
    | _ => none
def entQ (r : RunsF) (e : Ent) (cap args : List DV) : Option DV :=
  match e with
  | .code d => codeQ r d (args ++ cap)
  | .nat p => match cap with
    | [] => p args
    | _ :: _ => none
  | _ => none
def callQF (tb : TF) (r : RunsF) (f : DV) (args : List DV) : Option DV :=
  match f with
  | .fn g cap => entQ r (tb.get g) cap args
  | _ => none
def pureK (r : RunsF) (e : Ent) (g : FuncId) (cap args : List DV) (h : Hp) : Option (DV × Hp) :=
  match entQ r e (cap.map (res h 7)) (args.map (res h 8)) with
  | some v => if v.flat || ((DV.fn g cap).still && args.all DV.still) then some (v, h) else none
  | none => none
def entK (r : RunsF) (e : Ent) (g : FuncId) (cap args : List DV) (h : Hp) : Option (DV × Hp) :=
  match e with
  | .none => none
  | .prim p => match cap with
    | [] => p args h
    | _ :: _ => none
  | .code d => match d.pure with
    | true => pureK r (.code d) g cap args h
    | false => codeK r d (args ++ cap) h
  | .nat p => pureK r (.nat p) g cap args h
def callKF (tb : TF) (r : RunsF) (f : DV) (args : List DV) (h : Hp) : Option (DV × Hp) :=
  match f with
  | .fn g cap => entK r (tb.get g) g cap args h
  | _ => none
def callsF (tb : TF) (r : RunsF) : Oracle := ⟨callKF tb r, callQF tb r⟩
def f_ops (K : Oracle) (os : List DOper) (l : Sl) (h : Hp) : Option (Ex × Sl × Hp) := match opsF K os l h with
  | some (l', h') => some (.normal, l', h')
  | none => none
def f_draw (K : Oracle) (os : List DRow) (l : Sl) (h : Hp) : Option (Ex × Sl × Hp) := match drawsF K os l h [] with
  | some (l', h') => some (.normal, l', h')
  | none => none
def f_seq (r : RunsF) (a b : DC) (l : Sl) (h : Hp) : Option (Ex × Sl × Hp) := match r a l h with
  | some (.normal, l', h') => r b l' h'
  | x => x
def f_cond (r : RunsF) (c : Opd) (a b : DC) (l : Sl) (h : Hp) : Option (Ex × Sl × Hp) := match c.evS l with
  | .bool true => r a l h
  | .bool false => r b l h
  | _ => none
def f_block (r : RunsF) (id : Nat) (a : DC) (l : Sl) (h : Hp) : Option (Ex × Sl × Hp) := match r a l h with
  | some (.exit id', l', h') => cond (Nat.beq id' id) (some (.normal, l', h')) (some (.exit id', l', h'))
  | x => x
def Sl.map (f : DV → DV) : Sl → Sl
  | .lf v => .lf (f v)
  | .nd n a b => .nd n (a.map f) (b.map f)
def f_fblock (r : RunsF) (id : Nat) (a : DC) (l : Sl) (h : Hp) : Option (Ex × Sl × Hp) := f_block r id a (l.map (frzV h)) (frzH h)
def f_loop (r : RunsF) (a : DC) (l : Sl) (h : Hp) : Option (Ex × Sl × Hp) := match r a l h with
  | some (.normal, l', h') => r (.loop a) l' h'
  | x => x
def f_scope (r : RunsF) (body cur : DC) (l : Sl) (h : Hp) : Option (Ex × Sl × Hp) := match r cur l h with
  | some (.goto m, l', h') => match body.after m with
    | some c' => r (.scope body c') l' h'
    | none => some (.goto m, l', h')
  | x => x
def turnF (K : Oracle) (r : RunsF) (c : DC) (l : Sl) (h : Hp) : Option (Ex × Sl × Hp) :=
  @DC.rec (fun _ => Oracle → RunsF → Sl → Hp → Option (Ex × Sl × Hp))
    (fun _ _ l h => some (.normal, l, h)) (fun os K _ l h => f_draw K os l h) (fun os K _ l h => f_ops K os l h) (fun a b _ _ _ r l h => f_seq r a b l h) (fun c a b _ _ _ r l h => f_cond r c a b l h)
    (fun id a _ _ r l h => f_block r id a l h) (fun id a _ _ r l h => f_fblock r id a l h) (fun a _ _ r l h => f_loop r a l h) (fun body cur _ _ _ r l h => f_scope r body cur l h)
    (fun _ _ _ l h => some (.normal, l, h)) (fun m _ _ l h => some (.goto m, l, h)) (fun id _ _ l h => some (.exit id, l, h)) (fun _ _ l h => some (.ret, l, h)) c K r l h
def runF (tb : TF) (n : Nat) : RunsF :=
  @Nat.rec (fun _ => RunsF) (fun _ _ _ => none) (fun _ r c l h => turnF (callsF tb r) r c l h) n
end

def RF (r' : RunsF) (r : Runs) : Prop := ∀ c l h e l' h', l.wf → r' c l h = some (e, l', h') → l'.wf ∧ r c l.toL h = some (e, l'.toL, h')
structure FOk (tbl : Table) (tb : TF) : Prop where
  code : ∀ f d, tb.get f = .code d → tbl.prim f = none ∧ tbl.fn f = some d
  prim : ∀ f p, tb.get f = .prim p → tbl.prim f = some p
  nat : ∀ f p, tb.get f = .nat p → tbl.prim f = none ∧ ((tbl.fn f).any DF.pure) = true ∧ ∀ args v, p args = some v → callQ tbl (ex tbl) (.fn f []) args = some v
theorem wantsF_eq {l : Sl} (w : l.wf) (g : Option (Nat × Bool)) : wantsF l g = wants l.toL g := by
  cases g with
  | none => rfl
  | some p =>
    obtain ⟨t, b⟩ := p
    simp only [wantsF, wants, Sl.get_eq w]
    rfl
theorem putF_ok {l : Sl} (w : l.wf) (d : Option Nat) (v : DV) : (putF l d v).wf ∧ (putF l d v).toL = putT l.toL d v := by
  cases d with
  | none => exact ⟨w, rfl⟩
  | some d => exact Sl.put_eq w
theorem opsF_ok {K K' : Oracle} (H : OLe K K') : ∀ {os : List DOper} {l l' : Sl} {h h' : Hp}, l.wf → opsF K os l h = some (l', h') → l'.wf ∧ ops K' os l.toL h = some (l'.toL, h')
  | [], l, l', h, h', w, e => by
    simp only [opsF, Option.some.injEq, Prod.mk.injEq] at e
    obtain ⟨rfl, rfl⟩ := e
    exact ⟨w, rfl⟩
  | o :: r, l, l', h, h', w, e => by
    have e1 : opF K o (opsF K r) l h = some (l', h') := e
    simp only [opF_is, opG, opR, wantsF_eq w] at e1
    simp only [ops]
    split at e1
    · rename_i hw
      split at e1
      · rename_i v h1 hs
        rw [stepF_eq K w] at hs
        obtain ⟨w1, t1⟩ := putF_ok w o.dst v
        obtain ⟨w2, t2⟩ := opsF_ok H (os := r) w1 e1
        refine ⟨w2, ?_⟩
        simp only [hw, step_mono H hs]
        rw [← t1]; exact t2
      · cases e1
    · rename_i hw
      obtain ⟨w1, t1⟩ := putF_ok w o.dst (.tup [])
      obtain ⟨w2, t2⟩ := opsF_ok H (os := r) w1 e1
      refine ⟨w2, ?_⟩
      simp only [hw]
      rw [← t1]; exact t2
    · cases e1
theorem logF_eq {l : Sl} (w : l.wf) (i : Nat) (op : DOp) (g : Log) : logF i op l g = logOf i op l.toL g := by
  unfold logF logOf
  split <;> simp_all [Opd.evS_eq w]
theorem drawsF_ok {K K' : Oracle} (H : OLe K K') : ∀ {os : List DRow} {l l' : Sl} {h h' : Hp} {g : Log}, l.wf → drawsF K os l h g = some (l', h') → l'.wf ∧ draws K' os l.toL h g = some (l'.toL, h')
  | [], l, l', h, h', g, w, e => by
    simp only [drawsF, Option.some.injEq, Prod.mk.injEq] at e
    obtain ⟨rfl, rfl⟩ := e
    exact ⟨w, rfl⟩
  | o :: r, l, l', h, h', g, w, e => by
    have e1 : drawF K o (drawsF K r) l h g = some (l', h') := e
    simp only [drawF, wantsF_eq w, logF_eq w] at e1
    simp only [draws]
    split at e1
    · rename_i hw
      split at e1
      · rename_i v h1 hs
        rw [stepF_eq K w] at hs
        obtain ⟨w1, t1⟩ := putF_ok w o.o.dst v
        obtain ⟨w2, t2⟩ := drawsF_ok H (os := r) w1 e1
        refine ⟨w2, ?_⟩
        simp only [hw, step_mono H hs]
        rw [← t1]; exact t2
      · cases e1
    · rename_i hw
      obtain ⟨w1, t1⟩ := putF_ok w o.o.dst (.tup [])
      obtain ⟨w2, t2⟩ := drawsF_ok H (os := r) w1 e1
      refine ⟨w2, ?_⟩
      simp only [hw]
      rw [← t1]; exact t2
    · cases e1
theorem resOneF_eq {l : Sl} (w : l.wf) (h : Hp) (r : Nat × Option (Option Nat)) : resOneF l h r = resOne l.toL h r := by
  obtain ⟨t, z⟩ := r
  cases z with
  | none => simp only [resOneF, resOne, Sl.get_eq w]
  | some z =>
    have := stepF_eq ⟨fun _ _ _ => none, fun _ _ => none⟩ w h (.load z (.tmp t))
    simp only [stepF] at this
    simp only [resOneF, resOne, this]
    rfl
theorem resAllF_eq {l : Sl} (w : l.wf) (h : Hp) : ∀ rs : List (Nat × Option (Option Nat)), resAllF l h rs = resAll l.toL h rs
  | [] => rfl
  | r :: rs => by
    simp only [resAllF, resAll, resOneF_eq w, resAllF_eq w h rs]
    rfl
theorem resValF_eq {l : Sl} (w : l.wf) (h : Hp) (rs : List (Nat × Option (Option Nat))) : resValF l h rs = resVal l.toL h rs := by
  simp only [resValF, resVal, resAllF_eq w]
  rfl
theorem enterF_ok {d : DF} {args : List DV} {s : Sl} (e : enterF d args = some s) : args.length = d.params ∧ s.wf ∧ s.toL = args ++ List.replicate (d.n - args.length) .undef := by
  unfold enterF at e
  cases hc : (Nat.beq args.length d.params && Nat.ble args.length d.n && Nat.ble 1 d.n && Nat.ble d.n 4096) with
  | false => rw [hc] at e; cases e
  | true =>
    rw [hc] at e
    cases e
    simp only [Bool.and_eq_true, Nat.beq_eq_true_eq, Nat.ble_eq] at hc
    obtain ⟨⟨⟨h1, h2⟩, h3⟩, h4⟩ := hc
    obtain ⟨a, b⟩ := tabS_ok (gt args) 12 0 d.n (by omega) (by omega)
    refine ⟨Nat.eq_of_beq_eq_true h1, a, ?_⟩
    rw [b]
    apply List.ext_getElem (by simp; omega)
    intro k k1 k2
    simp only [List.getElem_map, List.getElem_range, Nat.zero_add, gt, List.getD_eq_getElem?_getD]
    by_cases hk : k < args.length
    · rw [List.getElem_append_left hk, List.getElem?_eq_getElem hk]; rfl
    · rw [List.getElem_append_right (by omega), List.getElem?_eq_none (by omega)]; simp
theorem frcR_eq (o : Option DV) : frcR o = o := by cases o <;> simp only [frcR, frc_eq]
theorem codeQ_ok {tbl : Table} {r' : RunsF} (R : RF r' (ex tbl)) {f : FuncId} {d : DF} {cap args : List DV} {v : DV} (hd : tbl.fn f = some d) (e : codeQ r' d (args ++ cap) = some v) : callQ tbl (ex tbl) (.fn f cap) args = some v := by
  unfold codeQ at e
  simp only [frcR_eq] at e
  split at e
  · cases e
  · rename_i hp
    split at e
    · cases e
    · rename_i s hs
      obtain ⟨h1, h2, h3⟩ := enterF_ok hs
      unfold callQ
      simp only [hd]
      rw [if_neg (by simp [h1, hp]), ← h3]
      split at e
      · rename_i l h' hr
        obtain ⟨w, q⟩ := R _ _ _ _ _ _ h2 hr
        rw [resValF_eq w] at e; rw [q]; exact e
      · rename_i l h' hr
        obtain ⟨w, q⟩ := R _ _ _ _ _ _ h2 hr
        rw [resValF_eq w] at e; rw [q]; exact e
      · cases e
theorem entQ_ok {tbl : Table} {tb : TF} (F : FOk tbl tb) {r' : RunsF} (R : RF r' (ex tbl)) {f : FuncId} {cap args : List DV} {v : DV} (e : entQ r' (tb.get f) cap args = some v) : callQ tbl (ex tbl) (.fn f cap) args = some v := by
  unfold entQ at e
  split at e
  · rename_i d hd
    exact codeQ_ok R (F.code _ _ hd).2 e
  · rename_i p hd
    obtain ⟨_, _, n4⟩ := F.nat _ _ hd
    split at e
    · exact n4 _ _ e
    · cases e
  · cases e
theorem pureK_ok {tbl : Table} {tb : TF} (F : FOk tbl tb) {r' : RunsF} (R : RF r' (ex tbl)) {f : FuncId} {d : DF} {cap args : List DV} {h : Hp} {x : DV × Hp} (h1 : tbl.prim f = none) (h2 : tbl.fn f = some d) (h3 : d.pure = true)
    (e : pureK r' (tb.get f) f cap args h = some x) : callK tbl (ex tbl) (.fn f cap) args h = some x := by
  unfold pureK at e
  split at e
  · rename_i v hv
    have q := entQ_ok F R hv
    unfold callK
    simp only [h1, h2, h3, if_true]
    have e0 : res h 8 (.fn f cap) = .fn f (cap.map (res h 7)) := rfl
    rw [e0, q]
    exact e
  · cases e
theorem callsF_ok {tbl : Table} {tb : TF} (F : FOk tbl tb) {r' : RunsF} (R : RF r' (ex tbl)) : OLe (callsF tb r') (calls tbl (ex tbl)) := by
  refine ⟨?_, ?_⟩
  · intro f args h x e
    have e : callKF tb r' f args h = some x := e
    show callK tbl (ex tbl) f args h = some x
    unfold callKF at e
    cases f with
    | fn g cap =>
      simp only at e
      cases hg : tb.get g with
      | none => rw [hg] at e; cases e
      | prim p =>
        rw [hg] at e
        simp only [entK] at e
        split at e
        · unfold callK
          simp only [F.prim _ _ hg, List.isEmpty_nil, if_true]; exact e
        · cases e
      | code d =>
        obtain ⟨h1, h2⟩ := F.code _ _ hg
        rw [hg] at e
        simp only [entK] at e
        split at e
        · rename_i hp
          exact pureK_ok F R h1 h2 hp (by rw [hg]; exact e)
        · rename_i hp
          unfold codeK at e
          split at e
          · cases e
          · rename_i s hs
            obtain ⟨k1, k2, k3⟩ := enterF_ok hs
            unfold callK
            simp only [h1, h2, hp]
            rw [if_neg (by simp), if_neg (by simp [k1]), ← k3]
            split at e
            · rename_i l h' hr
              obtain ⟨w, q⟩ := R _ _ _ _ _ _ k2 hr
              rw [resValF_eq w] at e; rw [q]; exact e
            · rename_i l h' hr
              obtain ⟨w, q⟩ := R _ _ _ _ _ _ k2 hr
              rw [resValF_eq w] at e; rw [q]; exact e
            · cases e
      | nat p =>
        obtain ⟨h1, h2, _⟩ := F.nat _ _ hg
        rw [hg] at e
        simp only [entK] at e
        cases hd : tbl.fn g with
        | none => rw [hd] at h2; cases h2
        | some d => rw [hd] at h2; exact pureK_ok F R h1 hd h2 (by rw [hg]; exact e)
    | _ => cases e
  · intro f args x e
    have e : callQF tb r' f args = some x := e
    unfold callQF at e
    split at e
    · exact entQ_ok F R e
    · cases e
theorem Sl.map_ok (f : DV → DV) : ∀ {s : Sl}, s.wf → (s.map f).wf ∧ (s.map f).toL = s.toL.map f
  | .lf v, _ => ⟨trivial, rfl⟩
  | .nd n a b, h => by
    obtain ⟨h1, h2, h3⟩ := h
    obtain ⟨a1, a2⟩ := Sl.map_ok f (s := a) h2
    obtain ⟨b1, b2⟩ := Sl.map_ok f (s := b) h3
    exact ⟨⟨by rw [a2, List.length_map]; exact h1, a1, b1⟩, by simp only [Sl.map, Sl.toL, a2, b2, List.map_append]⟩
theorem turnF_ok {tbl : Table} {tb : TF} (F : FOk tbl tb) {r' : RunsF} (R : RF r' (ex tbl)) : RF (turnF (callsF tb r') r') (ex tbl) := by
  intro c l h e l' h' w hr
  have H := callsF_ok F R
  rw [ex_eq]
  cases c with
  | skip | label _ | goto _ | exit _ | ret => simp only [turnF, Option.some.injEq, Prod.mk.injEq] at hr; obtain ⟨rfl, rfl, rfl⟩ := hr; exact ⟨w, rfl⟩
  | ops os =>
    simp only [turnF, f_ops] at hr
    split at hr
    · rename_i hs
      cases hr
      obtain ⟨a, b⟩ := opsF_ok H w hs
      exact ⟨a, by simp only [turn, b]⟩
    · cases hr
  | draw os =>
    simp only [turnF, f_draw] at hr
    split at hr
    · rename_i hs
      cases hr
      obtain ⟨a, b⟩ := drawsF_ok H w hs
      exact ⟨a, by simp only [turn, b]⟩
    · cases hr
  | seq a b =>
    simp only [turnF, f_seq] at hr
    split at hr
    · rename_i l1 h1 ha
      obtain ⟨w1, q1⟩ := R _ _ _ _ _ _ w ha
      obtain ⟨w2, q2⟩ := R _ _ _ _ _ _ w1 hr
      exact ⟨w2, by simp only [turn, q1]; exact q2⟩
    · rename_i hn
      obtain ⟨w1, q1⟩ := R _ _ _ _ _ _ w hr
      refine ⟨w1, ?_⟩
      simp only [turn, q1]
      cases e <;> first
        | exact absurd hr (hn _ _)
        | rfl
  | cond c a b =>
    simp only [turnF, f_cond, Opd.evS_eq w] at hr
    split at hr
    · rename_i hc
      obtain ⟨w1, q1⟩ := R _ _ _ _ _ _ w hr
      exact ⟨w1, by simp only [turn, hc]; exact q1⟩
    · rename_i hc
      obtain ⟨w1, q1⟩ := R _ _ _ _ _ _ w hr
      exact ⟨w1, by simp only [turn, hc]; exact q1⟩
    · cases hr
  | block id a =>
    simp only [turnF, f_block] at hr
    split at hr
    · rename_i id' l1 h1 ha
      obtain ⟨w1, q1⟩ := R _ _ _ _ _ _ w ha
      by_cases hi : id' = id
      · subst hi
        have : Nat.beq id' id' = true := Nat.beq_refl id'
        rw [this] at hr
        cases hr
        exact ⟨w1, by simp [turn, q1]⟩
      · have : Nat.beq id' id = false := by
          cases hb : Nat.beq id' id with
          | false => rfl
          | true => exact absurd (Nat.eq_of_beq_eq_true hb) hi
        rw [this] at hr
        cases hr
        exact ⟨w1, by simp [turn, q1, hi]⟩
    · rename_i hn
      obtain ⟨w1, q1⟩ := R _ _ _ _ _ _ w hr
      refine ⟨w1, ?_⟩
      simp only [turn, q1]
      cases e <;> first
        | exact absurd hr (hn _ _ _)
        | rfl
  | fblock id a =>
    obtain ⟨wm, tm⟩ := Sl.map_ok (frzV h) w
    simp only [turnF, f_fblock, f_block] at hr
    split at hr
    · rename_i id' l1 h1 ha
      obtain ⟨w1, q1⟩ := R _ _ _ _ _ _ wm ha
      rw [tm, show List.map (frzV h) l.toL = frzL h l.toL from rfl] at q1
      by_cases hi : id' = id
      · subst hi
        have : Nat.beq id' id' = true := Nat.beq_refl id'
        rw [this] at hr
        cases hr
        exact ⟨w1, by simp [turn, q1]⟩
      · have : Nat.beq id' id = false := by
          cases hb : Nat.beq id' id with
          | false => rfl
          | true => exact absurd (Nat.eq_of_beq_eq_true hb) hi
        rw [this] at hr
        cases hr
        exact ⟨w1, by simp [turn, q1, hi]⟩
    · rename_i hn
      obtain ⟨w1, q1⟩ := R _ _ _ _ _ _ wm hr
      rw [tm, show List.map (frzV h) l.toL = frzL h l.toL from rfl] at q1
      refine ⟨w1, ?_⟩
      simp only [turn, q1]
      cases e <;> first
        | exact absurd hr (hn _ _ _)
        | rfl
  | loop a =>
    simp only [turnF, f_loop] at hr
    split at hr
    · rename_i l1 h1 ha
      obtain ⟨w1, q1⟩ := R _ _ _ _ _ _ w ha
      obtain ⟨w2, q2⟩ := R _ _ _ _ _ _ w1 hr
      exact ⟨w2, by simp only [turn, q1]; exact q2⟩
    · rename_i hn
      obtain ⟨w1, q1⟩ := R _ _ _ _ _ _ w hr
      refine ⟨w1, ?_⟩
      simp only [turn, q1]
      cases e <;> first
        | exact absurd hr (hn _ _)
        | rfl
  | scope body cur =>
    simp only [turnF, f_scope] at hr
    split at hr
    · rename_i m l1 h1 ha
      obtain ⟨w1, q1⟩ := R _ _ _ _ _ _ w ha
      split at hr
      · rename_i c' hc
        obtain ⟨w2, q2⟩ := R _ _ _ _ _ _ w1 hr
        exact ⟨w2, by simp only [turn, q1, hc]; exact q2⟩
      · rename_i hc
        cases hr
        exact ⟨w1, by simp only [turn, q1, hc]⟩
    · rename_i hn
      obtain ⟨w1, q1⟩ := R _ _ _ _ _ _ w hr
      refine ⟨w1, ?_⟩
      simp only [turn, q1]
      cases e <;> first
        | exact absurd hr (hn _ _ _)
        | rfl
theorem runF_ok {tbl : Table} {tb : TF} (F : FOk tbl tb) : ∀ n, RF (runF tb n) (ex tbl)
  | 0 => fun c l h e l' h' w hr => by cases hr
  | n + 1 => turnF_ok F (runF_ok F n)
noncomputable def runL (tb : TF) (n : Nat) (c : DC) (l : List DV) (h : Hp) : Option (Ex × List DV × Hp) :=
  match l with
  | [] => none
  | _ :: _ => cond (Nat.ble l.length 4096) (match runF tb n c (ofL l) h with
    | some (e, l', h') => frcL frc0 l'.toL fun l' => frcH h' fun h' => some (e, l', h')
    | none => none) none
theorem runL_ok {tbl : Table} {tb : TF} (F : FOk tbl tb) (n : Nat) {c : DC} {l : List DV} {h : Hp} {x : Ex × List DV × Hp} (e : runL tb n c l h = some x) : ex tbl c l h = some x := by
  unfold runL at e
  split at e
  · cases e
  · rename_i d r
    cases hl : Nat.ble (d :: r).length 4096 with
    | false => rw [hl] at e; cases e
    | true =>
      rw [hl] at e
      simp only [cond_true] at e
      obtain ⟨w, t⟩ := ofL_ok (l := d :: r) (by simp) (Nat.le_trans (Nat.le_of_ble_eq_true hl) (by decide))
      split at e
      · rename_i e1 l1 h1 hr
        simp only [frcL_eq (frc0_eq (β := DV)), frcH_eq] at e
        cases e
        obtain ⟨w1, q⟩ := runF_ok F n _ _ _ _ _ _ w hr
        rw [t] at q
        exact q
      · cases e
noncomputable def runL0 (tb : TF) (n : Nat) (c : DC) (l : List DV) (h : Hp) : Option (Ex × List DV × Hp) :=
  match l with
  | [] => none
  | _ :: _ => cond (Nat.ble l.length 4096) (match runF tb n c (ofL l) h with
    | some (e, l', h') => some (e, l'.toL, h')
    | none => none) none
theorem runL0_ok {tbl : Table} {tb : TF} (F : FOk tbl tb) (n : Nat) {c : DC} {l : List DV} {h : Hp} {x : Ex × List DV × Hp} (e : runL0 tb n c l h = some x) : ex tbl c l h = some x := by
  unfold runL0 at e
  split at e
  · cases e
  · rename_i d r
    cases hl : Nat.ble (d :: r).length 4096 with
    | false => rw [hl] at e; cases e
    | true =>
      rw [hl] at e
      simp only [cond_true] at e
      obtain ⟨w, t⟩ := ofL_ok (l := d :: r) (by simp) (Nat.le_trans (Nat.le_of_ble_eq_true hl) (by decide))
      split at e
      · rename_i e1 l1 h1 hr
        cases e
        obtain ⟨w1, q⟩ := runF_ok F n _ _ _ _ _ _ w hr
        rw [t] at q
        exact q
      · cases e
end Go.Dv
/- The engine: the quick run, handed to a law. -/
set_option linter.unusedVariables false
namespace Go.Dv
def EntOk (tbl : Table) (f : FuncId) : Ent → Prop
  | .none => True
  | .code d => tbl.prim f = none ∧ tbl.fn f = some d
  | .prim p => tbl.prim f = some p
  | .nat p => tbl.prim f = none ∧ ((tbl.fn f).any DF.pure) = true ∧ ∀ args v, p args = some v → callQ tbl (ex tbl) (.fn f []) args = some v
def TF.All (tbl : Table) : TF → Prop
  | .leaf => True
  | .node k e a b => EntOk tbl k e ∧ a.All tbl ∧ b.All tbl
theorem TF.All.mk {tbl : Table} {k : Nat} {e : Ent} {a b : TF} (h1 : EntOk tbl k e) (h2 : a.All tbl) (h3 : b.All tbl) : (TF.node k e a b).All tbl := ⟨h1, h2, h3⟩
theorem TF.get_all {tbl : Table} {f : Nat} : ∀ {t : TF}, t.All tbl → EntOk tbl f (t.get f)
  | .leaf, _ => trivial
  | .node k e a b, h => by
    obtain ⟨h1, h2, h3⟩ := h
    have e0 : (TF.node k e a b).get f = cond (Nat.beq f k) e (cond (Nat.ble f k) (a.get f) (b.get f)) := rfl
    rw [e0]
    cases hb : Nat.beq f k with
    | true => rw [Nat.eq_of_beq_eq_true hb]; exact h1
    | false =>
      cases Nat.ble f k with
      | true => exact TF.get_all h2
      | false => exact TF.get_all h3
theorem TF.All.ok {tbl : Table} {t : TF} (h : t.All tbl) : FOk tbl t :=
  ⟨fun f d e => by have := TF.get_all (f := f) h; rw [e] at this; exact this,
   fun f p e => by have := TF.get_all (f := f) h; rw [e] at this; exact this,
   fun f p e => by have := TF.get_all (f := f) h; rw [e] at this; exact this⟩
theorem st_endF {tbl : Table} {tb : TF} (F : FOk tbl tb) {c : DC} {d : DF} {l : List DV} {h : Hp} {v : DV} (n : Nat) (e : endsQ d (runL0 tb n c l h) = some v) : endsQ d (ex tbl c l h) = some v := by
  cases hr : runL0 tb n c l h with
  | none => rw [hr] at e; cases e
  | some x => rw [runL0_ok F n hr, ← hr]; exact e
end Go.Dv
/- The engine: natives as functions of the quick run. -/
set_option linter.unusedVariables false
set_option linter.unusedSimpArgs false
namespace Go.Dv
def rdI (k : IntKind) : List DV → Option (Int × List DV)
  | .int k' n :: r => if k = k' then some (n, r) else none
  | _ => none
def rdB : List DV → Option (Bool × List DV)
  | .bool b :: r => some (b, r)
  | _ => none
def rdS : List DV → Option (ByteArray × List DV)
  | .str b :: r => some (b, r)
  | _ => none
def rdRows {α : Type} (f : List DV → Option (α × List DV)) : List (List DV) → Option (List α)
  | [] => some []
  | r :: rs => match f r with
    | some (x, []) => match rdRows f rs with
      | some xs => some (x :: xs)
      | none => none
    | _ => none
def rdL {α : Type} (z : Nat) (f : List DV → Option (α × List DV)) : List DV → Option (List α × List DV)
  | .nils :: r => some ([], r)
  | .row z' rows :: r => if z' = z then match rdRows f rows with
      | some xs => some (xs, r)
      | none => none
    else none
  | _ => none
def rdP {α β : Type} (f : List DV → Option (α × List DV)) (g : List DV → Option (β × List DV)) (ds : List DV) : Option ((α × β) × List DV) :=
  match f ds with
  | some (x, r) => match g r with
    | some (y, r) => some ((x, y), r)
    | none => none
  | none => none
def rdE : (s : Sh) → List DV → Option (El s × List DV)
  | .int k => rdI k
  | .bool => rdB
  | .str => rdS
  | .list s => rdL s.size (rdE s)
  | .pair a b => rdP (rdE a) (rdE b)
  | .uno a => rdE a
  | .tree _ => fun _ => none
theorem rdRows_ok {α : Type} {P : α → List DV → Prop} {f : List DV → Option (α × List DV)} (hf : ∀ ds x r, f ds = some (x, r) → ∃ d1, ds = d1 ++ r ∧ P x d1) : ∀ {rows : List (List DV)} {xs : List α}, rdRows f rows = some xs → RRows P xs rows
  | [], xs, h => by simp only [rdRows, Option.some.injEq] at h; subst h; exact trivial
  | r :: rs, xs, h => by
    simp only [rdRows] at h
    split at h
    · rename_i x hx
      split at h
      · rename_i ys hy
        cases h
        obtain ⟨d1, e1, e2⟩ := hf _ _ _ hx
        rw [List.append_nil] at e1
        subst e1
        exact ⟨e2, rdRows_ok hf hy⟩
      · cases h
    · cases h
theorem rdE_ok : ∀ (s : Sh) (ds : List DV) (x : El s) (r : List DV), rdE s ds = some (x, r) → ∃ d1, ds = d1 ++ r ∧ RE s x d1
  | .int k, ds, x, r, h => by
    simp only [rdE] at h
    unfold rdI at h
    split at h
    · split at h
      · rename_i e; subst e; cases h; exact ⟨[_], rfl, rfl⟩
      · cases h
    · cases h
  | .bool, ds, x, r, h => by
    simp only [rdE] at h
    unfold rdB at h
    split at h
    · cases h; exact ⟨[_], rfl, rfl⟩
    · cases h
  | .str, ds, x, r, h => by
    simp only [rdE] at h
    unfold rdS at h
    split at h
    · cases h; exact ⟨[_], rfl, rfl⟩
    · cases h
  | .list s, ds, x, r, h => by
    simp only [rdE] at h
    unfold rdL at h
    split at h
    · cases h; exact ⟨[.nils], rfl, _, rfl, .inl ⟨rfl, rfl⟩⟩
    · split at h
      · rename_i e
        split at h
        · rename_i xs hx
          cases h
          exact ⟨[_], rfl, _, rfl, .inr ⟨_, by rw [e], rdRows_ok (fun ds x r h => rdE_ok s ds x r h) hx⟩⟩
        · cases h
      · cases h
    · cases h
  | .pair a b, ds, x, r, h => by
    simp only [rdE] at h
    unfold rdP at h
    split at h
    · rename_i y r1 h1
      split at h
      · rename_i z r2 h2
        cases h
        obtain ⟨d1, e1, k1⟩ := rdE_ok a _ _ _ h1
        obtain ⟨d2, e2, k2⟩ := rdE_ok b _ _ _ h2
        exact ⟨d1 ++ d2, by rw [e1, e2, List.append_assoc], d1, d2, rfl, k1, k2⟩
      · cases h
    · cases h
  | .uno a, ds, x, r, h => rdE_ok a ds x r h
  | .tree _, ds, x, r, h => by simp [rdE] at h
def rdA (s : Sh) (d : DV) : Option (El s) :=
  match s.isAgg with
  | true => match d with
    | .agg ds => match rdE s ds with
      | some (x, []) => some x
      | _ => none
    | _ => none
  | false => match rdE s [d] with
    | some (x, []) => some x
    | _ => none
theorem rdA_ok {X : RX} {s : Sh} {d : DV} {x : El s} (h : rdA s d = some x) : RV X (valE s x) d ∧ d.still = true := by
  unfold rdA at h
  split at h
  · rename_i ha
    split at h
    · rename_i ds
      split at h
      · rename_i y hy
        cases h
        obtain ⟨d1, e1, k1⟩ := rdE_ok s _ _ _ hy
        rw [List.append_nil] at e1
        subst e1
        refine ⟨?_, ?_⟩
        · have hc := RE.cells (X := X) (r := []) (dr := []) k1 (by simp [RVs])
          rw [List.append_nil] at hc
          cases s with
          | int _ | bool | str | list _ => simp [Sh.isAgg] at ha
          | pair a b | tree a => simp only [valE, RV]; exact ⟨_, rfl, hc⟩
          | uno a => simp only [valE, RV]; exact ⟨_, rfl, hc⟩
        · show DV.still2 (.agg ds) = true
          simp only [DV.still2, List.all_eq_true]
          exact fun d hd => (RE.still k1 d hd).1
      · cases h
    · cases h
  · rename_i ha
    split at h
    · rename_i y hy
      cases h
      obtain ⟨d1, e1, k1⟩ := rdE_ok s _ _ _ hy
      rw [List.append_nil] at e1
      subst e1
      cases s with
      | int k => simp only [RE, List.cons.injEq, and_true] at k1; subst k1; exact ⟨by simp [valE, RV], rfl⟩
      | bool => simp only [RE, List.cons.injEq, and_true] at k1; subst k1; exact ⟨by simp [valE, RV], rfl⟩
      | str => simp only [RE, List.cons.injEq, and_true] at k1; subst k1; exact ⟨by simp [valE, RV], rfl⟩
      | list s =>
        obtain ⟨d', e, k⟩ := k1
        cases e
        refine ⟨by simpa only [valE, RV] using k, ?_⟩
        rcases k with ⟨rfl, _⟩ | ⟨rows, rfl, _⟩ <;> rfl
      | pair a b | tree a | uno a => simp [Sh.isAgg] at ha
    · cases h
def gsOf : List Sh → List G
  | [] => []
  | s :: r => .kd (.val s) :: gsOf r
def rdArgs : (ss : List Sh) → List DV → Option (KTy (kinds (gsOf ss)))
  | [], [] => some ()
  | s :: r, d :: ds => match rdA s d with
    | some x => match rdArgs r ds with
      | some y => some (KTy.mk (.val s) (kinds (gsOf r)) x y)
      | none => none
    | none => none
  | _, _ => none
theorem rdArgs_ok {X : RX} : ∀ {ss : List Sh} {ds : List DV} {x : KTy (kinds (gsOf ss))}, rdArgs ss ds = some x → ∃ vs, RVs X vs ds ∧ (∀ d ∈ ds, d.still = true) ∧ argsFit (gsOf ss) vs = true ∧ ∀ st h, decG st h (gsOf ss) (vs.map SV.cells) [] [] = some x
  | [], [], x, h => ⟨[], by simp [RVs], by simp, rfl, fun st h => by simp [gsOf, decG]; rfl⟩
  | s :: r, d :: ds, x, h => by
    simp only [rdArgs] at h
    split at h
    · rename_i y hy
      split at h
      · rename_i z hz
        cases h
        obtain ⟨h1, h2⟩ := rdA_ok (X := X) hy
        obtain ⟨vs, k1, k2, k3, k4⟩ := rdArgs_ok (X := X) hz
        refine ⟨valE s y :: vs, ⟨h1, k1⟩, ?_, ?_, fun st h => ?_⟩
        · intro d' hd'
          rcases List.mem_cons.1 hd' with rfl | hd'
          · exact h2
          · exact k2 _ hd'
        · simp only [gsOf, argsFit, valE_fits, k3, Bool.and_self]
        · simp only [gsOf, List.map_cons, decG, valE_cells', decE_cellsA, k4]
      · cases h
    · cases h
  | [], _ :: _, x, h => by simp [rdArgs] at h
  | _ :: _, [], x, h => by simp [rdArgs] at h
def wrE (s : Sh) (x : El s) : Option DV :=
  match s.isAgg with
  | true => some (.agg (flatD s x))
  | false => match flatD s x with
    | [d] => some d
    | _ => none
theorem flat_same {X : RX} : ∀ (s : Sh), s.flat = true → ∀ (x : El s) (r : List SV) (D : List DV), RVs X (cellsA s x r) D → ∃ D2, D = flatD s x ++ D2 ∧ RVs X r D2
  | .int k, _, x, r, D, h => by
    cases D with
    | nil => simp [cellsA, RVs] at h
    | cons d D => simp only [cellsA, RVs, RV] at h; exact ⟨D, by rw [h.1]; rfl, h.2⟩
  | .bool, _, x, r, D, h => by
    cases D with
    | nil => simp [cellsA, RVs] at h
    | cons d D => simp only [cellsA, RVs, RV] at h; exact ⟨D, by rw [h.1]; rfl, h.2⟩
  | .str, _, x, r, D, h => by
    cases D with
    | nil => simp [cellsA, RVs] at h
    | cons d D => simp only [cellsA, RVs, RV] at h; exact ⟨D, by rw [h.1]; rfl, h.2⟩
  | .list s, hf, _, _, _, _ => by simp [Sh.flat] at hf
  | .tree s, hf, _, _, _, _ => by simp [Sh.flat] at hf
  | .uno s, hf, _, _, _, _ => by simp [Sh.flat] at hf
  | .pair a b, hf, x, r, D, h => by
    simp only [Sh.flat, Bool.and_eq_true] at hf
    simp only [cellsA] at h
    obtain ⟨D1, rfl, h1⟩ := flat_same a hf.1 _ _ _ h
    obtain ⟨D2, rfl, h2⟩ := flat_same b hf.2 _ _ _ h1
    exact ⟨D2, by simp [flatD], h2⟩
theorem wrE_ok {X : RX} {s : Sh} (hf : s.flat = true) {x : El s} {v d : DV} (h : wrE s x = some v) (k : RV X (valE s x) d) : d = v := by
  have key : ∀ ds, RVs X (cellsA s x []) ds → ds = flatD s x := by
    intro ds hk
    obtain ⟨D2, rfl, h2⟩ := flat_same s hf x [] ds hk
    cases D2 with
    | nil => simp
    | cons _ _ => simp [RVs] at h2
  unfold wrE at h
  cases s with
  | int k' => simp only [valE, RV] at k; subst k; simp [Sh.isAgg, flatD] at h; exact h
  | bool => simp only [valE, RV] at k; subst k; simp [Sh.isAgg, flatD] at h; exact h
  | str => simp only [valE, RV] at k; subst k; simp [Sh.isAgg, flatD] at h; exact h
  | list s => simp [Sh.flat] at hf
  | tree s => simp [Sh.flat] at hf
  | uno s => simp [Sh.flat] at hf
  | pair a b =>
    simp only [valE, RV] at k
    obtain ⟨ds, rfl, k⟩ := k
    simp only [Sh.isAgg, Option.some.injEq] at h
    rw [← h, key ds k]
def wrL : (ts : List Sh) → KTy (kinds (gsOf ts)) → Option (List DV)
  | [], _ => some []
  | t :: r, y => match wrE t (KTy.hd (.val t) (kinds (gsOf r)) y) with
    | some d => match wrL r (KTy.tl (.val t) (kinds (gsOf r)) y) with
      | some ds => some (d :: ds)
      | none => none
    | none => none
def wrR (ts : List Sh) (y : KTy (kinds (gsOf ts))) : Option DV :=
  match wrL ts y with
  | some [d] => some d
  | some ds => some (.tup ds)
  | none => none
theorem resL_cons (k : K) : ∀ (ks : List K) (y : KTy (k :: ks)), resL (k :: ks) y = k.put (KTy.hd k ks y) :: resL ks (KTy.tl k ks y)
  | [], _ => rfl
  | _ :: _, _ => rfl
theorem wrL_ok {X : RX} : ∀ {ts : List Sh}, ts.all Sh.flat = true → ∀ {y : KTy (kinds (gsOf ts))} {ds ds' : List DV}, wrL ts y = some ds' → RVs X (resL (kinds (gsOf ts)) y) ds → ds = ds'
  | [], _, y, ds, ds', h, k => by
    simp only [wrL, Option.some.injEq] at h
    subst h
    cases ds with
    | nil => rfl
    | cons _ _ => simp [gsOf, kinds, resL, RVs] at k
  | t :: r, hf, y, ds, ds', h, k => by
    simp only [List.all_cons, Bool.and_eq_true] at hf
    simp only [wrL] at h
    split at h
    · rename_i d hd
      split at h
      · rename_i es he
        cases h
        have k' : RVs X (valE t (KTy.hd (.val t) (kinds (gsOf r)) y) :: resL (kinds (gsOf r)) (KTy.tl (.val t) (kinds (gsOf r)) y)) ds :=
          Eq.mp (congrArg (fun l => RVs X l ds) (resL_cons (.val t) (kinds (gsOf r)) y)) k
        cases ds with
        | nil => simp [RVs] at k'
        | cons d0 ds =>
          simp only [RVs] at k'
          have e1 : d0 = d := wrE_ok (X := X) hf.1 hd k'.1
          have e2 : ds = es := wrL_ok (X := X) hf.2 he k'.2
          rw [e1, e2]
      · cases h
    · cases h
theorem wrR_ok {X : RX} {ts : List Sh} (hf : ts.all Sh.flat = true) {y : KTy (kinds (gsOf ts))} {d v : DV} (h : wrR ts y = some v) (k : RV X (resV (kinds (gsOf ts)) y) d) : d = v := by
  unfold wrR at h
  cases hw : wrL ts y with
  | none => rw [hw] at h; cases h
  | some ds =>
    rw [hw] at h
    have key : ∀ es, RVs X (resL (kinds (gsOf ts)) y) es → es = ds := fun es he => wrL_ok hf hw he
    unfold resV at k
    cases hr : resL (kinds (gsOf ts)) y with
    | nil =>
      rw [hr] at k key
      have := key [] (by simp [RVs])
      subst this
      simp only [RV] at k
      obtain ⟨es, rfl, k⟩ := k
      cases h
      cases es with
      | nil => rfl
      | cons _ _ => simp [RVs] at k
    | cons v0 vs =>
      rw [hr] at k key
      cases vs with
      | nil =>
        have := key [d] (by simpa only [RVs, and_true] using k)
        subst this
        cases h
        rfl
      | cons v1 vs =>
        simp only [RV] at k
        obtain ⟨es, rfl, k⟩ := k
        have := key es k
        subst this
        cases es with
        | nil => simp [RVs] at k
        | cons e0 es => cases es with
          | nil => simp [RVs] at k
          | cons e1 es => cases h; rfl
theorem res_stl {h : Hp} {d : DV} (hd : d.still = true) : res h 8 d = d := by
  have l1 : ∀ (n : Nat) (cs : List DV), cs.all DV.still1 = true → cs.map (res h n) = cs := by
    intro n cs hc
    rw [List.all_eq_true] at hc
    exact (List.map_congr_left fun x hx => res_still (hc x hx)).trans (List.map_id _)
  have l2 : ∀ d : DV, d.still2 = true → ∀ n, res h (n + 2) d = d := by
    intro d hd n
    cases d with
    | agg cs => exact congrArg DV.agg (l1 (n + 1) cs hd)
    | fn f cs => exact congrArg (DV.fn f) (l1 (n + 1) cs hd)
    | _ => first
      | rfl
      | exact res_still (by simpa only [DV.still2] using hd)
  cases d with
  | tup vs =>
    simp only [DV.still, List.all_eq_true] at hd
    show DV.tup (vs.map (res h 7)) = _
    congr 1
    exact (List.map_congr_left fun x hx => l2 x (hd x hx) 5).trans (List.map_id _)
  | _ => exact l2 _ (by simpa only [DV.still] using hd) 6
def rxN : RX := ⟨fun _ => none, 0, fun _ => (none, 0), 0, fun _ => 0, fun _ => 0⟩
theorem invN : Inv rxN ⟨[], []⟩ ⟨[], [], 0⟩ :=
  ⟨rfl, rfl, fun i cs h => by simp at h, fun i i' h => by simp [rxN] at h, fun i k h => (by cases h), fun j fz z c h => by simp at h, fun j j' z c z' c' i m m' h => by simp at h⟩
def natO (ss ts : List Sh) (F : KTy (kinds (gsOf ss)) → Option (KTy (kinds (gsOf ts)))) (args : List DV) : Option DV :=
  match rdArgs ss args with
  | some x => match F x with
    | some y => wrR ts y
    | none => none
  | none => none
def natT (ss ts : List Sh) (F : KTy (kinds (gsOf ss)) → KTy (kinds (gsOf ts))) (args : List DV) : Option DV :=
  match rdArgs ss args with
  | some x => wrR ts (F x)
  | none => none
theorem nat_call {tbl : Table} {f : FuncId} {fl : Bool} {run : List SV → SH → T SV} (SO : QOk (calls tbl (ex tbl)) f fl run) {ts : List Sh} (hf : ts.all Sh.flat = true) {y : KTy (kinds (gsOf ts))} {vs : List SV} {args : List DV} {v : DV}
    (h1 : RVs rxN vs args) (h2 : ∀ d ∈ args, d.still = true) (hrun : (run vs ⟨[], []⟩).sem = some (resV (kinds (gsOf ts)) y)) (hw : wrR ts y = some v) : callQ tbl (ex tbl) (.fn f []) args = some v := by
  obtain ⟨d, r1, r2, r3, r4, r5⟩ := SO rxN ⟨[], []⟩ ⟨[], [], 0⟩ vs args [] _ (.inr rfl) invN (by simpa using h1) hrun
  have e1 : args.map (res ⟨[], [], 0⟩ 8) = args := (List.map_congr_left fun x hx => res_stl (h2 x hx)).trans (List.map_id _)
  have e2 : res ⟨[], [], 0⟩ 8 (.fn f []) = .fn f [] := rfl
  rw [e1, e2] at r4
  have := wrR_ok hf hw r1
  subst this
  exact r4
theorem natO_ok {tbl : Table} {f : FuncId} {ss ts : List Sh} {F : KTy (kinds (gsOf ss)) → Option (KTy (kinds (gsOf ts)))} (SO : SpecOk (calls tbl (ex tbl)) f (specO (gsOf ss) (kinds (gsOf ts)) F)) (hf : ts.all Sh.flat = true) (args : List DV) (v : DV)
    (h : natO ss ts F args = some v) : callQ tbl (ex tbl) (.fn f []) args = some v := by
  unfold natO at h
  split at h
  · rename_i x hx
    split at h
    · rename_i y hy
      obtain ⟨vs, k1, k2, k3, k4⟩ := rdArgs_ok (X := rxN) hx
      refine nat_call SO hf k1 k2 ?_ h
      simp only [k3, Bool.true_eq_false, if_false, k4, T.sem, ob, hy, Option.bind_some]
    · cases h
  · cases h
def natPrim (p : List DV → Option DV) (args : List DV) (h : Hp) : Option (DV × Hp) :=
  match args.all DV.still with
  | true => match p args with
    | some v => some (v, h)
    | none => none
  | false => none
theorem natPrim_ok {P : Program} {esc quiet : FuncId → List Nat} {tbl : Table} (TO : TblOk P esc quiet tbl) {f : FuncId} {p : List DV → Option DV} (hN : ∀ args v, p args = some v → callQ tbl (ex tbl) (.fn f []) args = some v) : PrimOk P (real f) (natPrim p) := by
  intro args h v h' e X w us S vs
  unfold natPrim at e
  split at e
  · rename_i hs
    split at e
    · rename_i v0 hv
      cases e
      obtain ⟨n, hn⟩ := callQ_fin (hN _ _ hv)
      rw [List.all_eq_true] at hs
      have e1 : args.map (res h 8) = args := (List.map_congr_left fun x hx => res_stl (hs x hx)).trans (List.map_id _)
      have e2 : res h 8 (.fn f []) = .fn f [] := rfl
      have vf : V X true (.fn f []) (.func (.func (real f)) #[] #[]) := by simp only [V]; exact ⟨#[], rfl, by simp [VS]⟩
      refine callQ_ok TO (run_ok TO n) (by rw [e1, e2]; exact hn) ?_ S vf vs
      have e3 : (DV.fn f []).still = true := rfl
      rw [e3, List.all_eq_true.2 hs]
      simp
    · cases e
  · cases e
end Go.Dv
