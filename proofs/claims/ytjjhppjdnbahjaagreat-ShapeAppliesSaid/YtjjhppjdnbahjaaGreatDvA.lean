/- The engine, first text: what values, heaps and code are once the order and the capacities that Go leaves open no longer matter; how such code runs (run), and what it comes to (ex). No statement about Go's own run stands here. -/
import Derived.Orders
import Derived.LoopN
import Derived.Below
import Derived.Tactics
import Derived.Deep.MidRow
import Derived.Deep.AppendSrc
namespace Go.Dv

inductive DV where
  | undef
  | cell
  | bool (b : Bool)
  | int (k : IntKind) (n : Int)
  | str (s : ByteArray)
  | nilp
  | ptr (h : Bool) (i s e o : Nat)
  | fp (cs : List DV)
  | nils
  | row (z : Nat) (xs : List (List DV))
  | sl (i s off len : Nat)
  | fn (f : FuncId) (cap : List DV)
  | agg (cs : List DV)
  | tup (vs : List DV)
  deriving Inhabited

def real (f : FuncId) : FuncId := if f < 1000000 then f else f - 1000000
theorem real_lt {f : FuncId} (h : f < 1000000) : real f = f := if_pos h
theorem real_add {f : FuncId} : real (f + 1000000) = f := (if_neg (Nat.not_lt.2 (Nat.le_add_left _ _))).trans (Nat.add_sub_cancel _ _)

structure Blk where
  s : Nat
  z : Nat
  xs : List (List DV)

structure Hp where
  B : List Blk
  R : List Blk
  c : Nat

structure DS where
  t : List DV
  h : Hp

inductive Opd where
  | tmp (t : Nat)
  | val (v : DV)
  /-- A slot, if what lies there is not written any more. -/
  | frz (t : Nat)

def DV.cells : DV → List DV
  | .agg cs => cs
  | v => [v]

def DV.isCell : DV → Bool
  | .undef | .agg _ | .tup _ => false
  | _ => true

def DV.still1 : DV → Bool
  | .ptr .. | .sl .. => false
  | .agg _ | .tup _ | .fn _ _ => false
  | _ => true
def DV.still2 : DV → Bool
  | .agg cs => cs.all DV.still1
  | .fn _ cs => cs.all DV.still1
  | v => v.still1
def DV.still : DV → Bool
  | .tup vs => vs.all DV.still2
  | v => v.still2
def DV.flat1 : DV → Bool
  | .cell | .bool _ | .int _ _ | .str _ | .nilp | .nils => true
  | _ => false
def DV.flat2 : DV → Bool
  | .agg cs => cs.all DV.flat1
  | v => v.flat1
def DV.flat : DV → Bool
  | .tup vs => vs.all DV.flat2
  | v => v.flat2

mutual
def DV.beq : DV → DV → Bool
  | .undef, .undef => true
  | .cell, .cell => true
  | .bool a, .bool b => a == b
  | .int k n, .int k' n' => decide (k = k') && n == n'
  | .str a, .str b => decide (a = b)
  | .nilp, .nilp => true
  | .ptr h i s e o, .ptr h' i' s' e' o' => h == h' && i == i' && s == s' && e == e' && o == o'
  | .fp a, .fp b => DV.beqL a b
  | .nils, .nils => true
  | .row z a, .row z' b => z == z' && DV.beqLL a b
  | .sl i s o n, .sl i' s' o' n' => i == i' && s == s' && o == o' && n == n'
  | .fn f a, .fn g b => decide (f = g) && DV.beqL a b
  | .agg a, .agg b => DV.beqL a b
  | .tup a, .tup b => DV.beqL a b
  | _, _ => false
def DV.beqL : List DV → List DV → Bool
  | [], [] => true
  | a :: l, b :: m => DV.beq a b && DV.beqL l m
  | _, _ => false
def DV.beqLL : List (List DV) → List (List DV) → Bool
  | [], [] => true
  | a :: l, b :: m => DV.beqL a b && DV.beqLL l m
  | _, _ => false
end
mutual
theorem DV.beq_refl : ∀ v : DV, DV.beq v v = true
  | .undef | .cell | .nilp | .nils => by simp [DV.beq]
  | .bool _ | .int _ _ | .str _ | .ptr .. | .sl .. => by simp [DV.beq]
  | .fp a | .agg a | .tup a => by simp [DV.beq, DV.beqL_refl a]
  | .fn _ a => by simp [DV.beq, DV.beqL_refl a]
  | .row _ a => by simp [DV.beq, DV.beqLL_refl a]
theorem DV.beqL_refl : ∀ l : List DV, DV.beqL l l = true
  | [] => by simp [DV.beqL]
  | a :: l => by simp [DV.beqL, DV.beq_refl a, DV.beqL_refl l]
theorem DV.beqLL_refl : ∀ l : List (List DV), DV.beqLL l l = true
  | [] => by simp [DV.beqLL]
  | a :: l => by simp [DV.beqLL, DV.beqL_refl a, DV.beqLL_refl l]
end
mutual
theorem DV.eq_of_beq : ∀ v w : DV, DV.beq v w = true → v = w
  | .fp a, w, h => by cases w <;> simp [DV.beq] at h; rw [DV.eq_of_beqL _ _ h]
  | .agg a, w, h => by cases w <;> simp [DV.beq] at h; rw [DV.eq_of_beqL _ _ h]
  | .tup a, w, h => by cases w <;> simp [DV.beq] at h; rw [DV.eq_of_beqL _ _ h]
  | .fn f a, w, h => by cases w <;> simp [DV.beq] at h; rw [h.1, DV.eq_of_beqL _ _ h.2]
  | .row z a, w, h => by cases w <;> simp [DV.beq] at h; rw [h.1, DV.eq_of_beqLL _ _ h.2]
  | .undef, w, h | .cell, w, h | .nilp, w, h | .nils, w, h => by cases w <;> simp [DV.beq] at h; rfl
  | .bool _, w, h | .int _ _, w, h | .str _, w, h | .ptr .., w, h | .sl .., w, h => by cases w <;> simp [DV.beq] at h <;> simp [h]
theorem DV.eq_of_beqL : ∀ v w : List DV, DV.beqL v w = true → v = w
  | [], w, h => by cases w <;> simp [DV.beqL] at h; rfl
  | a :: l, w, h => by
    cases w <;> simp [DV.beqL] at h
    rw [DV.eq_of_beq _ _ h.1, DV.eq_of_beqL _ _ h.2]
theorem DV.eq_of_beqLL : ∀ v w : List (List DV), DV.beqLL v w = true → v = w
  | [], w, h => by cases w <;> simp [DV.beqLL] at h; rfl
  | a :: l, w, h => by
    cases w <;> simp [DV.beqLL] at h
    rw [DV.eq_of_beqL _ _ h.1, DV.eq_of_beqLL _ _ h.2]
end

def gt (l : List DV) (n : Nat) : DV := l.getD n .undef
def DV.fzn : DV → DV
  | .row z xs => .row z xs
  | .nils => .nils
  | .str s => .str s
  | _ => .undef
theorem DV.fzn_or (d : DV) : d.fzn = d ∨ d.fzn = .undef := by cases d <;> simp [DV.fzn]
def Opd.ev (l : List DV) : Opd → DV
  | .tmp t => gt l t
  | .val v => v
  | .frz t => (gt l t).fzn

def Hp.heap (h : Hp) (b : Bool) : List Blk := if b then h.R else h.B
def Hp.blk (h : Hp) (b : Bool) (i s : Nat) : Option Blk :=
  match (h.heap b)[i]? with
  | some k => if k.s = s then some k else none
  | none => none
def Hp.put (h : Hp) (b : Bool) (i : Nat) (k : Blk) : Hp :=
  if b then { h with R := h.R.set i k } else { h with B := h.B.set i k }
def Hp.new (h : Hp) (b : Bool) (z : Nat) (xs : List (List DV)) : Nat × Hp :=
  if b then (h.R.length, { h with R := h.R ++ [⟨h.c, z, xs⟩], c := h.c + 1 })
  else (h.B.length, { h with B := h.B ++ [⟨h.c, z, xs⟩], c := h.c + 1 })

def res (h : Hp) : Nat → DV → DV
  | 0, v => if v.still1 then v else .undef
  | d + 1, v => match v with
    | .sl i s off len => match h.blk true i s with
      | some k => if off + len ≤ k.xs.length then .row k.z (((k.xs.drop off).take len).map fun r => r.map (res h d)) else .undef
      | none => .undef
    | .ptr b i s e o => match h.blk b i s with
      | some k => match k.xs[e]? with
        | some r => .fp ((r.drop o).map (res h d))
        | none => .undef
      | none => .undef
    | .agg cs => .agg (cs.map (res h d))
    | .tup cs => .tup (cs.map (res h d))
    | .fn f cs => .fn f (cs.map (res h d))
    | v => v

def frzV (h : Hp) : DV → DV
  | .ptr false i s e o => .ptr false i s e o
  | d => res ⟨[], h.R, h.c⟩ 8 d
def frzL (h : Hp) (l : List DV) : List DV := l.map (frzV h)
def frzH (h : Hp) : Hp := ⟨h.B.map fun k => { k with xs := k.xs.map fun r => r.map (frzV h) }, [], h.c⟩

def u0e (h : Hp) : Nat → DV → Bool
  | 0, v => v.still1
  | d + 1, v => match v with
    | .sl i s off len => match h.blk true i s with
      | some k => decide (off + len ≤ k.xs.length) && ((k.xs.drop off).take len).all fun r => r.all (u0e h d)
      | none => false
    | .ptr b i s e o => match h.blk b i s with
      | some k => match k.xs[e]? with
        | some r => (r.drop o).all (u0e h d)
        | none => false
      | none => false
    | .agg cs => cs.all (u0e h d)
    | .tup cs => cs.all (u0e h d)
    | .fn _ cs => cs.all (u0e h d)
    | _ => true

def elems (h : Hp) (z : Nat) : DV → Option (List (List DV))
  | .nils => some []
  | .row z' xs => if z' = z then some xs else none
  | .sl i s off len => match h.blk true i s with
    | some k => if k.z = z ∧ off + len ≤ k.xs.length then some ((k.xs.drop off).take len) else none
    | none => none
  | _ => none
def u68 (z : Nat) : DV → Option (List (List DV))
  | .str b => if z = 1 then some (b.toList.map fun x => [.int .u8 x.toNat]) else none
  | _ => none
def u1n (h : Hp) (z : Nat) (st : Bool) (d : DV) : Option (List (List DV)) := if st then u68 z d else elems h z d

inductive CK where
  | int | str | bool
inductive EqK where
  | agg (ks : List CK) | one (k : CK) | sl | ptr

inductive DOp where
  | move (x : Opd)
  | pick (c a b : Opd)
  | alloc (esc : Bool) (z : Nat) (cs : List DV)
  | box (esc : Bool) (z : Nat) (x : Opd)
  | build (zero : List DV) (parts : List (Nat × Nat × Opd))
  | buildSlice (z : Nat) (len : Nat) (zero : List DV) (parts : List (Nat × Opd))
  | load (z : Option Nat) (x : Opd)
  | store (z : Nat) (x y : Opd) (apart : List (Nat × Opd))
  | nilCheck (x : Opd)
  | bin (op : BinOp) (x y : Opd)
  | eqv (k : EqK) (neg : Bool) (x y : Opd)
  | un (op : UnOp) (x : Opd)
  | conv (k : IntKind) (x : Opd)
  | toStr (x : Opd)
  | toBytes (x : Opd)
  | same (x : Opd)
  | makeSlice (z bytes : Nat) (zero : List DV) (l c : Opd)
  | slice (z : Nat) (x : Opd) (lo hi : Option Opd)
  /-- x[lo:hi:m], of which no one asks but whether it may be. -/
  | chk3 (x : Opd) (lo hi : Option Opd) (m : Opd)
  | clear (z : Nat) (zero : List DV) (x : Opd)
  | fieldAddr (off : Nat) (x : Opd)
  | field (off : Nat) (z : Option Nat) (x : Opd)
  | indexAddr (z : Nat) (x i : Opd)
  | indexArr (n z : Nat) (x i : Opd)
  | indexStr (x i : Opd)
  | indexVal (m s : Nat) (z : Option Nat) (x i : Opd)
  | extract (i : Nat) (x : Opd)
  | len (st : Bool) (x : Opd)
  | append (z bytes : Nat) (st : Bool) (x y : Opd)
  | copy (z : Nat) (st : Bool) (x y : Opd)
  | maxm (mx : Bool) (xs : List Opd)
  | makeFunc (f : FuncId) (xs : List Opd)
  /-- ap: what must lie there ahead of the call and behind it alike. -/
  | call (f : Opd) (args : List Opd) (ap : List (Nat × Opd))
  | callq (f : Opd) (args : List Opd)

structure DOper where
  dst : Option Nat
  op : DOp
  guard : Option (Nat × Bool)

structure DRow where
  i : Nat
  ck : List Nat
  o : DOper

inductive DC where
  | skip
  | draw (l : List DRow)
  | ops (l : List DOper)
  | seq (a b : DC)
  | cond (c : Opd) (a b : DC)
  | block (id : Nat) (a : DC)
  /-- Ahead of it all rows are told as what no one writes any more. -/
  | fblock (id : Nat) (a : DC)
  | loop (a : DC)
  | scope (body cur : DC)
  | label (l : Nat)
  | goto (l : Nat)
  | exit (id : Nat)
  | ret

inductive Ex where
  | normal
  | exit (id : Nat)
  | goto (l : Nat)
  | ret
  deriving DecidableEq

structure DF where
  pure : Bool
  n : Nat
  params : Nat
  body : DC
  results : List (Nat × Option (Option Nat))

def room (n bytes : Nat) : Bool := (2 * n + 192) * bytes ≤ 2 ^ 47

def u26 (x : DV) (z : Nat) (y : DV) (z' : Nat) : Bool :=
  match x, y with
  | .ptr h i _ e o, .ptr h' i' _ e' o' => h != h' || i != i' || e != e' || o + z ≤ o' || o' + z' ≤ o
  | .ptr .., .fp _ => true
  | _, _ => false

def intOp (op : BinOp) (k : IntKind) (a b : Int) : Option DV :=
  match op with
  | .add => some (.int k (k.wrap (a + b)))
  | .sub => some (.int k (k.wrap (a - b)))
  | .mul => some (.int k (k.wrap (a * b)))
  | .quo => if b = 0 then none else some (.int k (k.wrap (a.tdiv b)))
  | .rem => if b = 0 then none else some (.int k (a.tmod b))
  | .and => some (.int k (k.wrap (BitVec.ofInt k.bits a &&& BitVec.ofInt k.bits b).toNat))
  | .or => some (.int k (k.wrap (BitVec.ofInt k.bits a ||| BitVec.ofInt k.bits b).toNat))
  | .xor => some (.int k (k.wrap (BitVec.ofInt k.bits a ^^^ BitVec.ofInt k.bits b).toNat))
  | .andNot => some (.int k (k.wrap (BitVec.ofInt k.bits a &&& ~~~BitVec.ofInt k.bits b).toNat))
  | .eql => some (.bool (a == b))
  | .neq => some (.bool (a != b))
  | .lss => some (.bool (decide (a < b)))
  | .leq => some (.bool (decide (a ≤ b)))
  | .gtr => some (.bool (decide (a > b)))
  | .geq => some (.bool (decide (a ≥ b)))
  | _ => none
def u6v (op : BinOp) (k : IntKind) (a b : Int) : Option DV :=
  if b < 0 then none else
  match op with
  | .shl => some (.int k (k.wrap (a * 2 ^ (min b.toNat k.bits))))
  | .shr => some (.int k (a.fdiv (2 ^ (min b.toNat k.bits))))
  | _ => none
def strOp (op : BinOp) (a b : ByteArray) : Option DV :=
  match op with
  | .add => if ((a.size + b.size : Nat) : Int) > IntKind.i64.max then none else some (.str (a ++ b))
  | .eql => some (.bool (a.toList == b.toList))
  | .neq => some (.bool (!(a.toList == b.toList)))
  | .lss => some (.bool (Op.bytesLess a.toList b.toList))
  | .leq => some (.bool (Op.bytesLess a.toList b.toList || a.toList == b.toList))
  | .gtr => some (.bool (!(Op.bytesLess a.toList b.toList || a.toList == b.toList)))
  | .geq => some (.bool (!(Op.bytesLess a.toList b.toList)))
  | _ => none
def binOp (op : BinOp) : DV → DV → Option DV
  | .int k a, .int k' b => match op with
    | .shl | .shr => u6v op k a b
    | _ => if k = k' then intOp op k a b else none
  | .str a, .str b => strOp op a b
  | _, _ => none
def u5X : CK → DV → DV → Option Bool
  | .int, .int k a, .int k' b => if k = k' then some (a == b) else none
  | .str, .str a, .str b => some (a == b)
  | .bool, .bool a, .bool b => some (a == b)
  | _, _, _ => none
def u0B : List CK → List DV → List DV → Option Bool
  | [], [], [] => some true
  | k :: ks, a :: l, b :: m => match u5X k a b with
    | some true => u0B ks l m
    | some false => if l.length = ks.length ∧ m.length = ks.length then some false else none
    | none => none
  | _, _, _ => none
def eqv : EqK → DV → DV → Option Bool
  | .agg ks, .agg a, .agg b => u0B ks a b
  | .one k, a, b => u5X k a b
  | .sl, .nils, .nils => some true
  | .sl, .nils, .row _ _ | .sl, .nils, .sl .. | .sl, .row _ _, .nils | .sl, .sl .., .nils => some false
  | .ptr, .nilp, .nilp => some true
  | .ptr, .nilp, .fp _ | .ptr, .nilp, .ptr .. | .ptr, .fp _, .nilp | .ptr, .ptr .., .nilp => some false
  | _, _, _ => none
def unOp (op : UnOp) : DV → Option DV
  | .int k n => match op with
    | .neg => some (.int k (k.wrap (0 - n)))
    | .xor => intOp .xor k (if k.signed then -1 else k.max) n
    | _ => none
  | .bool b => match op with
    | .not => some (.bool (!b))
    | _ => none
  | _ => none

def u07 (cs : List DV) (off : Nat) : List DV → List DV
  | [] => cs
  | v :: vs => u07 (cs.set off v) (off + 1) vs
def fill : List DV → List (Nat × List DV) → Option (List DV)
  | cs, [] => some cs
  | cs, (off, vs) :: r => if off + vs.length ≤ cs.length then fill (u07 cs off vs) r else none
def chunk (z : Nat) : Nat → List DV → List (List DV)
  | 0, _ => []
  | n + 1, l => l.take z :: chunk z n (l.drop z)

def bytesOf : List (List DV) → Option (List UInt8)
  | [] => some []
  | [.int .u8 n] :: l => (bytesOf l).map (UInt8.ofNat n.toNat :: ·)
  | _ => none

def bound (v : Option DV) (d : Nat) : Option Nat :=
  match v with
  | none => some d
  | some (.int _ n) => if 0 ≤ n then some n.toNat else none
  | _ => none

def lenOf : DV → Option Nat
  | .nils => some 0
  | .row _ xs => some xs.length
  | .sl _ _ _ n => some n
  | _ => none
def u1j (h : Hp) (z : Nat) (x : DV) (ys : List (List DV)) : Option (DV × Hp) :=
  match x with
  | .nils => match ys with
    | [] => some (.nils, h)
    | _ => some (.sl (h.new true z ys).1 h.c 0 ys.length, (h.new true z ys).2)
  | .sl i s off len => match h.blk true i s with
    | none => none
    | some k =>
      if k.z ≠ z then none
      else if ys.length = 0 then some (x, h)
      else if off + len = k.xs.length then
        some (.sl i h.c 0 (len + ys.length), { (h.put true i ⟨h.c, z, k.xs.drop off ++ ys⟩) with c := h.c + 1 })
      else if off + len + ys.length ≤ k.xs.length then
        some (.sl i s off (len + ys.length), h.put true i { k with xs := k.xs.take (off + len) ++ ys ++ k.xs.drop (off + len + ys.length) })
      else none
  | _ => none

def u2K (h : Hp) (z bytes : Nat) (x : DV) (ys : List (List DV)) : Option (DV × Hp) :=
  match x with
  | .nils => if room ys.length bytes = true then some (.undef, h) else none
  | .sl i s off len => match h.blk true i s with
    | none => none
    | some k =>
      if k.z = z ∧ ys.length ≠ 0 ∧ room (len + ys.length) bytes = true then
        if off + len = k.xs.length then some (.undef, h)
        else if off + len + ys.length ≤ k.xs.length then some (.undef, h.put true i { k with xs := k.xs.take (off + len) ++ ys ++ k.xs.drop (off + len + ys.length) })
        else none
      else none
  | _ => none

structure Oracle where
  k : DV → List DV → Hp → Option (DV × Hp)
  q : DV → List DV → Option DV

def look (h : Hp) (n : Nat) : DV → Option (List DV)
  | .ptr b i s e o => match h.blk b i s with
    | some k => match k.xs[e]? with
      | some r => if o + n ≤ r.length then some ((r.drop o).take n) else none
      | none => none
    | none => none
  | .fp r => if n ≤ r.length then some (r.take n) else none
  | .sl i s _ _ => match h.blk true i s with
    | some k => if k.z = n then some [] else none
    | none => none
  | .row _ _ => some []
  | _ => none
def keeps (h h' : Hp) (n : Nat) (p : DV) : Bool :=
  match look h n p, look h' n p with
  | some a, some b => DV.beqL a b
  | _, _ => false

def step (K : Oracle) (l : List DV) (h : Hp) : DOp → Option (DV × Hp)
  | .move x => some (x.ev l, h)
  | .pick c a b => match c.ev l with
    | .bool b' => some (if b' then a.ev l else b.ev l, h)
    | _ => none
  | .alloc esc z cs => some (.ptr esc (h.new esc z [cs]).1 h.c 0 0, (h.new esc z [cs]).2)
  | .box esc z x => if (x.ev l).cells.length = z ∧ (x.ev l).cells.all DV.isCell then some (.ptr esc (h.new esc z [(x.ev l).cells]).1 h.c 0 0, (h.new esc z [(x.ev l).cells]).2) else none
  | .build zero ps =>
    if ps.all fun p => (p.2.2.ev l).cells.length == p.2.1 && (p.2.2.ev l).cells.all DV.isCell then (fill zero (ps.map fun p => (p.1, (p.2.2.ev l).cells))).map fun cs => (.agg cs, h) else none
  | .buildSlice z len zero ps =>
    if zero.all DV.isCell ∧ ps.all fun p => (p.2.ev l).cells.length == z && (p.2.ev l).cells.all DV.isCell then
      match fill ((List.replicate len zero).flatten) (ps.map fun p => (p.1 * z, (p.2.ev l).cells)) with
      | some cs => some (.sl (h.new true z (chunk z len cs)).1 h.c 0 len, (h.new true z (chunk z len cs)).2)
      | none => none
    else none
  | .load z x => match x.ev l with
    | .ptr b i s e o => match h.blk b i s with
      | some k => match k.xs[e]? with
        | some r => match z with
          | some n => if o + n ≤ r.length then some (.agg ((r.drop o).take n), h) else none
          | none => match r[o]? with
            | some v => some (v, h)
            | none => none
        | none => none
      | none => none
    | .fp r => match z with
      | some n => if n ≤ r.length then some (.agg (r.take n), h) else none
      | none => match r with
        | v :: _ => some (v, h)
        | [] => none
    | _ => none
  | .store z x y ap => match x.ev l with
    | .ptr b i s e o => match h.blk b i s with
      | some k => match k.xs[e]? with
        | some r =>
          if (y.ev l).cells.length = z ∧ o + z ≤ r.length ∧ (y.ev l).cells.all DV.isCell ∧ ap.all (fun p => u26 (x.ev l) z (p.2.ev l) p.1) then
            some (.undef, h.put b i { k with xs := k.xs.set e (u07 r o (y.ev l).cells) })
          else none
        | none => none
      | none => none
    | _ => none
  | .nilCheck x => match x.ev l with
    | .ptr b i s e o => some (.ptr b i s e o, h)
    | .fp r => some (.fp r, h)
    | _ => none
  | .bin op x y => (binOp op (x.ev l) (y.ev l)).map fun v => (v, h)
  | .eqv k neg x y => (eqv k (x.ev l) (y.ev l)).map fun b => (.bool (if neg then !b else b), h)
  | .un op x => (unOp op (x.ev l)).map fun v => (v, h)
  | .conv k x => match x.ev l with
    | .int _ n => some (.int k (k.wrap n), h)
    | _ => none
  | .toStr x => match elems h 1 (x.ev l) with
    | some xs => (bytesOf xs).map fun b => (.str ⟨b.toArray⟩, h)
    | none => none
  | .toBytes x => match x.ev l with
    | .str b => some (.sl (h.new true 1 (b.toList.map fun x => [.int .u8 x.toNat])).1 h.c 0 b.size, (h.new true 1 (b.toList.map fun x => [.int .u8 x.toNat])).2)
    | _ => none
  | .same x => match x.ev l with
    | .str s => some (.str s, h)
    | _ => none
  | .makeSlice z bytes zero a c => match a.ev l, c.ev l with
    | .int _ n, .int _ m =>
      if 0 ≤ n ∧ n ≤ m ∧ room m.toNat bytes then
        some (.sl (h.new true z (List.replicate n.toNat zero)).1 h.c 0 n.toNat, (h.new true z (List.replicate n.toNat zero)).2)
      else none
    | _, _ => none
  | .slice zz x lo hi => match x.ev l with
    | .str s => match bound (lo.map (·.ev l)) 0, bound (hi.map (·.ev l)) s.size with
      | some a, some b => if a ≤ b ∧ b ≤ s.size ∧ zz = 0 then some (.str (s.extract a b), h) else none
      | _, _ => none
    | .nils => match bound (lo.map (·.ev l)) 0, bound (hi.map (·.ev l)) 0 with
      | some a, some b => if a ≤ b ∧ b ≤ 0 ∧ zz ≠ 0 then some (.nils, h) else none
      | _, _ => none
    | .row z xs => match bound (lo.map (·.ev l)) 0, bound (hi.map (·.ev l)) xs.length with
      | some a, some b => if a ≤ b ∧ b ≤ xs.length ∧ z = zz ∧ zz ≠ 0 then some (.row z ((xs.take b).drop a), h) else none
      | _, _ => none
    | .sl i s off len => match bound (lo.map (·.ev l)) 0, bound (hi.map (·.ev l)) len with
      | some a, some b => match h.blk true i s with
        | some k => if a ≤ b ∧ (b ≤ len ∨ off + b ≤ k.xs.length) ∧ k.z = zz ∧ zz ≠ 0 then some (.sl i s (off + a) (b - a), h) else none
        | none => none
      | _, _ => none
    | _ => none
  | .chk3 x lo hi m => match lenOf (x.ev l), bound (lo.map (·.ev l)) 0, bound (hi.map (·.ev l)) 0, bound (some (m.ev l)) 0 with
    | some n, some a, some b, some c => if a ≤ b ∧ b ≤ c ∧ c ≤ n then some (.undef, h) else none
    | _, _, _, _ => none
  | .clear z zero x => match x.ev l with
    | .nils => some (.tup [], h)
    | .sl i s off len => match h.blk true i s with
      | some k => if k.z = z ∧ off + len ≤ k.xs.length then some (.tup [], h.put true i { k with xs := k.xs.take off ++ List.replicate len zero ++ k.xs.drop (off + len) }) else none
      | none => none
    | _ => none
  | .fieldAddr off x => match x.ev l with
    | .ptr b i s e o => some (.ptr b i s e (o + off), h)
    | .fp r => some (.fp (r.drop off), h)
    | _ => none
  | .field off z x => match x.ev l with
    | .agg cs => match z with
      | some n => if off + n ≤ cs.length then some (.agg ((cs.drop off).take n), h) else none
      | none => match cs[off]? with
        | some v => some (v, h)
        | none => none
    | _ => none
  | .indexAddr z x i => match x.ev l, i.ev l with
    | .sl b s off len, .int _ n => if 0 ≤ n ∧ n.toNat < len then
        match h.blk true b s with
        | some k => if k.z = z then some (.ptr true b s (off + n.toNat) 0, h) else none
        | none => none
      else none
    | .row z' xs, .int _ n => if 0 ≤ n ∧ z' = z then
        match xs[n.toNat]? with
        | some r => some (.fp r, h)
        | none => none
      else none
    | _, _ => none
  | .indexArr m z x i => match x.ev l, i.ev l with
    | .ptr b j s e o, .int _ n => if 0 ≤ n ∧ n.toNat < m then some (.ptr b j s e (o + n.toNat * z), h) else none
    | .fp r, .int _ n => if 0 ≤ n ∧ n.toNat < m then some (.fp (r.drop (n.toNat * z)), h) else none
    | _, _ => none
  | .indexStr x i => match x.ev l, i.ev l with
    | .str s, .int _ n => if 0 ≤ n then
        match s.toList[n.toNat]? with
        | some c => some (.int .u8 c.toNat, h)
        | none => none
      else none
    | _, _ => none
  | .indexVal m s z x i => match x.ev l, i.ev l with
    | .agg cs, .int _ n => if 0 ≤ n ∧ n.toNat < m then
        match z with
        | some k => if n.toNat * s + k ≤ cs.length then some (.agg ((cs.drop (n.toNat * s)).take k), h) else none
        | none => match cs[n.toNat * s]? with
          | some v => some (v, h)
          | none => none
      else none
    | _, _ => none
  | .extract i x => match x.ev l with
    | .tup vs => match vs[i]? with
      | some v => some (v, h)
      | none => none
    | _ => none
  | .len st x => match st, x.ev l with
    | false, .nils => some (.int .i64 0, h)
    | false, .row _ xs => some (.int .i64 xs.length, h)
    | false, .sl _ _ _ n => some (.int .i64 n, h)
    | true, .str s => some (.int .i64 s.size, h)
    | _, _ => none
  | .append z bytes st x y => if 1000000 ≤ z then match u1n h (z - 1000000) st (y.ev l) with
      | some ys => u2K h (z - 1000000) bytes (x.ev l) ys
      | none => none
    else match u1n h z st (y.ev l) with
    | some ys => match u1j h z (x.ev l) ys with
      | some r => match r.1 with
        | .sl _ _ _ n => if room n bytes then some r else none
        | _ => some r
      | none => none
    | none => none
  | .copy z st x y => match u1n h z st (y.ev l), x.ev l with
    | some ys, .sl i s off len => match h.blk true i s with
      | some k => if k.z = z ∧ off + len ≤ k.xs.length then
          some (.int .i64 (min ys.length len : Nat), h.put true i { k with xs := k.xs.take off ++ ys.take len ++ k.xs.drop (off + min ys.length len) })
        else none
      | none => none
    | _, _ => none
  | .maxm mx xs => match xs.map (fun x => Opd.ev l x) with
    | [.int k a, .int _ b] => some (.int k (if mx then (if b > a then b else a) else (if b < a then b else a)), h)
    | _ => none
  | .makeFunc f xs => some (.fn f (xs.map (·.ev l)), h)
  | .call f args ap => match K.k (f.ev l) (args.map fun x => Opd.ev l x) h with
    | some (v, h') => if ap.all fun q => keeps h h' q.1 (q.2.ev l) then some (v, h') else none
    | none => none
  | .callq f args =>
    if u0e h 8 (f.ev l) && (args.map fun x => Opd.ev l x).all (u0e h 8) then
      match K.q (res h 8 (f.ev l)) ((args.map fun x => Opd.ev l x).map (res h 8)) with
      | some v => if v.flat || ((f.ev l).still && (args.map fun x => Opd.ev l x).all DV.still) then some (v, h) else none
      | none => none
    else none

def putT (l : List DV) (d : Option Nat) (v : DV) : List DV :=
  match d with
  | some d => l.set d v
  | none => l

def wants (l : List DV) : Option (Nat × Bool) → Option Bool
  | none => some true
  | some (t, b) => match gt l t with
    | .bool b' => some (b' == b)
    | .tup _ => some false
    | _ => none

def ops (K : Oracle) : List DOper → List DV → Hp → Option (List DV × Hp)
  | [], l, h => some (l, h)
  | o :: r, l, h =>
    match wants l o.guard with
    | some true => match step K l h o.op with
      | some (v, h') => ops K r (putT l o.dst v) h'
      | none => none
    | some false => ops K r (putT l o.dst (.tup [])) h
    | none => none

def DOp.withAp (op : DOp) (ap : List (Nat × Opd)) : DOp :=
  match op with
  | .store z x y _ => .store z x y ap
  | .call f xs _ => .call f xs ap
  | op => op
abbrev Log := List (Nat × Nat × DV)
def pick (g : Log) (ck : List Nat) : List (Nat × Opd) := g.filterMap fun e => if ck.contains e.1 then some (e.2.1, .val e.2.2) else none
def u3t : DOp → Option (Nat × Opd)
  | .load z x => some (z.getD 1, x)
  | .indexAddr z (.tmp t) _ => some (z, .tmp t)
  | _ => none
def logOf (i : Nat) (op : DOp) (l : List DV) (g : Log) : Log :=
  match u3t op with
  | some (n, x) => (i, n, x.ev l) :: g
  | none => g
def draws (K : Oracle) : List DRow → List DV → Hp → Log → Option (List DV × Hp)
  | [], l, h, _ => some (l, h)
  | o :: r, l, h, g =>
    match wants l o.o.guard with
    | some true => match step K l h (o.o.op.withAp (pick g o.ck)) with
      | some (v, h') => draws K r (putT l o.o.dst v) h' (logOf o.i o.o.op l g)
      | none => none
    | some false => draws K r (putT l o.o.dst (.tup [])) h g
    | none => none

def DC.after : DC → Nat → Option DC
  | .seq a b, l =>
    match a.after l with
    | some r => some (.seq r b)
    | none => b.after l
  | .label l', l => if l' == l then some .skip else none
  | _, _ => none

def Hp.trim (h : Hp) (n : Nat) : Hp := { h with B := h.B.take n }

def u4t (l : List DV) (h : Hp) : Nat × Option (Option Nat) → Option DV
  | (t, none) => some (gt l t)
  | (t, some z) => match step ⟨fun _ _ _ => none, fun _ _ => none⟩ l h (.load z (.tmp t)) with
    | some (v, _) => some v
    | none => none
def u2k (l : List DV) (h : Hp) : List (Nat × Option (Option Nat)) → Option (List DV)
  | [] => some []
  | r :: rs => match u4t l h r, u2k l h rs with
    | some v, some vs => some (v :: vs)
    | _, _ => none
def u29 (l : List DV) (h : Hp) (rs : List (Nat × Option (Option Nat))) : Option DV :=
  match u2k l h rs with
  | some [v] => some v
  | some vs => some (.tup vs)
  | none => none

structure Table where
  fn : FuncId → Option DF
  prim : FuncId → Option (List DV → Hp → Option (DV × Hp))

def callQ (tbl : Table) (r : DC → List DV → Hp → Option (Ex × List DV × Hp)) (f : DV) (args : List DV) : Option DV :=
  match f with
  | .fn f cap => match tbl.fn f with
    | none => none
    | some d =>
      if (args ++ cap).length ≠ d.params ∨ d.pure = false then none else
      match r d.body (args ++ cap ++ List.replicate (d.n - (args ++ cap).length) .undef) ⟨[], [], 0⟩ with
      | some (.ret, l, h') | some (.normal, l, h') => (u29 l h' d.results).map (res h' 8)
      | _ => none
  | _ => none

def callK (tbl : Table) (r : DC → List DV → Hp → Option (Ex × List DV × Hp)) (f : DV) (args : List DV) (h : Hp) : Option (DV × Hp) :=
  match f with
  | .fn g cap => match tbl.prim g with
    | some p => if cap.isEmpty then p args h else none
    | none => match tbl.fn g with
    | none => none
    | some d =>
      if d.pure then
        match callQ tbl r (res h 8 (.fn g cap)) (args.map (res h 8)) with
        | some v => if v.flat || ((DV.fn g cap).still && args.all DV.still) then some (v, h) else none
        | none => none
      else if (args ++ cap).length ≠ d.params then none
      else
        match r d.body (args ++ cap ++ List.replicate (d.n - (args ++ cap).length) .undef) h with
        | some (.ret, l, h') | some (.normal, l, h') => (u29 l h' d.results).map fun v => (v, h')
        | _ => none
  | _ => none

def calls (tbl : Table) (r : DC → List DV → Hp → Option (Ex × List DV × Hp)) : Oracle := ⟨callK tbl r, callQ tbl r⟩

def run (tbl : Table) : Nat → DC → List DV → Hp → Option (Ex × List DV × Hp)
  | 0, _, _, _ => none
  | n + 1, c, l, h =>
    match c with
    | .skip => some (.normal, l, h)
    | .label _ => some (.normal, l, h)
    | .goto m => some (.goto m, l, h)
    | .exit id => some (.exit id, l, h)
    | .ret => some (.ret, l, h)
    | .ops os => match ops (calls tbl (run tbl n)) os l h with
      | some (l', h') => some (.normal, l', h')
      | none => none
    | .draw os => match draws (calls tbl (run tbl n)) os l h [] with
      | some (l', h') => some (.normal, l', h')
      | none => none
    | .seq a b => match run tbl n a l h with
      | some (.normal, l', h') => run tbl n b l' h'
      | r => r
    | .cond c a b => match c.ev l with
      | .bool true => run tbl n a l h
      | .bool false => run tbl n b l h
      | _ => none
    | .block id a => match run tbl n a l h with
      | some (.exit id', l', h') => if id' = id then some (.normal, l', h') else some (.exit id', l', h')
      | r => r
    | .fblock id a => match run tbl n a (frzL h l) (frzH h) with
      | some (.exit id', l', h') => if id' = id then some (.normal, l', h') else some (.exit id', l', h')
      | r => r
    | .loop a => match run tbl n a l h with
      | some (.normal, l', h') => run tbl n (.loop a) l' h'
      | some (e, l', h') => some (e, l', h')
      | none => none
    | .scope body cur => match run tbl n cur l h with
      | some (.goto m, l', h') => match body.after m with
        | some r => run tbl n (.scope body r) l' h'
        | none => some (.goto m, l', h')
      | r => r

end Go.Dv
/- The engine, second text: when a value, a heap of the engine stand for Go's own. -/
namespace Go.Dv

structure Place where
  B : Nat
  o : Nat
  z : Nat
  cap : Nat

structure Cx where
  Z : Nat → Nat → Option Value
  p : Nat → Place
  c : Nat
  N : Nat
  U : Nat → Prop
  W : World

mutual
def V (X : Cx) (L : Bool) : DV → Value → Prop
  | .undef, _ => True
  | .cell, v => v.oneCell' = true
  | .bool b, v => v = .bool b
  | .int k n, v => v = .int k n
  | .str s, v => v = .string s
  | .nilp, v => v = .pointer none
  | .ptr _ _ s e o, v => L = true ∧ s < X.c ∧ v = .pointer (some ⟨(X.p s).B, (X.p s).o + e * (X.p s).z + o, none⟩)
  | .fp cs, v => ∃ a : Addr, v = .pointer (some a) ∧ a.spot = none ∧ u0G X cs a.block a.off
  | .nils, v => v = .slice none 0 0
  | .row z xs, v => ∃ a cap, v = .slice (some a) xs.length cap ∧ xs.length ≤ cap ∧ (xs ≠ [] → a.spot = none) ∧ VRows X z xs a.block a.off
  | .sl _ s off len, v => L = true ∧ s < X.c ∧ ∃ a cap, v = .slice (some a) len cap ∧ off + cap = (X.p s).cap ∧ len ≤ cap ∧ (cap ≠ 0 → a = ⟨(X.p s).B, (X.p s).o + off * (X.p s).z, none⟩)
  | .fn f cs, v => ∃ arr, v = .func (.func (real f)) #[] arr ∧ VS X L cs arr.toList
  | .agg cs, v => ∃ arr, v = .agg arr ∧ VS X L cs arr.toList
  | .tup cs, v => ∃ arr, v = .tuple arr ∧ VS X L cs arr.toList
def VS (X : Cx) (L : Bool) : List DV → List Value → Prop
  | [], [] => True
  | d :: ds, u :: us => V X L d u ∧ VS X L ds us
  | _, _ => False
def u0G (X : Cx) : List DV → Nat → Nat → Prop
  | [], _, _ => True
  | d :: ds, b, o => (∃ u, X.Z b o = some u ∧ V X false d u ∧ u.oneCell' = true) ∧ u0G X ds b (o + 1)
def VRows (X : Cx) (z : Nat) : List (List DV) → Nat → Nat → Prop
  | [], _, _ => True
  | r :: rs, b, o => r.length = z ∧ u0G X r b o ∧ VRows X z rs b (o + z)
end

structure Cx.le (X Y : Cx) : Prop where
  Z : ∀ b o v, X.Z b o = some v → Y.Z b o = some v
  old : ∀ b o, b < X.N → ¬ X.U b → Y.Z b o = X.Z b o
  c : X.c ≤ Y.c
  p : ∀ s, s < X.c → Y.p s = X.p s
  N : Y.N = X.N
  U : Y.U = X.U
  W : Y.W = X.W

theorem Cx.le.refl (X : Cx) : X.le X := ⟨fun _ _ _ h => h, fun _ _ _ _ => rfl, Nat.le_refl _, fun _ _ => rfl, rfl, rfl, rfl⟩
theorem Cx.le.trans {X Y T : Cx} (h : X.le Y) (k : Y.le T) : X.le T :=
  ⟨fun b o v e => k.Z b o v (h.Z b o v e), fun b o hb hu => (k.old b o (by rw [h.N]; exact hb) (by rw [h.U]; exact hu)).trans (h.old b o hb hu), Nat.le_trans h.c k.c,
    fun s hs => (k.p s (Nat.lt_of_lt_of_le hs h.c)).trans (h.p s hs), k.N.trans h.N, k.U.trans h.U, k.W.trans h.W⟩

section mono
variable {X Y : Cx} {L M : Bool} (hM : L = true → M = true) (hZ : ∀ b o v, X.Z b o = some v → Y.Z b o = some v)
  (hL : L = true → X.c ≤ Y.c ∧ ∀ s, s < X.c → Y.p s = X.p s)
mutual
theorem V.gen {X Y : Cx} {L M : Bool} (hM : L = true → M = true) (hZ : ∀ b o v, X.Z b o = some v → Y.Z b o = some v)
    (hL : L = true → X.c ≤ Y.c ∧ ∀ s, s < X.c → Y.p s = X.p s) : ∀ (d : DV) (u : Value), V X L d u → V Y M d u
  | .undef, _, _ => by simp [V]
  | .cell, _, h => by simpa [V] using h
  | .bool _, _, k => by simpa [V] using k
  | .int _ _, _, k => by simpa [V] using k
  | .str _, _, k => by simpa [V] using k
  | .nilp, _, k => by simpa [V] using k
  | .ptr _ _ s _ _, u, k => by
    simp only [V] at k ⊢
    obtain ⟨k0, k1, k2⟩ := k
    exact ⟨hM k0, Nat.lt_of_lt_of_le k1 (hL k0).1, by rw [(hL k0).2 _ k1]; exact k2⟩
  | .fp cs, u, k => by
    simp only [V] at k ⊢
    obtain ⟨a, k1, k2, k3⟩ := k
    exact ⟨a, k1, k2, u0G.gen hZ cs _ _ k3⟩
  | .nils, _, k => by simpa [V] using k
  | .row z xs, u, k => by
    simp only [V] at k ⊢
    obtain ⟨a, cap, k1, k2, k3, k4⟩ := k
    exact ⟨a, cap, k1, k2, k3, VRows.gen hZ z xs _ _ k4⟩
  | .sl _ s off len, u, k => by
    simp only [V] at k ⊢
    obtain ⟨k0, k1, k2⟩ := k
    exact ⟨hM k0, Nat.lt_of_lt_of_le k1 (hL k0).1, by rw [(hL k0).2 _ k1]; exact k2⟩
  | .fn f cs, u, k => by
    simp only [V] at k ⊢
    obtain ⟨arr, k1, k2⟩ := k
    exact ⟨arr, k1, VS.gen hM hZ hL cs _ k2⟩
  | .agg cs, u, k => by
    simp only [V] at k ⊢
    obtain ⟨arr, k1, k2⟩ := k
    exact ⟨arr, k1, VS.gen hM hZ hL cs _ k2⟩
  | .tup cs, u, k => by
    simp only [V] at k ⊢
    obtain ⟨arr, k1, k2⟩ := k
    exact ⟨arr, k1, VS.gen hM hZ hL cs _ k2⟩
theorem VS.gen {X Y : Cx} {L M : Bool} (hM : L = true → M = true) (hZ : ∀ b o v, X.Z b o = some v → Y.Z b o = some v)
    (hL : L = true → X.c ≤ Y.c ∧ ∀ s, s < X.c → Y.p s = X.p s) : ∀ (ds : List DV) (us : List Value), VS X L ds us → VS Y M ds us
  | [], [], _ => by simp [VS]
  | [], _ :: _, k => by simp [VS] at k
  | _ :: _, [], k => by simp [VS] at k
  | d :: ds, u :: us, k => by
    simp only [VS] at k ⊢
    exact ⟨V.gen hM hZ hL d u k.1, VS.gen hM hZ hL ds us k.2⟩
theorem u0G.gen {X Y : Cx} (hZ : ∀ b o v, X.Z b o = some v → Y.Z b o = some v) : ∀ (ds : List DV) (b o : Nat), u0G X ds b o → u0G Y ds b o
  | [], _, _, _ => by simp [u0G]
  | d :: ds, b, o, k => by
    simp only [u0G] at k ⊢
    obtain ⟨⟨u, k1, k2, k4⟩, k3⟩ := k
    exact ⟨⟨u, hZ _ _ _ k1, V.gen (L := false) (M := false) (fun h => h) hZ (fun h => by cases h) d u k2, k4⟩, u0G.gen hZ ds _ _ k3⟩
theorem VRows.gen {X Y : Cx} (hZ : ∀ b o v, X.Z b o = some v → Y.Z b o = some v) (z : Nat) : ∀ (rs : List (List DV)) (b o : Nat), VRows X z rs b o → VRows Y z rs b o
  | [], _, _, _ => by simp [VRows]
  | r :: rs, b, o, k => by
    simp only [VRows] at k ⊢
    exact ⟨k.1, u0G.gen hZ r _ _ k.2.1, VRows.gen hZ z rs _ _ k.2.2⟩
end
end mono

theorem V.mono {X Y : Cx} {L : Bool} {d : DV} {u : Value} (h : X.le Y) (k : V X L d u) : V Y L d u := V.gen (fun h => h) h.Z (fun _ => ⟨h.c, h.p⟩) d u k
theorem VS.mono {X Y : Cx} {L : Bool} {d : List DV} {u : List Value} (h : X.le Y) (k : VS X L d u) : VS Y L d u := VS.gen (fun h => h) h.Z (fun _ => ⟨h.c, h.p⟩) d u k
theorem V.up {X : Cx} {d : DV} {u : Value} (k : V X false d u) : V X true d u := V.gen (fun _ => rfl) (fun _ _ _ h => h) (fun h => by cases h) d u k
theorem VS.length {X : Cx} {L : Bool} : ∀ {ds : List DV} {us : List Value}, VS X L ds us → ds.length = us.length
  | [], [], _ => rfl
  | [], _ :: _, k => by simp [VS] at k
  | _ :: _, [], k => by simp [VS] at k
  | d :: ds, u :: us, k => by simp only [VS] at k; simp [VS.length k.2]
theorem VS.get {X : Cx} {L : Bool} : ∀ {ds : List DV} {us : List Value} {i : Nat} {d : DV}, VS X L ds us → ds[i]? = some d → ∃ u, us[i]? = some u ∧ V X L d u
  | [], _, _, _, _, h => by simp at h
  | _ :: _, [], _, _, k, _ => by simp [VS] at k
  | d :: ds, u :: us, 0, d', k, h => by simp only [VS] at k; simp at h; subst h; exact ⟨u, rfl, k.1⟩
  | d :: ds, u :: us, i + 1, d', k, h => by simp only [VS] at k; simpa using VS.get k.2 (by simpa using h)
theorem VS.mk {X : Cx} {L : Bool} : ∀ {ds : List DV} {us : List Value}, ds.length = us.length → (∀ (i : Nat) (d : DV) (u : Value), ds[i]? = some d → us[i]? = some u → V X L d u) → VS X L ds us
  | [], [], _, _ => by simp [VS]
  | [], _ :: _, h, _ => by simp at h
  | _ :: _, [], h, _ => by simp at h
  | d :: ds, u :: us, h, k => by
    simp only [VS]
    exact ⟨k 0 d u rfl rfl, VS.mk (by simpa using h) fun i d' u' h1 h2 => k (i + 1) d' u' (by simpa using h1) (by simpa using h2)⟩
theorem VS.val {X : Cx} {L : Bool} {ds : List DV} {us : List Value} {i : Nat} {d : DV} {u : Value} (k : VS X L ds us) (h : ds[i]? = some d) (h' : us[i]? = some u) : V X L d u := by
  obtain ⟨u', h1, h2⟩ := k.get h; rw [h'] at h1; cases h1; exact h2
theorem VS.set {X : Cx} {L : Bool} {ds : List DV} {us : List Value} {i : Nat} {d : DV} {u : Value} (k : VS X L ds us) (h : V X L d u) : VS X L (ds.set i d) (us.set i u) := by
  refine VS.mk (by simp [k.length]) fun j d' u' h1 h2 => ?_
  rw [List.getElem?_set] at h1 h2
  by_cases hj : i = j
  · subst hj
    rw [if_pos rfl] at h1 h2
    split at h1 <;> split at h2 <;> simp_all
  · rw [if_neg hj] at h1 h2; exact k.val h1 h2
theorem VS.append {X : Cx} {L : Bool} : ∀ {ds : List DV} {us : List Value} {ds' : List DV} {us' : List Value}, VS X L ds us → VS X L ds' us' → VS X L (ds ++ ds') (us ++ us')
  | [], [], _, _, _, k => by simpa using k
  | [], _ :: _, _, _, k, _ => by simp [VS] at k
  | _ :: _, [], _, _, k, _ => by simp [VS] at k
  | d :: ds, u :: us, _, _, k, k' => by simp only [VS] at k; simp only [List.cons_append, VS]; exact ⟨k.1, VS.append k.2 k'⟩
theorem VS.take {X : Cx} {L : Bool} {ds : List DV} {us : List Value} (n : Nat) (k : VS X L ds us) : VS X L (ds.take n) (us.take n) :=
  VS.mk (by simp [k.length]) fun i d u h1 h2 => by
    rw [List.getElem?_take] at h1 h2
    split at h1
    · rename_i hi; rw [if_pos hi] at h2; exact k.val h1 h2
    · cases h1
theorem VS.drop {X : Cx} {L : Bool} {ds : List DV} {us : List Value} (n : Nat) (k : VS X L ds us) : VS X L (ds.drop n) (us.drop n) :=
  VS.mk (by simp [k.length]) fun i d u h1 h2 => by
    rw [List.getElem?_drop] at h1 h2; exact k.val h1 h2
theorem VS.replicate_undef {X : Cx} {L : Bool} : ∀ n, VS X L (List.replicate n .undef) (List.replicate n Go.undef)
  | 0 => by simp [VS]
  | n + 1 => by simp only [List.replicate_succ, VS]; exact ⟨by simp [V], VS.replicate_undef n⟩

theorem u0G.get {X : Cx} : ∀ {ds : List DV} {b o i : Nat} {d : DV}, u0G X ds b o → ds[i]? = some d → ∃ u, X.Z b (o + i) = some u ∧ V X false d u ∧ u.oneCell' = true
  | [], _, _, _, _, _, h => by simp at h
  | d :: ds, b, o, 0, d', k, h => by simp only [u0G] at k; simp at h; subst h; exact k.1
  | d :: ds, b, o, i + 1, d', k, h => by
    simp only [u0G] at k
    have := u0G.get k.2 (by simpa using h)
    rwa [show o + (i + 1) = o + 1 + i by omega]
theorem u0G.mk {X : Cx} : ∀ {ds : List DV} {b o : Nat}, (∀ (i : Nat) (d : DV), ds[i]? = some d → ∃ u, X.Z b (o + i) = some u ∧ V X false d u ∧ u.oneCell' = true) → u0G X ds b o
  | [], _, _, _ => by simp [u0G]
  | d :: ds, b, o, k => by
    simp only [u0G]
    refine ⟨k 0 d rfl, u0G.mk fun i d' h => ?_⟩
    have := k (i + 1) d' (by simpa using h)
    rwa [show o + 1 + i = o + (i + 1) by omega]
theorem u0G.drop {X : Cx} {ds : List DV} {b o : Nat} (n : Nat) (k : u0G X ds b o) : u0G X (ds.drop n) b (o + n) :=
  u0G.mk fun i d h => by
    rw [List.getElem?_drop] at h
    have := k.get h
    rwa [show o + n + i = o + (n + i) by omega]
theorem VRows.get {X : Cx} {z : Nat} : ∀ {rs : List (List DV)} {b o i : Nat} {r : List DV}, VRows X z rs b o → rs[i]? = some r → r.length = z ∧ u0G X r b (o + i * z)
  | [], _, _, _, _, _, h => by simp at h
  | r :: rs, b, o, 0, r', k, h => by simp only [VRows] at k; simp at h; subst h; simpa using ⟨k.1, k.2.1⟩
  | r :: rs, b, o, i + 1, r', k, h => by
    simp only [VRows] at k
    have := VRows.get k.2.2 (i := i) (by simpa using h)
    rwa [show o + (i + 1) * z = o + z + i * z by rw [Nat.add_mul]; omega]
theorem VRows.mk {X : Cx} {z : Nat} : ∀ {rs : List (List DV)} {b o : Nat}, (∀ (i : Nat) (r : List DV), rs[i]? = some r → r.length = z ∧ u0G X r b (o + i * z)) → VRows X z rs b o
  | [], _, _, _ => by simp [VRows]
  | r :: rs, b, o, k => by
    simp only [VRows]
    have h0 := k 0 r rfl
    refine ⟨h0.1, by simpa using h0.2, VRows.mk fun i r' h => ?_⟩
    have := k (i + 1) r' (by simpa using h)
    rwa [show o + (i + 1) * z = o + z + i * z by rw [Nat.add_mul]; omega] at this

theorem V.oneCell {X : Cx} {L : Bool} {d : DV} {u : Value} (h : V X L d u) (hd : d.isCell = true) : u.oneCell' = true := by
  cases d <;> simp [DV.isCell] at hd <;> simp only [V] at h <;> first
    | exact h
    | (subst h; rfl)
    | (obtain ⟨_, _, rfl⟩ := h; rfl)
    | (obtain ⟨_, rfl, _⟩ := h; rfl)
    | (obtain ⟨_, _, rfl, _⟩ := h; rfl)
    | (obtain ⟨_, _, _, _, rfl, _⟩ := h; rfl)

structure BlkOk (X : Cx) (w : World) (k : Blk) : Prop where
  c : k.s < X.c
  z : (X.p k.s).z = k.z
  len : k.xs.length ≤ (X.p k.s).cap
  at_ : ∃ cells T fr, w.heap[(X.p k.s).B]? = some (.cells cells T fr) ∧ (X.p k.s).o + (X.p k.s).cap * k.z ≤ cells.size ∧
    (∀ o, o < cells.size ∨ (o = cells.size ∧ k.z ≠ 1) → ¬ (fr.1 ≤ o ∧ o < fr.2)) ∧
    ∀ (e : Nat) (r : List DV), k.xs[e]? = some r → r.length = k.z ∧ ∀ (j : Nat) (d : DV), r[j]? = some d → ∃ u, cells[(X.p k.s).o + e * k.z + j]? = some u ∧ V X true d u ∧ u.oneCell' = true
  own : X.U (X.p k.s).B ∨ X.N ≤ (X.p k.s).B
  off : ∀ o, X.Z (X.p k.s).B o = none

structure Sim (X : Cx) (h : Hp) (w : World) : Prop where
  z : ∀ b o v, X.Z b o = some v → w.cell? ⟨b, o, none⟩ = some v
  blk : ∀ (hb : Bool) (i : Nat) (k : Blk), (h.heap hb)[i]? = some k → BlkOk X w k
  dist : ∀ (hb : Bool) (i : Nat) (k : Blk) (hb' : Bool) (i' : Nat) (k' : Blk), (h.heap hb)[i]? = some k → (h.heap hb')[i']? = some k' → ¬ (hb = hb' ∧ i = i') → (X.p k.s).B ≠ (X.p k'.s).B
  c : h.c = X.c
  N : X.N ≤ w.heap.size
  keep : ∀ b, b < X.N → ¬ X.U b → w.heap[b]? = X.W.heap[b]?
  os : w.os = X.W.os
  tape : w.tape = X.W.tape
  out : w.output = X.W.output
  dr : X.W.drawn ≤ w.drawn

theorem Hp.blk_some {h : Hp} {b : Bool} {i s : Nat} {k : Blk} (e : h.blk b i s = some k) : (h.heap b)[i]? = some k ∧ k.s = s := by
  unfold Hp.blk at e
  split at e
  · rename_i k' hk
    split at e
    · rename_i hs; cases e; exact ⟨hk, hs⟩
    · cases e
  · cases e

theorem Sim.drew {X : Cx} {h : Hp} {w : World} (S : Sim X h w) (n : Nat) (hn : w.drawn ≤ n := by exact Nat.le_succ _) : Sim X h { w with drawn := n } :=
  ⟨S.z, fun hb i k e => let B := S.blk hb i k e; ⟨B.c, B.z, B.len, B.at_, B.own, B.off⟩, S.dist, S.c, S.N, S.keep, S.os, S.tape, S.out, Nat.le_trans S.dr hn⟩
theorem Sim.trim {X : Cx} {h : Hp} {w : World} (S : Sim X h w) (n : Nat) : Sim X (h.trim n) w := by
  have key : ∀ (hb : Bool) (i : Nat) (k : Blk), ((h.trim n).heap hb)[i]? = some k → (h.heap hb)[i]? = some k := by
    intro hb i k e
    cases hb with
    | true => exact e
    | false =>
      simp only [Hp.heap, Hp.trim, Bool.false_eq_true, if_false] at e ⊢
      rw [List.getElem?_take] at e
      split at e
      · exact e
      · cases e
  exact ⟨S.z, fun hb i k e => S.blk hb i k (key _ _ _ e), fun hb i k hb' i' k' e e' => S.dist hb i k hb' i' k' (key _ _ _ e) (key _ _ _ e'), S.c, S.N, S.keep, S.os, S.tape, S.out, S.dr⟩

end Go.Dv
/- The engine, third text: a new block, a block that changes; what a value holds by now (res). -/
namespace Go.Dv

theorem u2m {w : World} {b o : Nat} {v : Value} (h : w.cell? ⟨b, o, none⟩ = some v) : b < w.heap.size := by
  unfold World.cell? at h
  rcases Nat.lt_or_ge b w.heap.size with hb | hb
  · exact hb
  · simp [Array.getElem?_eq_none hb] at h
theorem u17 {w : World} {b o : Nat} {cells : Array Value} {T : TypeId} {fr : Nat × Nat} (h : w.heap[b]? = some (.cells cells T fr)) : w.cell? ⟨b, o, none⟩ = cells[o]? := by
  simp [World.cell?, h]
theorem u3z {w w' : World} {b o : Nat} (h : w'.heap[b]? = w.heap[b]?) : w'.cell? ⟨b, o, none⟩ = w.cell? ⟨b, o, none⟩ := by
  simp [World.cell?, h]

theorem BlkOk.lt {X : Cx} {w : World} {k : Blk} (h : BlkOk X w k) : (X.p k.s).B < w.heap.size := by
  obtain ⟨cells, T, fr, hc, _⟩ := h.at_
  rcases Nat.lt_or_ge (X.p k.s).B w.heap.size with hb | hb
  · exact hb
  · rw [Array.getElem?_eq_none hb] at hc; cases hc

theorem BlkOk.mono {X X' : Cx} {w w' : World} {k : Blk} (h : BlkOk X w k) (le : X.le X') (hz : ∀ o, X'.Z (X.p k.s).B o = none) (hw : w'.heap[(X.p k.s).B]? = w.heap[(X.p k.s).B]?) : BlkOk X' w' k := by
  obtain ⟨cells, T, fr, hc, h1, h2, h3⟩ := h.at_
  have hp := le.p _ h.c
  exact ⟨Nat.lt_of_lt_of_le h.c le.c, by rw [hp]; exact h.z, by rw [hp]; exact h.len,
    ⟨cells, T, fr, by rw [hp, hw]; exact hc, by rw [hp]; exact h1, h2, fun e r hr => by
      rw [hp]
      exact ⟨(h3 e r hr).1, fun j d hd => let ⟨u, hu, hv, h1⟩ := (h3 e r hr).2 j d hd; ⟨u, hu, hv.mono le, h1⟩⟩⟩,
    by rw [hp, le.U, le.N]; exact h.own, by rw [hp]; exact hz⟩

theorem Sim.Znone {X : Cx} {h : Hp} {w : World} (S : Sim X h w) {b : Nat} (hb : w.heap.size ≤ b) (o : Nat) : X.Z b o = none := by
  cases e : X.Z b o with
  | none => rfl
  | some v => exact absurd (u2m (S.z _ _ _ e)) (Nat.not_lt.mpr hb)

def Cx.mark (X : Cx) (q : Place) : Cx := { X with c := X.c + 1, p := fun s => if s = X.c then q else X.p s }
theorem Cx.mark_le (X : Cx) (q : Place) : X.le (X.mark q) :=
  ⟨fun _ _ _ h => h, fun _ _ _ _ => rfl, Nat.le_succ _, fun s hs => by simp [Cx.mark, Nat.ne_of_lt hs], rfl, rfl, rfl⟩
theorem Cx.mark_p (X : Cx) (q : Place) : (X.mark q).p X.c = q := by simp [Cx.mark]

structure But (w w' : World) (b : Nat) : Prop where
  same : ∀ b', b' ≠ b → b' < w.heap.size → w'.heap[b']? = w.heap[b']?
  size : w.heap.size ≤ w'.heap.size
  os : w'.os = w.os
  tape : w'.tape = w.tape
  out : w'.output = w.output
  dr : w.drawn ≤ w'.drawn

theorem u3G {h : Hp} {hb : Bool} {z : Nat} {xs : List (List DV)} {hb' : Bool} {i : Nat} {k : Blk} (e : ((h.new hb z xs).2.heap hb')[i]? = some k) :
    (h.heap hb')[i]? = some k ∨ (hb' = hb ∧ i = (h.new hb z xs).1 ∧ k = ⟨h.c, z, xs⟩) := by
  cases hb <;> cases hb' <;> simp only [Hp.new, Hp.heap, Bool.false_eq_true, if_false, if_true] at e <;> first
    | exact .inl e
    | (rw [List.getElem?_append] at e
       split at e
       · exact .inl e
       · rename_i hi
         rw [List.getElem?_singleton] at e
         split at e
         · rename_i h0; cases e; refine .inr ⟨rfl, ?_, rfl⟩; simp only [Hp.new, Bool.false_eq_true, if_false, if_true]; omega
         · cases e)

theorem Sim.new {X : Cx} {h : Hp} {w w' : World} (S : Sim X h w) (hb : Bool) (z : Nat) (xs : List (List DV)) (cap : Nat) (cells : Array Value) (T : TypeId) (fr : Nat × Nat)
    (hw : But w w' w.heap.size) (hc : w'.heap[w.heap.size]? = some (.cells cells T fr)) (hlen : xs.length ≤ cap) (hsz : cap * z ≤ cells.size)
    (hfr : ∀ o, o < cells.size ∨ (o = cells.size ∧ z ≠ 1) → ¬ (fr.1 ≤ o ∧ o < fr.2))
    (hcells : ∀ (e : Nat) (r : List DV), xs[e]? = some r → r.length = z ∧ ∀ (j : Nat) (d : DV), r[j]? = some d → ∃ u, cells[e * z + j]? = some u ∧ V X true d u ∧ u.oneCell' = true) :
    X.le (X.mark ⟨w.heap.size, 0, z, cap⟩) ∧ Sim (X.mark ⟨w.heap.size, 0, z, cap⟩) (h.new hb z xs).2 w' := by
  have le := X.mark_le ⟨w.heap.size, 0, z, cap⟩
  have hz0 := fun o => S.Znone (Nat.le_refl w.heap.size) o
  have hold : ∀ (hb : Bool) (i : Nat) (k : Blk), (h.heap hb)[i]? = some k → BlkOk (X.mark ⟨w.heap.size, 0, z, cap⟩) w' k := fun hb i k e =>
    let b := S.blk hb i k e
    b.mono le b.off (hw.same _ (Nat.ne_of_lt b.lt) b.lt)
  have hp := X.mark_p ⟨w.heap.size, 0, z, cap⟩
  have hne : ∀ (hb : Bool) (i : Nat) (k : Blk), (h.heap hb)[i]? = some k → ((X.mark ⟨w.heap.size, 0, z, cap⟩).p k.s).B ≠ w.heap.size := fun hb i k e => by
    have b := S.blk hb i k e
    rw [le.p _ b.c]; exact Nat.ne_of_lt b.lt
  refine ⟨le, ⟨fun b o v e => ?_, fun hb' i k e => ?_, fun hb1 i1 k1 hb2 i2 k2 e1 e2 hd => ?_, ?_, Nat.le_trans S.N hw.size, fun b hb' hu => ?_, hw.os.trans S.os, hw.tape.trans S.tape, hw.out.trans S.out, Nat.le_trans S.dr hw.dr⟩⟩
  · have := S.z b o v e
    have hlt := u2m this
    rwa [u3z (hw.same b (Nat.ne_of_lt hlt) hlt)]
  · rcases u3G e with e | ⟨_, _, rfl⟩
    · exact hold _ _ _ e
    · rw [S.c] at *
      refine ⟨Nat.lt_succ_self _, by rw [hp], by rw [hp]; exact hlen, ⟨cells, T, fr, by rw [hp]; exact hc, by rw [hp]; simpa using hsz, hfr, fun e r hr => ?_⟩, .inr ?_, fun o => by rw [hp]; exact hz0 o⟩
      · rw [hp]
        refine ⟨(hcells e r hr).1, fun j d hd => ?_⟩
        obtain ⟨u, h1, h2, h4⟩ := (hcells e r hr).2 j d hd
        exact ⟨u, by simpa using h1, h2.mono le, h4⟩
      · rw [hp]; exact S.N
  · rcases u3G e1 with f1 | ⟨g1, g2, g3⟩ <;> rcases u3G e2 with f2 | ⟨g4, g5, g6⟩
    · have b1 := S.blk _ _ _ f1
      have b2 := S.blk _ _ _ f2
      rw [le.p _ b1.c, le.p _ b2.c]
      exact S.dist _ _ _ _ _ _ f1 f2 hd
    · rw [g6, S.c, hp]; exact hne _ _ _ f1
    · rw [g3, S.c, hp]; exact (hne _ _ _ f2).symm
    · exact absurd ⟨g1.trans g4.symm, g2.trans g5.symm⟩ hd
  · cases hb <;> simp [Hp.new, Cx.mark, S.c]
  · have hlt : b < w.heap.size := Nat.lt_of_lt_of_le hb' S.N
    rw [hw.same b (Nat.ne_of_lt hlt) hlt]
    exact S.keep b hb' hu

theorem heap_put {h : Hp} {hb : Bool} {i : Nat} {k' : Blk} {c : Nat} {hb1 : Bool} {i1 : Nat} {k1 : Blk} (e : (({ (h.put hb i k') with c := c } : Hp).heap hb1)[i1]? = some k1) :
    (hb1 = hb ∧ i1 = i ∧ k1 = k') ∨ (¬ (hb1 = hb ∧ i1 = i) ∧ (h.heap hb1)[i1]? = some k1) := by
  cases hb <;> cases hb1 <;> simp only [Hp.put, Hp.heap, Bool.false_eq_true, if_false, if_true] at e
  · rw [List.getElem?_set] at e
    by_cases hi : i = i1
    · subst hi
      rw [if_pos rfl] at e
      split at e
      · cases e; exact .inl ⟨rfl, rfl, rfl⟩
      · cases e
    · rw [if_neg hi] at e; exact .inr ⟨fun h => hi h.2.symm, e⟩
  · exact .inr ⟨by simp, e⟩
  · exact .inr ⟨by simp, e⟩
  · rw [List.getElem?_set] at e
    by_cases hi : i = i1
    · subst hi
      rw [if_pos rfl] at e
      split at e
      · cases e; exact .inl ⟨rfl, rfl, rfl⟩
      · cases e
    · rw [if_neg hi] at e; exact .inr ⟨fun h => hi h.2.symm, e⟩

theorem Sim.upd {X X' : Cx} {h : Hp} {w w' : World} {hb : Bool} {i : Nat} {k k' : Blk} (S : Sim X h w) (hk : (h.heap hb)[i]? = some k) (le : X.le X') (hZ : X'.Z = X.Z)
    (hB : (X'.p k'.s).B = (X.p k.s).B ∨ (X'.p k'.s).B = w.heap.size) (hw : But w w' (X'.p k'.s).B) (hk' : BlkOk X' w' k') :
    Sim X' { (h.put hb i k') with c := X'.c } w' := by
  have b0 := S.blk _ _ _ hk
  have hne : ∀ (hb1 : Bool) (i1 : Nat) (k1 : Blk), (h.heap hb1)[i1]? = some k1 → ¬ (hb1 = hb ∧ i1 = i) → (X.p k1.s).B ≠ (X'.p k'.s).B := fun hb1 i1 k1 e hd => by
    rcases hB with hB | hB
    · rw [hB]; exact S.dist _ _ _ _ _ _ e hk hd
    · rw [hB]; exact Nat.ne_of_lt (S.blk _ _ _ e).lt
  refine ⟨fun b o v e => ?_, fun hb1 i1 k1 e => ?_, fun hb1 i1 k1 hb2 i2 k2 e1 e2 hd => ?_, rfl, ?_, fun b hb' hu => ?_, ?_, ?_, ?_, ?_⟩
  · rw [hZ] at e
    have hc := S.z b o v e
    have hlt := u2m hc
    have : b ≠ (X'.p k'.s).B := by
      rintro rfl
      rcases hB with hB | hB
      · rw [hB, b0.off] at e; cases e
      · rw [hB] at hlt; exact absurd hlt (Nat.lt_irrefl _)
    rwa [u3z (hw.same b this hlt)]
  · rcases heap_put e with ⟨_, _, rfl⟩ | ⟨hd, e⟩
    · exact hk'
    · have b1 := S.blk _ _ _ e
      exact b1.mono le (fun o => by rw [hZ]; exact b1.off o) (hw.same _ (hne _ _ _ e hd) b1.lt)
  · rcases heap_put e1 with ⟨g1, g2, g3⟩ | ⟨hd1, f1⟩ <;> rcases heap_put e2 with ⟨g4, g5, g6⟩ | ⟨hd2, f2⟩
    · exact absurd ⟨g1.trans g4.symm, g2.trans g5.symm⟩ hd
    · rw [g3, le.p _ (S.blk _ _ _ f2).c]; exact (hne _ _ _ f2 hd2).symm
    · rw [g6, le.p _ (S.blk _ _ _ f1).c]; exact hne _ _ _ f1 hd1
    · rw [le.p _ (S.blk _ _ _ f1).c, le.p _ (S.blk _ _ _ f2).c]; exact S.dist _ _ _ _ _ _ f1 f2 hd
  · rw [le.N]; exact Nat.le_trans S.N hw.size
  · rw [le.N] at hb'
    rw [le.U] at hu
    rw [le.W]
    have hlt : b < w.heap.size := Nat.lt_of_lt_of_le hb' S.N
    have : b ≠ (X'.p k'.s).B := by
      rintro rfl
      rcases hB with hB | hB
      · rw [hB] at hb' hu
        rcases b0.own with h1 | h1
        · exact hu h1
        · exact absurd hb' (Nat.not_lt.mpr h1)
      · rw [hB] at hlt; exact absurd hlt (Nat.lt_irrefl _)
    rw [hw.same b this hlt]
    exact S.keep b hb' hu
  · rw [le.W]; exact hw.os.trans S.os
  · rw [le.W]; exact hw.tape.trans S.tape
  · rw [le.W]; exact hw.out.trans S.out
  · rw [le.W]; exact Nat.le_trans S.dr hw.dr

open Classical in
noncomputable def Cx.snap (X : Cx) (h : Hp) (w : World) : Cx :=
  { X with Z := fun b o => if ∃ (hb : Bool) (i : Nat) (k : Blk), (h.heap hb)[i]? = some k ∧ (X.p k.s).B = b then w.cell? ⟨b, o, none⟩ else X.Z b o }
theorem Cx.snap_Z {X : Cx} {h : Hp} {w : World} (S : Sim X h w) : ∀ b o v, X.Z b o = some v → (X.snap h w).Z b o = some v := by
  intro b o v e
  simp only [Cx.snap]
  split
  · exact S.z b o v e
  · exact e
theorem Cx.snap_cell {X : Cx} {h : Hp} {w : World} (S : Sim X h w) : ∀ b o v, (X.snap h w).Z b o = some v → w.cell? ⟨b, o, none⟩ = some v := by
  intro b o v e
  simp only [Cx.snap] at e
  split at e
  · exact e
  · exact S.z b o v e
theorem Cx.snap_at {X : Cx} {h : Hp} {w : World} {hb : Bool} {i : Nat} {k : Blk} (hk : (h.heap hb)[i]? = some k) (o : Nat) : (X.snap h w).Z (X.p k.s).B o = w.cell? ⟨(X.p k.s).B, o, none⟩ := by
  simp only [Cx.snap]
  rw [if_pos ⟨hb, i, k, hk, rfl⟩]

theorem VS.map {X Y : Cx} {L M : Bool} {f : DV → DV} (hf : ∀ d u, V X L d u → V Y M (f d) u) : ∀ {ds : List DV} {us : List Value}, VS X L ds us → VS Y M (ds.map f) us
  | [], [], _ => by simp [VS]
  | [], _ :: _, k => by simp [VS] at k
  | _ :: _, [], k => by simp [VS] at k
  | d :: ds, u :: us, k => by simp only [VS] at k; simp only [List.map_cons, VS]; exact ⟨hf _ _ k.1, VS.map hf k.2⟩

theorem res_ok {X : Cx} {h : Hp} {w : World} (S : Sim X h w) : ∀ (n : Nat) (d : DV) (u : Value), V X true d u → V (X.snap h w) false (res h n d) u := by
  have hZ := Cx.snap_Z S
  have flat : ∀ d u, d.still1 = true → V X true d u → V (X.snap h w) false d u := by
    intro d u hs k
    cases d with
    | fp cs =>
      simp only [V] at k ⊢
      obtain ⟨a, k1, k2, k3⟩ := k
      exact ⟨a, k1, k2, u0G.gen hZ _ _ _ k3⟩
    | row z xs =>
      simp only [V] at k ⊢
      obtain ⟨a, cap, k1, k2, k3, k4⟩ := k
      exact ⟨a, cap, k1, k2, k3, VRows.gen hZ _ _ _ _ k4⟩
    | undef => simp [V]
    | bool b => simpa only [V] using k
    | int a b => simpa only [V] using k
    | str b => simpa only [V] using k
    | cell => simpa only [V] using k
    | nilp => simpa only [V] using k
    | nils => simpa only [V] using k
    | _ => simp [DV.still1] at hs
  intro n
  induction n with
  | zero =>
    intro d u k
    unfold res
    split
    · rename_i hs; exact flat d u hs k
    · simp [V]
  | succ n ih =>
    intro d u k
    cases d with
    | sl i s off len =>
      simp only [res]
      split
      · rename_i b hb
        split
        · rename_i hlen
          obtain ⟨hk, hs⟩ := Hp.blk_some hb
          subst hs
          have ok := S.blk _ _ _ hk
          simp only [V] at k
          obtain ⟨_, _, a, cap, rfl, hcap, hlc, ha⟩ := k
          obtain ⟨cells, T, fr, hc, hsz, hfr, hcl⟩ := ok.at_
          have hl : ((((b.xs.drop off).take len).map fun r => r.map (res h n))).length = len := by simp; omega
          simp only [V]
          refine ⟨a, cap, by rw [hl], by rw [hl]; exact hlc, fun hne => ?_, ?_⟩
          · have : cap ≠ 0 := by rintro rfl; apply hne; apply List.eq_nil_of_length_eq_zero; omega
            rw [ha this]
          · refine VRows.mk fun e r hr => ?_
            rw [List.getElem?_map, Option.map_eq_some_iff] at hr
            obtain ⟨r0, hr0, rfl⟩ := hr
            rw [List.getElem?_take] at hr0
            split at hr0
            · rename_i he
              rw [List.getElem?_drop] at hr0
              obtain ⟨h1, h2⟩ := hcl _ _ hr0
              refine ⟨by simp [h1], u0G.mk fun j d hd => ?_⟩
              rw [List.getElem?_map, Option.map_eq_some_iff] at hd
              obtain ⟨d0, hd0, rfl⟩ := hd
              obtain ⟨u, hu, hv, ho⟩ := h2 j d0 hd0
              have hc0 : cap ≠ 0 := by omega
              rw [ha hc0]
              refine ⟨u, ?_, ih _ _ hv, ho⟩
              rw [Cx.snap_at hk, u17 hc, ← hu]
              congr 1
              rw [ok.z, Nat.add_mul]; simp only []; omega
            · cases hr0
        · simp [V]
      · simp [V]
    | ptr b i s e o =>
      simp only [res]
      split
      · rename_i bk hb
        split
        · rename_i r hr
          obtain ⟨hk, hs⟩ := Hp.blk_some hb
          subst hs
          have ok := S.blk _ _ _ hk
          simp only [V] at k
          obtain ⟨_, _, rfl⟩ := k
          obtain ⟨cells, T, fr, hc, hsz, hfr, hcl⟩ := ok.at_
          obtain ⟨h1, h2⟩ := hcl _ _ hr
          simp only [V]
          refine ⟨_, rfl, rfl, u0G.mk fun j d hd => ?_⟩
          rw [List.getElem?_map, Option.map_eq_some_iff] at hd
          obtain ⟨d0, hd0, rfl⟩ := hd
          rw [List.getElem?_drop] at hd0
          obtain ⟨u, hu, hv, ho⟩ := h2 _ d0 hd0
          refine ⟨u, ?_, ih _ _ hv, ho⟩
          rw [Cx.snap_at hk, u17 hc, ← hu]
          congr 1
          rw [ok.z]; simp only []; omega
        · simp [V]
      · simp [V]
    | agg cs =>
      simp only [res, V] at k ⊢
      obtain ⟨arr, k1, k2⟩ := k
      exact ⟨arr, k1, k2.map ih⟩
    | tup cs =>
      simp only [res, V] at k ⊢
      obtain ⟨arr, k1, k2⟩ := k
      exact ⟨arr, k1, k2.map ih⟩
    | fn f cs =>
      simp only [res, V] at k ⊢
      obtain ⟨arr, k1, k2⟩ := k
      exact ⟨arr, k1, k2.map ih⟩
    | _ => exact flat _ _ rfl k

end Go.Dv
/- The engine, fourth text: Go's code, as the model has it, told as the engine's (tr..). -/
namespace Go.Dv

def cell1 : Value → Option DV
  | .bool b => some (.bool b)
  | .int k n => some (.int k n)
  | .string s => some (.str s)
  | .pointer none => some .nilp
  | .slice none 0 0 => some .nils
  | .complex _ _ _ => some .cell
  | _ => none
def cells1 : List Value → Option (List DV)
  | [] => some []
  | v :: l => match cell1 v, cells1 l with
    | some d, some r => some (d :: r)
    | _, _ => none
def cnst : Value → Option DV
  | .agg cs => (cells1 cs.toList).map .agg
  | v => cell1 v
def lit1 (d : DV) : Bool := d.isCell && d.still1
def litRow (z len : Nat) (zero : List DV) (l : List (Nat × Opd)) : Option DV :=
  if zero.all lit1 && l.all (fun p => match p.2 with | .val d => d.cells.length == z && d.cells.all lit1 | _ => false) then
    (fill ((List.replicate len zero).flatten) (l.map fun p => (p.1 * z, (p.2.ev []).cells))).map fun cs => .row z (chunk z len cs)
  else none
def trO : Operand → Option Opd
  | .tmp t => some (.tmp t)
  | .const v => (cnst v).map .val
  | .func f => if f < 1000000 then some (.val (.fn f [])) else none
  | .global _ => none
def trOs : List Operand → Option (List Opd)
  | [] => some []
  | x :: l => match trO x, trOs l with
    | some y, some r => some (y :: r)
    | _, _ => none
def trOpt : Option Operand → Option (Option Opd)
  | none => some none
  | some x => (trO x).map some

section
variable (P : Program)
def sizeP (t : TypeId) : Option Nat := (P.info? t).map (·.size)
def zeroP (t : TypeId) : Option (List DV) :=
  match P.info? t with
  | some i => match i.zero with
    | some v => cells1 v.cells.toList
    | none => none
  | none => none
def aggP (t : TypeId) : Option (Option Nat) :=
  match P.underlying t, P.info? t with
  | some (.struct _), some i => some (some i.size)
  | some (.array _ _), some i => some (some i.size)
  | some _, some _ => some none
  | _, _ => none
def fieldP (t : TypeId) (f : Nat) : Option Field :=
  match P.underlying t with
  | some (.struct fs) => fs[f]?
  | _ => none

def eqFs (g : TypeId → Option (List CK)) : List Field → Nat → Option (List CK)
  | [], _ => some []
  | f :: fs, o => match g f.type with
    | some ks => match eqFs g fs (o + ks.length) with
      | some r => if f.name ≠ "_" ∧ f.offset = o ∧ sizeP P f.type = some ks.length then some (ks ++ r) else none
      | none => none
    | none => none
def u3d : Nat → TypeId → Option (List CK)
  | 0, _ => none
  | d + 1, t => match P.underlying t with
    | some .bool => some [.bool]
    | some (.int _) => some [.int]
    | some .string => some [.str]
    | some (.struct fs) => if P.stoodInHeld t then none else eqFs P (u3d d) fs.toList 0
    | _ => none

def u6F (fs : List Field) : Option (List (Nat × Nat)) :=
  match fs with
  | [] => some []
  | f :: r => match sizeP P f.type, u6F r with
    | some s, some l => some ((f.offset, s) :: l)
    | _, _ => none
def partsP (pl : Nat → Option (Nat × Nat)) : List (Nat × Operand) → Option (List (Nat × Nat × Opd))
  | [] => some []
  | (i, x) :: r => match pl i, trO x, partsP pl r with
    | some (o, s), some y, some l => some ((o, s, y) :: l)
    | _, _, _ => none
def elemsP : List (Nat × Operand) → Option (List (Nat × Opd))
  | [] => some []
  | (i, x) :: r => match trO x, elemsP r with
    | some y, some l => some ((i, y) :: l)
    | _, _ => none

def trOp (esc : Bool) (ap : List (Nat × Opd)) (o : Op) : Option DOp :=
  match o with
  | .move x | .assign x => (trO x).map .move
  | .pick c a b => match trO c, trO a, trO b with
    | some c, some a, some b => some (.pick c a b)
    | _, _, _ => none
  | .alloc e => match zeroP P e with
    | some cs => some (.alloc esc cs.length cs)
    | none => none
  | .box e x => match sizeP P e, trO x with
    | some z, some x => some (.box esc z x)
    | _, _ => none
  | .build t ps => match P.underlying t, zeroP P t with
    | some (.struct fs), some zero => match u6F P fs.toList with
      | some pl => (partsP (pl[·]?) ps.toList).map (.build zero)
      | none => none
    | some (.array _ e), some zero => match sizeP P e with
      | some s => (partsP (fun i => some (i * s, s)) ps.toList).map (.build zero)
      | none => none
    | _, _ => none
  | .buildSlice t len ps => match P.underlying t with
    | some (.slice e) => match sizeP P e, zeroP P e, elemsP ps.toList with
      | some z, some zero, some l => if zero.length = z ∧ 0 < z ∧ len * z ≤ 2 ^ 24 then (if esc then (litRow z len zero l).map fun d => .move (.val d) else some (.buildSlice z len zero l)) else none
      | _, _, _ => none
    | _ => none
  | .load t x => match aggP P t, trO x with
    | some z, some x => some (.load z x)
    | _, _ => none
  | .store t x y => match sizeP P t, trO x, trO y with
    | some z, some x, some y => some (.store z x y ap)
    | _, _, _ => none
  | .nilCheck x => (trO x).map .nilCheck
  | .binOp op t x y _ => match trO x, trO y, P.underlying t with
    | some x, some y, some d => match d, op with
      | .struct _, .eql => if P.eqGuardType P.depth t then none else (u3d P 10000 t).map fun ks => .eqv (.agg ks) false x y
      | .struct _, .neq => if P.eqGuardType P.depth t then none else (u3d P 10000 t).map fun ks => .eqv (.agg ks) true x y
      | .slice _, .eql => some (.eqv .sl false x y)
      | .slice _, .neq => some (.eqv .sl true x y)
      | .pointer _, .eql => some (.eqv .ptr false x y)
      | .pointer _, .neq => some (.eqv .ptr true x y)
      | .bool, .eql => some (.eqv (.one .bool) false x y)
      | .bool, .neq => some (.eqv (.one .bool) true x y)
      | .int _, _ | .string, _ => some (.bin op x y)
      | _, _ => none
    | _, _, _ => none
  | .unOp op _ x => (trO x).map (.un op)
  | .convert src dst x => match P.underlying src, P.underlying dst, trO x with
    | some (.int _), some (.int k), some x => some (.conv k x)
    | some .string, some .string, some x => some (.same x)
    | some (.slice e), some .string, some x => match P.underlying e with
      | some (.int .u8) => if sizeP P e = some 1 then some (.toStr x) else none
      | _ => none
    | some .string, some (.slice e), some x => match P.underlying e with
      | some (.int .u8) => some (.toBytes x)
      | _ => none
    | _, _, _ => none
  | .makeSlice t l c => match P.underlying t with
    | some (.slice e) => match P.info? e, zeroP P e, trO l, trO c with
      | some i, some zero, some l, some c => if zero.length = i.size ∧ 0 < i.size ∧ 0 < i.bytes then some (.makeSlice i.size i.bytes zero l c) else none
      | _, _, _, _ => none
    | _ => none
  | .slice t x lo hi none => match P.underlying t, trO x, trOpt lo, trOpt hi with
    | some (.slice e), some x, some lo, some hi => match sizeP P e with
      | some (z + 1) => some (.slice (z + 1) x lo hi)
      | _ => none
    | some .string, some x, some lo, some hi => some (.slice 0 x lo hi)
    | _, _, _, _ => none
  | .slice t x lo hi (some m) => match P.underlying t, trO x, trOpt lo, hi, trO m with
    | some (.slice e), some x, some lo, some hi, some m => match sizeP P e, trO hi with
      | some _, some hi => some (.chk3 x lo (some hi) m)
      | _, _ => none
    | _, _, _, _, _ => none
  | .fieldAddr t x f => match fieldP P t f, trO x with
    | some f, some x => match sizeP P f.type with
      | some (_ + 1) => some (.fieldAddr f.offset x)
      | _ => none
    | _, _ => none
  | .field t x f => match fieldP P t f, trO x with
    | some f, some x => (aggP P f.type).map fun z => .field f.offset z x
    | _, _ => none
  | .indexAddr t x i => match P.underlying t, trO x, trO i with
    | some (.slice e), some x, some i => (sizeP P e).map fun z => .indexAddr z x i
    | some (.array n e), some x, some i => (sizeP P e).map fun z => .indexArr n z x i
    | _, _, _ => none
  | .index t x i => match P.underlying t, trO x, trO i with
    | some .string, some x, some i => some (.indexStr x i)
    | some (.array n e), some x, some i => match sizeP P e, aggP P e with
      | some s, some z => some (.indexVal n s z x i)
      | _, _ => none
    | _, _, _ => none
  | .extract x i => (trO x).map (.extract i)
  | .makeFunc (.func f) first cap => if first.isEmpty ∧ f < 1000000 then (trOs cap.toList).map (.makeFunc f) else none
  | .call c => match c.callee with
    | .value f => match trO f, trOs c.args.toList with
      | some f, some xs => some (.call f xs ap)
      | _, _ => none
    | .builtin .len => match trOs c.args.toList, c.argTypes.toList with
      | some [x], [t] => match P.underlying t with
        | some .string => some (.len true x)
        | some (.slice _) => some (.len false x)
        | _ => none
      | _, _ => none
    | .builtin .append => match trOs c.args.toList, c.argTypes.toList with
      | some [x, y], [t, u] => match P.underlying t with
        | some (.slice e) => match P.info? e, zeroP P e, P.underlying u with
          | some i, some zero, some (.slice _) => if zero.length = i.size ∧ 0 < i.size ∧ 0 < i.bytes ∧ i.size < 1000000 then some (.append (if esc then i.size + 1000000 else i.size) i.bytes false x y) else none
          | some i, some zero, some .string => if zero.length = i.size ∧ i.size = 1 ∧ 0 < i.bytes ∧ i.size < 1000000 then some (.append i.size i.bytes true x y) else none
          | _, _, _ => none
        | _ => none
      | _, _ => none
    | .builtin .copy => match trOs c.args.toList, c.argTypes.toList with
      | some [x, y], [t, u] => match P.underlying t with
        | some (.slice e) => match P.underlying u with
          | some .string => (sizeP P e).map fun z => .copy z true x y
          | _ => (sizeP P e).map fun z => .copy z false x y
        | _ => none
      | _, _ => none
    | .builtin .clear => match trOs c.args.toList, c.argTypes.toList with
      | some [x], [t] => match P.underlying t with
        | some (.slice e) => match sizeP P e, zeroP P e with
          | some z, some zero => if zero.length = z ∧ 0 < z then some (.clear z zero x) else none
          | _, _ => none
        | _ => none
      | _, _ => none
    | .builtin .max => match trOs c.args.toList with
      | some [x, y] => some (.maxm true [x, y])
      | _ => none
    | .builtin .min => match trOs c.args.toList with
      | some [x, y] => some (.maxm false [x, y])
      | _ => none
    | _ => none
  | _ => none
end

theorem cell1_ok {X : Cx} {L : Bool} {v : Value} {d : DV} (h : cell1 v = some d) : V X L d v ∧ d.isCell = true := by
  unfold cell1 at h
  split at h <;> first
    | (cases h; simp [V, DV.isCell, Value.oneCell'])
    | cases h
theorem u3y {X : Cx} {L : Bool} : ∀ {vs : List Value} {ds : List DV}, cells1 vs = some ds → VS X L ds vs ∧ ∀ d ∈ ds, d.isCell = true
  | [], ds, h => by simp only [cells1, Option.some.injEq] at h; subst h; simp [VS]
  | v :: vs, ds, h => by
    simp only [cells1] at h
    split at h
    · rename_i d r h1 h2
      cases h
      obtain ⟨g1, g2⟩ := u3y (X := X) (L := L) h2
      obtain ⟨g3, g4⟩ := cell1_ok (X := X) (L := L) h1
      simp only [VS]
      exact ⟨⟨g3, g1⟩, by simpa using ⟨g4, g2⟩⟩
    · cases h
theorem cnst_ok {X : Cx} {L : Bool} {v : Value} {d : DV} (h : cnst v = some d) : V X L d v := by
  unfold cnst at h
  split at h
  · rw [Option.map_eq_some_iff] at h
    obtain ⟨ds, h1, rfl⟩ := h
    simp only [V]
    exact ⟨_, rfl, (u3y h1).1⟩
  · exact (cell1_ok h).1

def TM (X : Cx) (l : List DV) (a : Act) : Prop := VS X true l a.tmps.toList
theorem TM.mono {X Y : Cx} {l : List DV} {a : Act} (h : X.le Y) (k : TM X l a) : TM Y l a := VS.mono h k
theorem u0q {X : Cx} {l : List DV} {a : Act} {x : Operand} {y : Opd} (h : trO x = some y) (T : TM X l a) : V X true (y.ev l) (a.eval x) := by
  cases x with
  | tmp t =>
    cases h
    simp only [Opd.ev, gt, Act.eval, List.getD_eq_getElem?_getD]
    cases e : l[t]? with
    | none => simp [V]
    | some d =>
      obtain ⟨u, h1, h2⟩ := VS.get T e
      rw [Array.getElem?_toList] at h1
      simpa [Array.getD_eq_getD_getElem?, h1] using h2
  | const v =>
    simp only [trO, Option.map_eq_some_iff] at h
    obtain ⟨d, h1, rfl⟩ := h
    exact cnst_ok h1
  | func f =>
    simp only [trO] at h
    split at h
    · rename_i hf
      cases h
      simp only [Opd.ev, Act.eval, V, real_lt hf]; exact ⟨#[], rfl, by simp [VS]⟩
    · cases h
  | global g => cases h
theorem u3U {X : Cx} {l : List DV} {a : Act} (T : TM X l a) : ∀ {xs : List Operand} {ys : List Opd}, trOs xs = some ys → VS X true (ys.map (fun y => y.ev l)) (xs.map a.eval)
  | [], ys, h => by simp only [trOs, Option.some.injEq] at h; subst h; simp [VS]
  | x :: xs, ys, h => by
    simp only [trOs] at h
    split at h
    · rename_i y r h1 h2
      cases h
      simp only [List.map_cons, VS]
      exact ⟨u0q h1 T, u3U T h2⟩
    · cases h
theorem TM.put {X : Cx} {l : List DV} {a : Act} {d : DV} {u : Value} (T : TM X l a) (h : V X true d u) (dst : Option Tmp) : TM X (putT l dst d) (a.put dst u) := by
  cases dst with
  | none => exact T
  | some t =>
    simp only [TM, putT, Act.put, Array.toList_setIfInBounds]
    exact VS.set T h

theorem u0C {P : Program} {t : TypeId} {n : Nat} (h : sizeP P t = some n) (w : World) : (sizeOf t).run P w = .ok n w := by
  unfold sizeP at h
  rw [Option.map_eq_some_iff] at h
  obtain ⟨i, h1, h2⟩ := h
  simp [sizeOf, typeInfo, h1, h2]
theorem u33 {P : Program} {t : TypeId} {zs : List DV} (h : zeroP P t = some zs) (w : World) : ∃ v, (zeroValue t).run P w = .ok v w ∧ (∀ (X : Cx) (L : Bool), VS X L zs v.cells.toList) ∧ ∀ d ∈ zs, d.isCell = true := by
  unfold zeroP at h
  split at h
  · rename_i i hi
    split at h
    · rename_i v hv
      exact ⟨v, by simp [zeroValue, typeInfo, hi, hv], fun X L => (u3y h).1, (u3y (X := ⟨fun _ _ => none, fun _ => ⟨0, 0, 0, 0⟩, 0, 0, fun _ => False, w⟩) (L := true) h).2⟩
    · cases h
  · cases h

end Go.Dv
/- The engine, fifth text: cells that lie in memory, read and written. -/
set_option linter.unusedVariables false
namespace Go.Dv

def Lies (X : Cx) (w : World) (ds : List DV) (b o : Nat) : Prop :=
  ∀ (j : Nat) (d : DV), ds[j]? = some d → ∃ u, w.cell? ⟨b, o + j, none⟩ = some u ∧ V X true d u ∧ u.oneCell' = true

theorem Lies.list {X : Cx} {w : World} : ∀ {ds : List DV} {b o : Nat}, Lies X w ds b o →
    ∃ us : List Value, us.length = ds.length ∧ w.rangeAt b o us ∧ VS X true ds us ∧ ∀ u ∈ us, u.oneCell' = true
  | [], _, _, _ => ⟨[], rfl, fun j v h => by simp at h, by simp [VS], by simp⟩
  | d :: ds, b, o, k => by
    obtain ⟨u, h1, h2, h3⟩ := k 0 d rfl
    obtain ⟨us, g1, g2, g3, g4⟩ := Lies.list (ds := ds) (b := b) (o := o + 1) fun j d' h => by
      have := k (j + 1) d' (by simpa using h)
      rwa [show o + 1 + j = o + (j + 1) by omega]
    refine ⟨u :: us, by simp [g1], fun j v h => ?_, by simp only [VS]; exact ⟨h2, g3⟩, by simpa using ⟨h3, g4⟩⟩
    cases j with
    | zero => simp at h; subst h; exact h1
    | succ j =>
      have := g2 j v (by simpa using h)
      rwa [show o + (j + 1) = o + 1 + j by omega]
theorem Lies.take {X : Cx} {w : World} {ds : List DV} {b o : Nat} (n : Nat) (k : Lies X w ds b o) : Lies X w (ds.take n) b o := fun j d h => by
  rw [List.getElem?_take] at h
  split at h
  · exact k j d h
  · cases h
theorem Lies.drop {X : Cx} {w : World} {ds : List DV} {b o : Nat} (n : Nat) (k : Lies X w ds b o) : Lies X w (ds.drop n) b (o + n) := fun j d h => by
  rw [List.getElem?_drop] at h
  have := k (n + j) d h
  rwa [show o + n + j = o + (n + j) by omega]
theorem Lies.append {X : Cx} {w : World} {ds es : List DV} {b o : Nat} (h : Lies X w ds b o) (k : Lies X w es b (o + ds.length)) : Lies X w (ds ++ es) b o := fun j d e => by
  rw [List.getElem?_append] at e
  split at e
  · exact h j d e
  · rename_i hj
    have := k _ d e
    rwa [show o + ds.length + (j - ds.length) = o + j by omega] at this

theorem u0G.lies {X : Cx} {h : Hp} {w : World} (S : Sim X h w) {ds : List DV} {b o : Nat} (k : u0G X ds b o) : Lies X w ds b o := fun _ _ e =>
  let ⟨u, h1, h2, h3⟩ := k.get e
  ⟨u, S.z _ _ _ h1, h2.up, h3⟩
theorem BlkOk.lies {X : Cx} {w : World} {k : Blk} (B : BlkOk X w k) {e : Nat} {r : List DV} (hr : k.xs[e]? = some r) : r.length = k.z ∧ Lies X w r (X.p k.s).B ((X.p k.s).o + e * k.z) := by
  obtain ⟨cells, T, fr, hc, h1, h2, h3⟩ := B.at_
  refine ⟨(h3 e r hr).1, fun j d hd => ?_⟩
  obtain ⟨u, g1, g2, g3⟩ := (h3 e r hr).2 j d hd
  exact ⟨u, by rw [u17 hc]; exact g1, g2, g3⟩

theorem lies_rows {X : Cx} {w : World} {z : Nat} : ∀ {rs : List (List DV)} {b o : Nat}, (∀ (i : Nat) (r : List DV), rs[i]? = some r → r.length = z ∧ Lies X w r b (o + i * z)) →
    rs.flatten.length = rs.length * z ∧ Lies X w rs.flatten b o
  | [], _, _, _ => ⟨by simp, fun j d h => by simp at h⟩
  | r :: rs, b, o, k => by
    obtain ⟨h1, h2⟩ := k 0 r rfl
    obtain ⟨h3, h4⟩ := lies_rows (rs := rs) (b := b) (o := o + z) fun i r' h => by
      have := k (i + 1) r' (by simpa using h)
      rwa [show o + (i + 1) * z = o + z + i * z by rw [Nat.add_mul]; omega] at this
    refine ⟨by simp [h1, h3, Nat.add_mul]; omega, ?_⟩
    rw [List.flatten_cons]
    exact Lies.append (by simpa using h2) (by rw [h1]; exact h4)

theorem u1b (b : Nat) {T : TypeId} {fr : Nat × Nat} : ∀ (vs : List Value) (o : Nat) (w : World) (cells : Array Value), w.heap[b]? = some (.cells cells T fr) →
    ∃ cells', (w.setCells b o vs).heap[b]? = some (.cells cells' T fr) ∧ cells'.size = cells.size ∧
      ∀ j, cells'[j]? = if o ≤ j ∧ j < o + vs.length ∧ j < cells.size then vs[j - o]? else cells[j]?
  | [], o, w, cells, h => ⟨cells, h, rfl, fun j => by rw [if_neg (by simp; omega)]⟩
  | v :: r, o, w, cells, h => by
    have h1 : (w.setCell ⟨b, o, none⟩ v).heap[b]? = some (.cells (cells.setIfInBounds o v) T fr) := by
      simp only [World.setCell]; rw [Array.getElem?_modify, if_pos rfl, h]; rfl
    obtain ⟨cells', g1, g2, g3⟩ := u1b b r (o + 1) _ _ h1
    refine ⟨cells', g1, by simpa using g2, fun j => ?_⟩
    rw [g3 j]
    simp only [Array.size_setIfInBounds, List.length_cons]
    by_cases c1 : o + 1 ≤ j ∧ j < o + 1 + r.length ∧ j < cells.size
    · rw [if_pos c1, if_pos (by omega), show j - o = (j - (o + 1)) + 1 by omega, List.getElem?_cons_succ]
    · rw [if_neg c1]
      by_cases c2 : o = j
      · subst c2
        by_cases c3 : o < cells.size
        · rw [if_pos (by omega)]; simp [c3]
        · rw [if_neg (by omega)]; simp [c3]
      · rw [if_neg (by omega)]; simp [c2]
theorem u1x (b : Nat) : ∀ (vs : List Value) (o : Nat) (w : World), But w (w.setCells b o vs) b ∧ (w.setCells b o vs).heap.size = w.heap.size
  | [], o, w => ⟨⟨fun _ _ _ => rfl, Nat.le_refl _, rfl, rfl, rfl, Nat.le_refl _⟩, rfl⟩
  | v :: r, o, w => by
    obtain ⟨h1, h2⟩ := u1x b r (o + 1) (w.setCell ⟨b, o, none⟩ v)
    have hs : (w.setCell ⟨b, o, none⟩ v).heap.size = w.heap.size := by simp [World.setCell]
    refine ⟨⟨fun b' hb hl => ?_, by rw [World.setCells, h2, hs]; exact Nat.le_refl _, h1.os, h1.tape, h1.out, h1.dr⟩, by rw [World.setCells, h2, hs]⟩
    rw [World.setCells, h1.same b' hb (by rw [hs]; exact hl)]
    simp [World.setCell, Array.getElem?_modify, Ne.symm hb]

theorem u2N : ∀ (vs : List DV) (cs : List DV) (o : Nat), (u07 cs o vs).length = cs.length
  | [], _, _ => rfl
  | v :: vs, cs, o => by rw [u07, u2N vs]; simp
theorem u39 : ∀ (vs : List DV) (cs : List DV) (o j : Nat), (u07 cs o vs)[j]? = if o ≤ j ∧ j < o + vs.length ∧ j < cs.length then vs[j - o]? else cs[j]?
  | [], cs, o, j => by rw [u07, if_neg (by simp; omega)]
  | v :: vs, cs, o, j => by
    rw [u07, u39 vs]
    simp only [List.length_set, List.length_cons]
    by_cases c1 : o + 1 ≤ j ∧ j < o + 1 + vs.length ∧ j < cs.length
    · rw [if_pos c1, if_pos (by omega), show j - o = (j - (o + 1)) + 1 by omega, List.getElem?_cons_succ]
    · rw [if_neg c1]
      by_cases c2 : o = j
      · subst c2
        by_cases c3 : o < cs.length
        · rw [if_pos (by omega)]; simp [c3]
        · rw [if_neg (by omega)]; simp [c3]
      · rw [if_neg (by omega)]; simp [c2]

theorem Sim.write {X : Cx} {h : Hp} {w : World} (S : Sim X h w) {hb : Bool} {i : Nat} {k : Blk} (hk : (h.heap hb)[i]? = some k) (xs' : List (List DV)) (q : Nat) (vs : List Value)
    (hlen : xs'.length = k.xs.length) (hq : q + vs.length ≤ k.xs.length * k.z)
    (hx : ∀ (e : Nat) (r : List DV), xs'[e]? = some r → r.length = k.z ∧ ∀ (j : Nat) (d : DV), r[j]? = some d →
      (q ≤ e * k.z + j ∧ e * k.z + j < q + vs.length ∧ ∃ u, vs[e * k.z + j - q]? = some u ∧ V X true d u ∧ u.oneCell' = true) ∨
      (¬ (q ≤ e * k.z + j ∧ e * k.z + j < q + vs.length) ∧ ∃ r0, k.xs[e]? = some r0 ∧ r0[j]? = some d)) :
    Sim X (h.put hb i { k with xs := xs' }) (w.setCells (X.p k.s).B ((X.p k.s).o + q) vs) := by
  have B := S.blk _ _ _ hk
  obtain ⟨cells, T, fr, hc, h1, h2, h3⟩ := B.at_
  obtain ⟨cells', g1, g2, g3⟩ := u1b (X.p k.s).B vs ((X.p k.s).o + q) w cells hc
  obtain ⟨b1, b2⟩ := u1x (X.p k.s).B vs ((X.p k.s).o + q) w
  have hle : k.xs.length * k.z ≤ (X.p k.s).cap * k.z := Nat.mul_le_mul_right _ B.len
  have := S.upd (X' := X) (w' := w.setCells (X.p k.s).B ((X.p k.s).o + q) vs) (k' := { k with xs := xs' }) hk (Cx.le.refl X) rfl (.inl rfl) b1
    ⟨B.c, B.z, by rw [hlen]; exact B.len, ⟨cells', T, fr, g1, by rw [g2]; exact h1, by rw [g2]; exact h2, fun e r hr => ?_⟩, B.own, B.off⟩
  · rw [← S.c] at this
    cases hb <;> exact this
  · obtain ⟨f1, f2⟩ := hx e r hr
    refine ⟨f1, fun j d hd => ?_⟩
    have hj : j < k.z := by rw [← f1]; exact (List.getElem?_eq_some_iff.1 hd).1
    have he : e < k.xs.length := by rw [← hlen]; exact (List.getElem?_eq_some_iff.1 hr).1
    have hej : e * k.z + j < k.xs.length * k.z := by
      have : (e + 1) * k.z ≤ k.xs.length * k.z := Nat.mul_le_mul_right _ he
      rw [Nat.add_mul] at this; omega
    rw [g3]
    rcases f2 j d hd with ⟨c1, c2, u, u1, u2, u3⟩ | ⟨c1, r0, u1, u2⟩
    · refine ⟨u, ?_, u2, u3⟩
      rw [if_pos (by simp only []; omega), show (X.p k.s).o + e * k.z + j - ((X.p k.s).o + q) = e * k.z + j - q by omega]
      exact u1
    · obtain ⟨u, v1, v2, v3⟩ := (h3 e r0 u1).2 j d u2
      exact ⟨u, by rw [if_neg (by simp only []; omega)]; exact v1, v2, v3⟩

end Go.Dv
