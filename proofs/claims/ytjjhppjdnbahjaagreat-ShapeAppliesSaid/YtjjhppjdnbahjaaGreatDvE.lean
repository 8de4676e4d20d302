/- The engine, second storey: values with types (lists, numbers, texts of Lean's own), and how code comes to a function over them (sym). No statement about Go's own run stands here. -/
import Derived.Test.YtjjhppjdnbahjaaGreatDvD
import Derived.Lib.Bytealg
set_option linter.unusedVariables false
namespace Go.Dv

inductive Rose (α : Type) where
  | mk (a : α) (kids : List (Rose α))
def Rose.val {α : Type} : Rose α → α
  | .mk a _ => a
def Rose.kids {α : Type} : Rose α → List (Rose α)
  | .mk _ l => l

inductive Sh where
  | int (k : IntKind) | bool | str | list (s : Sh) | pair (a b : Sh) | tree (a : Sh) | uno (a : Sh) | mark (a : Sh)
  deriving DecidableEq

@[reducible] def El : Sh → Type
  | .int _ => Int
  | .bool => Bool
  | .str => ByteArray
  | .list s => List (El s)
  | .pair a b => El a × El b
  | .tree a => Rose (El a)
  | .uno a => El a
  | .mark a => Bool × El a

def Sh.size : Sh → Nat
  | .pair a b => a.size + b.size
  | .tree a => a.size + 1
  | .uno a => a.size
  | .mark a => a.size
  | _ => 1

inductive K where
  | val (s : Sh) | view (v : Bool) (s : Sh) | own (v : Bool) (z : Nat) (s : Sh) | at_ (s : Sh) | clo (f : FuncId) (s : Sh)
@[reducible] def K.Ty : K → Type
  | .val s => El s
  | .view _ s => El s
  | .own _ _ s => List (El s)
  | .at_ s => El s
  | .clo _ s => El s
def K.size : K → Nat
  | .val s => s.size
  | .view _ s => s.size
  | .own _ _ _ => 1
  | .at_ _ => 1
  | .clo _ _ => 1
@[reducible] def KTy : List K → Type
  | [] => Unit
  | [k] => k.Ty
  | k :: ks => k.Ty × KTy ks
inductive SV where
  | undef | tt | ff | bool (b : Bool) | int (k : IntKind) (n : Int) | str (s : ByteArray)
  | nilp | nil
  | lst (s : Sh) (l : List (El s))
  | vw (v : Bool) (s : Sh) (l : List (El s))
  | own (j : Nat)
  | ptr (i o : Nat)
  | ep (j : Nat) (n : Int) (o : Nat)
  | fp (cs : List SV)
  | fn (f : FuncId) (cap : List SV)
  | agg (cs : List SV)
  | tup (vs : List SV)

inductive RC where
  | typed (v : Bool) (s : Sh) (l : List (El s))
  | raw (rows : List (List SV))
inductive RB where
  | dead
  | live (fz : Bool) (z : Nat) (c : RC)
structure SH where
  B : List (List SV)
  R : List RB

def ob {α β : Type} (o : Option α) (k : α → Option β) : Option β := o.bind k
def ifb {α : Type} (b : Bool) (t f : α) : α := bif b then t else f
def osum {α β ρ : Type} (x : α ⊕ β) (f : α → Option ρ) (g : β → Option ρ) : Option ρ := match x with
  | .inl a => f a
  | .inr b => g b
def omap {α β : Type} (k : α → β) (o : Option α) : Option β := o.map k

inductive T (α : Type) : Type 1 where
  | ret (a : α)
  | fail
  | br (b : Bool) (t f : T α)
  | ask (ρ : Type) (o : Option ρ) (k : ρ → T α)
  | cs (α' β' : Type) (x : α' ⊕ β') (f : α' → T α) (g : β' → T α)
def T.bind {α β : Type} (t : T α) (k : α → T β) : T β :=
  match t with
  | .ret a => k a
  | .fail => .fail
  | .br b t f => .br b (t.bind k) (f.bind k)
  | .ask s o g => .ask s o fun x => (g x).bind k
  | .cs a b x f g => .cs a b x (fun x => (f x).bind k) (fun x => (g x).bind k)
def T.sem {α : Type} : T α → Option α
  | .ret a => some a
  | .fail => none
  | .br b t f => ifb b t.sem f.sem
  | .ask s o g => ob o fun x => (g x).sem
  | .cs _ _ x f g => osum x (fun x => (f x).sem) (fun x => (g x).sem)
def T.sure {α : Type} : T α → Bool
  | .ret _ => true
  | .br _ t f => t.sure && f.sure
  | _ => false
def T.pick {α : Type} (d : α) : T α → α
  | .ret a => a
  | .br b t f => ifb b (t.pick d) (f.pick d)
  | _ => d
def T.ofO {α : Type} : Option α → T α
  | some a => .ret a
  | none => .fail

def El.dflt : (s : Sh) → El s
  | .int _ => (0 : Int)
  | .bool => false
  | .str => ⟨#[]⟩
  | .list _ => []
  | .pair a b => (El.dflt a, El.dflt b)
  | .tree a => .mk (El.dflt a) []
  | .uno a => El.dflt a
  | .mark a => (false, El.dflt a)

def u0f : (s : Sh) → El s → List SV → List SV
  | .int k, n, r => .int k n :: r
  | .bool, b, r => .bool b :: r
  | .str, x, r => .str x :: r
  | .list s, l, r => .lst s l :: r
  | .pair a b, x, r => u0f a x.1 (u0f b x.2 r)
  | .tree a, x, r => u0f a x.val (.lst (.tree a) x.kids :: r)
  | .uno a, x, r => u0f a x r
  | .mark a, x, r => u0f a x.2 r
def u2C (v : Bool) : (s : Sh) → El s → List SV → List SV
  | .int k, n, r => .int k n :: r
  | .bool, b, r => .bool b :: r
  | .str, x, r => .str x :: r
  | .list s, l, r => .vw v s l :: r
  | .pair a b, x, r => u2C v a x.1 (u2C v b x.2 r)
  | .tree a, x, r => u2C v a x.val (.vw false (.tree a) x.kids :: r)
  | .uno a, x, r => u2C v a x r
  | .mark a, x, r => List.replicate a.size .undef ++ r
def cellsR (v : Bool) (s : Sh) (x : El s) (r : List SV) : List SV :=
  match v with
  | true => u2C true s x r
  | false => u0f s x r
def valE : (s : Sh) → El s → SV
  | .int k, n => .int k n
  | .bool, b => .bool b
  | .str, x => .str x
  | .list s, l => .lst s l
  | .pair a b, x => .agg (u0f (.pair a b) x [])
  | .tree a, x => .agg (u0f (.tree a) x [])
  | .uno a, x => .agg (u0f a x [])
  | .mark a, x => .agg (u0f a x.2 [])
def valV (v : Bool) : (s : Sh) → El s → SV
  | .int k, n => .int k n
  | .bool, b => .bool b
  | .str, x => .str x
  | .list s, l => .vw v s l
  | .pair a b, x => .agg (u2C v (.pair a b) x [])
  | .tree a, x => .agg (u2C v (.tree a) x [])
  | .uno a, x => .agg (u2C v a x [])
  | .mark a, x => .agg (List.replicate a.size .undef ++ [])

def Sh.bare : Sh → Bool
  | .int _ | .bool | .str => true
  | .list _ | .tree _ => false
  | .pair a b => a.bare && b.bare
  | .uno a => a.bare
  | .mark _ => false
def Sh.plain : Sh → Bool
  | .int _ | .bool | .str | .list _ => true
  | .pair a b => a.plain && b.plain
  | .tree a => a.plain
  | .uno a => a.plain
  | .mark _ => false
def castL {s' s : Sh} (l : List (El s')) : Option (List (El s)) :=
  if h : s' = s then some (h ▸ l) else none

inductive Lv where
  | no | top | deep | all
  deriving DecidableEq
def Lv.under : Lv → Lv
  | .all => .all
  | _ => .no
def Lv.kid : Lv → Lv
  | .no => .no
  | _ => .top
def Lv.of (v : Bool) : Lv := match v with
  | true => .deep
  | false => .top
def Lv.lets (t : Lv) (v : Bool) : Bool := match t with
  | .no => false
  | .top => !v
  | .deep => v
  | .all => true
def Lv.letsV (t : Lv) (v : Bool) (s : Sh) : Bool := match t with
  | .top => !v || s.bare
  | t => t.lets v
def Lv.letsO (t : Lv) (v : Bool) (s : Sh) : Bool := match t with
  | .deep => v || s.bare
  | .top => !v || s.bare
  | t => t.lets v
def slL (t : Lv) (h : SH) (s : Sh) (row : List SV → Option (El s)) : SV → Option (List (El s))
  | .nil => some []
  | .lst s' l => match t with
    | .deep => none
    | _ => castL l
  | .vw v s' l => if t.letsV v s' then castL l else none
  | .own j => match t with
    | .no => none
    | _ => match h.R[j]? with
      | some (.live _ _ (.typed v s' l)) => if t.letsO v s' then castL l else none
      | some (.live _ z (.raw rows)) => if z = s.size ∧ (t = .deep → s.bare = true) then rows.mapM row else none
      | _ => none
  | _ => none

def decE (t : Lv) (h : SH) : (s : Sh) → List SV → Option (El s × List SV)
  | .int k, .int k' n :: r => if k = k' then some (n, r) else none
  | .bool, .bool b :: r => some (b, r)
  | .bool, .tt :: r => some (true, r)
  | .bool, .ff :: r => some (false, r)
  | .str, .str x :: r => some (x, r)
  | .list s, c :: r => match slL t h s (fun cs => match decE t.under h s cs with | some (x, []) => some x | _ => none) c with
    | some l => some (l, r)
    | none => none
  | .pair a b, cs => match decE t h a cs with
    | some (x, r) => match decE t h b r with
      | some (y, r) => some ((x, y), r)
      | none => none
    | none => none
  | .tree a, cs => match decE t h a cs with
    | some (x, c :: r) => match slL t.kid h (.tree a) (fun cs => match decE .no h a cs with
        | some (x, [.nil]) => some (.mk x [])
        | some (x, [.lst s' l]) => (castL (s := .tree a) l).map (.mk x)
        | _ => none) c with
      | some l => some (.mk x l, r)
      | none => none
    | _ => none
  | .uno a, cs => decE t h a cs
  | _, _ => none

def SV.cells : SV → List SV
  | .agg cs => cs
  | v => [v]
def dec (t : Lv) (h : SH) (s : Sh) (v : SV) : Option (El s) :=
  match decE t h s v.cells with
  | some (x, []) => some x
  | _ => none

def SV.isCell : SV → Bool
  | .undef | .agg _ | .tup _ => false
  | _ => true

def intsOf (k : IntKind) : List (List DV) → Option (List Int)
  | [] => some []
  | [.int k' n] :: r => if k' = k then (intsOf k r).map (n :: ·) else none
  | _ => none
def ofDV : DV → SV
  | .row 1 ([.int k n] :: r) => match intsOf k ([.int k n] :: r) with
    | some l => .lst (.int k) l
    | none => .undef
  | .bool true => .tt
  | .bool false => .ff
  | .int k n => .int k n
  | .str s => .str s
  | .nilp => .nilp
  | .nils => .nil
  | .fn f cap => match cap with
    | [] => .fn f []
    | _ => .undef
  | .agg cs => .agg (cs.map fun c => match c with
    | .bool true => .tt
    | .bool false => .ff
    | .int k n => .int k n
    | .str s => .str s
    | .nilp => .nilp
    | .nils => .nil
    | _ => .undef)
  | _ => .undef

def gs (l : List SV) (n : Nat) : SV := l.getD n .undef
def SV.fzn : SV → SV
  | .lst s xs => .lst s xs
  | .nil => .nil
  | .str s => .str s
  | _ => .undef
def Opd.sv (l : List SV) : Opd → SV
  | .tmp t => gs l t
  | .val v => ofDV v
  | .frz t => (gs l t).fzn

def SV.truth : SV → Option Bool
  | .tt => some true
  | .ff => some false
  | .bool b => some b
  | _ => none

def getI {α : Type} (l : List α) (n : Int) : Option α := if 0 ≤ n then l[n.toNat]? else none
def getB (s : ByteArray) (n : Int) : Option Int := if 0 ≤ n then (s.toList[n.toNat]?).map fun c => (c.toNat : Int) else none

def sInt (op : BinOp) (k : IntKind) (a b : Int) : T SV :=
  match op with
  | .add => .ret (.int k (k.wrap (a + b)))
  | .sub => .ret (.int k (k.wrap (a - b)))
  | .mul => .ret (.int k (k.wrap (a * b)))
  | .quo => .br (b == 0) .fail (.ret (.int k (k.wrap (a.tdiv b))))
  | .rem => .br (b == 0) .fail (.ret (.int k (a.tmod b)))
  | .and => .ret (.int k (k.wrap (BitVec.ofInt k.bits a &&& BitVec.ofInt k.bits b).toNat))
  | .or => .ret (.int k (k.wrap (BitVec.ofInt k.bits a ||| BitVec.ofInt k.bits b).toNat))
  | .xor => .ret (.int k (k.wrap (BitVec.ofInt k.bits a ^^^ BitVec.ofInt k.bits b).toNat))
  | .andNot => .ret (.int k (k.wrap (BitVec.ofInt k.bits a &&& ~~~BitVec.ofInt k.bits b).toNat))
  | .eql => .ret (.bool (a == b))
  | .neq => .ret (.bool (a != b))
  | .lss => .ret (.bool (decide (a < b)))
  | .leq => .ret (.bool (decide (a ≤ b)))
  | .gtr => .ret (.bool (decide (b < a)))
  | .geq => .ret (.bool (decide (b ≤ a)))
  | _ => .fail
def sShift (op : BinOp) (k : IntKind) (a b : Int) : T SV :=
  match op with
  | .shl => .br (decide (b < 0)) .fail (.ret (.int k (k.wrap (a * 2 ^ (min b.toNat k.bits)))))
  | .shr => .br (decide (b < 0)) .fail (.ret (.int k (a.fdiv (2 ^ (min b.toNat k.bits)))))
  | _ => .fail
def sStr (op : BinOp) (a b : ByteArray) : T SV :=
  match op with
  | .add => .br (decide (((a.size + b.size : Nat) : Int) > IntKind.i64.max)) .fail (.ret (.str (a ++ b)))
  | .eql => .ret (.bool (a.toList == b.toList))
  | .neq => .ret (.bool (!(a.toList == b.toList)))
  | .lss => .ret (.bool (Op.bytesLess a.toList b.toList))
  | .leq => .ret (.bool (Op.bytesLess a.toList b.toList || a.toList == b.toList))
  | .gtr => .ret (.bool (!(Op.bytesLess a.toList b.toList || a.toList == b.toList)))
  | .geq => .ret (.bool (!(Op.bytesLess a.toList b.toList)))
  | _ => .fail
def sBin (op : BinOp) : SV → SV → T SV
  | .int k a, .int k' b => match op with
    | .shl | .shr => sShift op k a b
    | _ => if k = k' then sInt op k a b else .fail
  | .str a, .str b => sStr op a b
  | _, _ => .fail
def sCell : CK → SV → SV → Option Bool
  | .int, .int k a, .int k' b => if k = k' then some (a == b) else none
  | .str, .str a, .str b => some (a == b)
  | .bool, a, b => match a.truth, b.truth with
    | some a, some b => some (a == b)
    | _, _ => none
  | _, _, _ => none
def u2u : List CK → List SV → List SV → Option Bool
  | [], [], [] => some true
  | [k], [a], [b] => sCell k a b
  | k :: ks, a :: l, b :: m => match sCell k a b, u2u ks l m with
    | some x, some y => some (x && y)
    | _, _ => none
  | _, _, _ => none
def sEqv : EqK → SV → SV → Option Bool
  | .agg ks, .agg a, .agg b => u2u ks a b
  | .one k, a, b => sCell k a b
  | .ptr, .nilp, .nilp => some true
  | .ptr, .nilp, .ptr _ _ | .ptr, .nilp, .ep _ _ _ | .ptr, .nilp, .fp _ | .ptr, .ptr _ _, .nilp | .ptr, .ep _ _ _, .nilp | .ptr, .fp _, .nilp => some false
  | _, _, _ => none
def neg (n b : Bool) : Bool := match n with
  | true => !b
  | false => b
def sUn (op : UnOp) : SV → T SV
  | .int k n => match op with
    | .neg => .ret (.int k (k.wrap (0 - n)))
    | .xor => sInt .xor k (if k.signed then -1 else k.max) n
    | _ => .fail
  | .tt => match op with
    | .not => .ret .ff
    | _ => .fail
  | .ff => match op with
    | .not => .ret .tt
    | _ => .fail
  | .bool b => match op with
    | .not => .ret (.bool (!b))
    | _ => .fail
  | _ => .fail

def sPick (c a b : SV) : T SV :=
  match c with
  | .tt => .ret a
  | .ff => .ret b
  | .bool x => match b with
    | .ff => match a.truth with
      | some a => .ret (.bool (x && a))
      | none => .fail
    | _ => match a with
      | .tt => match b.truth with
        | some b => .ret (.bool (x || b))
        | none => .fail
      | _ => .br x (.ret a) (.ret b)
  | _ => .fail

def sover (cs : List SV) (off : Nat) : List SV → List SV
  | [] => cs
  | v :: vs => sover (cs.set off v) (off + 1) vs
def sfill : List SV → List (Nat × List SV) → Option (List SV)
  | cs, [] => some cs
  | cs, (off, vs) :: r => if off + vs.length ≤ cs.length then sfill (sover cs off vs) r else none
def u6x (z : Nat) : Nat → List SV → List (List SV)
  | 0, _ => []
  | n + 1, l => l.take z :: u6x z n (l.drop z)

def sOf (z : Option Nat) (cs : List SV) : T SV :=
  match z with
  | some n => if 0 < n ∧ n ≤ cs.length then .ret (.agg (cs.take n)) else .fail
  | none => match cs with
    | v :: _ => .ret v
    | [] => .fail

def u3N (v : Option SV) (d : Int) : Option Int :=
  match v with
  | none => some d
  | some (.int _ n) => some n
  | _ => none
def cutOk (lo hi : Option Opd) (a b n : Int) : Bool :=
  match lo, hi with
  | none, none => true
  | none, some _ => decide (0 ≤ b) && decide (b ≤ n)
  | some _, none => decide (0 ≤ a) && decide (a ≤ n)
  | some _, some _ => decide (0 ≤ a) && decide (a ≤ b) && decide (b ≤ n)
def cutL {α : Type} (lo hi : Option Opd) (a b : Int) (l : List α) : List α :=
  match lo, hi with
  | none, none => l
  | none, some _ => l.take b.toNat
  | some _, none => l.drop a.toNat
  | some _, some _ => (l.take b.toNat).drop a.toNat
def SV.isNone {α : Type} : Option α → Bool
  | none => true
  | some _ => false
def sCut (lo hi : Option Opd) (a b n : Int) (v : SV) : T SV :=
  match lo, hi with
  | none, none => .ret v
  | _, _ => .br (cutOk lo hi a b n) (.ret v) .fail

inductive Spec where
  | q (fl : Bool) (run : List SV → SH → T SV)
  | k (run : List SV → SH → T (SV × SH))
  | w (s : Sh)
abbrev Specs := FuncId → Option Spec

def SV.flat1 : SV → Bool
  | .tt | .ff | .bool _ | .int _ _ | .str _ | .nilp | .nil => true
  | _ => false

def loadC (v : Bool) : (s : Sh) → El s → T (List SV)
  | .mark s, x => .br x.1 .fail (.ret (u0f s x.2 []))
  | s, x => .ret (cellsR v s x [])
def stepQ (sp : Specs) (l : List SV) (h : SH) : DOp → T SV
  | .move x => .ret (x.sv l)
  | .pick c a b => sPick (c.sv l) (a.sv l) (b.sv l)
  | .build zero ps => if (ps.all fun p => (p.2.2.sv l).cells.length == p.2.1 && (p.2.2.sv l).cells.all SV.isCell) then match sfill ((ofDV (.agg zero)).cells) (ps.map fun p => (p.1, (p.2.2.sv l).cells)) with
      | some cs => .ret (.agg cs)
      | none => .fail
    else .fail
  | .load z x => match x.sv l with
    | .ptr i o => match h.B[i]? with
      | some cs => sOf z (cs.drop o)
      | none => .fail
    | .ep j n o => match h.R[j]? with
      | some (.live _ _ (.typed v s l)) => .ask (El s) (getI l n) fun x => (loadC v s x).bind fun cs => sOf z (cs.drop o)
      | some (.live _ _ (.raw [r])) => if n = 0 then sOf z (r.drop o) else .fail
      | _ => .fail
    | .fp cs => sOf z cs
    | _ => .fail
  | .nilCheck x => match x.sv l with
    | .ptr i o => .ret (.ptr i o)
    | .ep j n o => .ret (.ep j n o)
    | .fp cs => .ret (.fp cs)
    | _ => .fail
  | .bin op x y => sBin op (x.sv l) (y.sv l)
  | .eqv k ng x y => match sEqv k (x.sv l) (y.sv l) with
    | some b => .ret (.bool (neg ng b))
    | none => .fail
  | .un op x => sUn op (x.sv l)
  | .conv k x => match x.sv l with
    | .int _ n => .ret (.int k (k.wrap n))
    | _ => .fail
  | .toStr x => match slL .all h (.int .u8) (fun cs => match cs with | [.int .u8 n] => some n | _ => none) (x.sv l) with
    | some xs => .ret (.str ⟨(xs.map fun n => UInt8.ofNat n.toNat).toArray⟩)
    | none => .fail
  | .same x => match x.sv l with
    | .str s => .ret (.str s)
    | _ => .fail
  | .slice zz x lo hi => match u3N (lo.map (·.sv l)) 0 with
    | some a => match x.sv l with
      | .str s => match u3N (hi.map (·.sv l)) s.size with
        | some b => if zz = 0 then sCut lo hi a b s.size (.str (s.extract a.toNat b.toNat)) else .fail
        | none => .fail
      | .nil => match u3N (hi.map (·.sv l)) 0 with
        | some b => if zz = 0 then .fail else sCut lo hi a b 0 .nil
        | none => .fail
      | .lst s xs => match u3N (hi.map (·.sv l)) xs.length with
        | some b => if zz = s.size then sCut lo hi a b xs.length (.lst s (cutL lo hi a b xs)) else .fail
        | none => .fail
      | .vw v s xs => match u3N (hi.map (·.sv l)) xs.length with
        | some b => if zz = s.size then sCut lo hi a b xs.length (.vw v s (cutL lo hi a b xs)) else .fail
        | none => .fail
      | _ => .fail
    | none => .fail
  | .fieldAddr off x => match x.sv l with
    | .ptr i o => .ret (.ptr i (o + off))
    | .ep j n o => .ret (.ep j n (o + off))
    | .fp cs => .ret (.fp (cs.drop off))
    | _ => .fail
  | .field off z x => match x.sv l with
    | .agg cs => match z with
      | some n => if off + n ≤ cs.length then .ret (.agg ((cs.drop off).take n)) else .fail
      | none => match cs[off]? with
        | some v => .ret v
        | none => .fail
    | _ => .fail
  | .indexAddr z x i => match i.sv l with
    | .int _ n => match x.sv l with
      | .lst s xs => if z = s.size then .ask (El s) (getI xs n) fun x => .ret (.fp (u0f s x [])) else .fail
      | .vw v s xs => if z = s.size then .ask (El s) (getI xs n) fun x => .ret (.fp (cellsR v s x [])) else .fail
      | .own j => match h.R[j]? with
        | some (.live _ z' (.typed _ s l)) => if z = z' then .ask (El s) (getI l n) fun _ => .ret (.ep j n 0) else .fail
        | _ => .fail
      | _ => .fail
    | _ => .fail
  | .indexStr x i => match x.sv l, i.sv l with
    | .str s, .int _ n => .ask Int (getB s n) fun c => .ret (.int .u8 c)
    | _, _ => .fail
  | .extract i x => match x.sv l with
    | .tup vs => match vs[i]? with
      | some v => .ret v
      | none => .fail
    | _ => .fail
  | .len st x => match st with
    | true => match x.sv l with
      | .str s => .ret (.int .i64 s.size)
      | _ => .fail
    | false => match x.sv l with
      | .nil => .ret (.int .i64 0)
      | .lst _ xs => .ret (.int .i64 xs.length)
      | .vw _ _ xs => .ret (.int .i64 xs.length)
      | .own j => match h.R[j]? with
        | some (.live _ _ (.typed _ _ l)) => .ret (.int .i64 l.length)
        | some (.live _ _ (.raw rows)) => .ret (.int .i64 rows.length)
        | _ => .fail
      | _ => .fail
  | .maxm mx xs => match xs.map (fun x => Opd.sv l x) with
    | [.int k a, .int k' b] => .ret (.int k (match mx with
      | true => if b > a then b else a
      | false => if b < a then b else a))
    | _ => .fail
  | .makeFunc f xs => .ret (.fn f (xs.map (·.sv l)))
  | .call f args ap => match f.sv l with
    | .fn g cap => match sp g with
      | some (.q fl run) => match ap with
        | [] => if fl || cap.isEmpty then run ((args.map fun x => Opd.sv l x) ++ cap) h else .fail
        | _ => .fail
      | _ => .fail
    | _ => .fail
  | .callq f args => match f.sv l with
    | .fn g cap => match sp g with
      | some (.q fl run) => if fl || cap.isEmpty then run ((args.map fun x => Opd.sv l x) ++ cap) h else .fail
      | _ => .fail
    | _ => .fail
  | _ => .fail

def sApart (x : SV) (z : Nat) (y : SV) (z' : Nat) : Bool :=
  match x, y with
  | .ptr i o, .ptr i' o' => i != i' || decide (o + z ≤ o') || decide (o' + z' ≤ o)
  | .ptr _ _, .fp _ => true
  | .ptr _ _, .ep _ _ _ => true
  | .ep _ _ o, .ep _ _ o' => decide (o + z ≤ o') || decide (o' + z' ≤ o)
  | .ep _ _ _, .fp _ => true
  | .ep _ _ _, .ptr _ _ => true
  | _, _ => false

def lookOk (h : SH) (n : Nat) : SV → Bool
  | .fp cs => decide (0 < n ∧ n ≤ cs.length)
  | .ptr i o => match h.B[i]? with
    | some cs => decide (o + n ≤ cs.length)
    | none => false
  | _ => false
def offArgs (p : SV) (args : List SV) : Bool :=
  match p with
  | .fp _ => true
  | .ptr i _ => args.all fun a => match a with
    | .ptr i' _ => i != i'
    | _ => true
  | _ => false
def sElems (h : SH) (z : Nat) (st : Bool) (v : SV) : Option (Nat × RC) :=
  match st with
  | true => match v with
    | .str b => if z = 1 then some (b.size, .typed false (.int .u8) (b.toList.map fun x => (x.toNat : Int))) else none
    | _ => none
  | false => match v with
    | .nil => some (0, .raw [])
    | .lst s l => if z = s.size then some (l.length, .typed false s l) else none
    | .vw v s l => if z = s.size then some (l.length, .typed v s l) else none
    | .own j => match h.R[j]? with
      | some (.live _ z' (.typed v s l)) => if z = z' then some (l.length, .typed v s l) else none
      | some (.live _ z' (.raw rows)) => if z = z' then some (rows.length, .raw rows) else none
      | _ => none
    | _ => none
def rowsL (t : Lv) (h : SH) (s : Sh) (rows : List (List SV)) : Option (List (El s)) :=
  rows.mapM fun cs => match decE t h s cs with | some (x, []) => some x | _ => none
def hangs : List SV → Bool
  | [] => false
  | .own _ :: _ => true
  | .vw _ _ _ :: _ => true
  | _ :: r => hangs r
def lvOf (v : Bool) : Lv := match v with
  | true => .deep
  | false => .no
def u0m : List SV → List Nat
  | [] => []
  | .own j :: r => j :: u0m r
  | _ :: r => u0m r
def freeze : List Nat → List RB → List RB
  | [], R => R
  | j :: r, R => match R[j]? with
    | some (.live _ z c) => freeze r (R.set j (.live true z c))
    | _ => freeze r R
def sJoin (h : SH) (a b : RC) : Option (RC × List Nat) :=
  match a, b with
  | .typed v s l, .typed v' s' m => if v = v' then (castL m).map fun m => (.typed v s (l ++ m), []) else none
  | .typed v s l, .raw rows => (rowsL (lvOf v) h s rows).map fun m => (.typed v s (l ++ m), (rows.map u0m).flatten)
  | .raw [], .typed v s l => some (.typed v s l, [])
  | .raw rows, .raw rows' => some (.raw (rows ++ rows'), [])
  | .raw rows, .typed v s l => (rowsL (lvOf v) h s rows).map fun m => (.typed v s (m ++ l), (rows.map u0m).flatten)
def K.put : (k : K) → k.Ty → SV
  | .val s, x => valE s x
  | .view v s, x => valV v s x
  | .at_ s, x => .fp (u0f s x [])
  | .clo f s, x => .fn f [.fp (u0f s x [])]
  | .own _ _ _, _ => .undef
def resL : (ks : List K) → KTy ks → List SV
  | [], _ => []
  | [k], x => [k.put x]
  | k :: k' :: ks, x => k.put x.1 :: resL (k' :: ks) x.2
def resV (ks : List K) (x : KTy ks) : SV :=
  match resL ks x with
  | [v] => v
  | vs => .tup vs
def RC.len : RC → Nat
  | .typed _ _ l => l.length
  | .raw rows => rows.length

def SH.push (h : SH) (b : RB) : Nat × SH := (h.R.length, { h with R := h.R ++ [b] })
def SH.setR (h : SH) (j : Nat) (b : RB) : SH := { h with R := h.R.set j b }

def storeC (v : Bool) (h : SH) (o : Nat) (cs : List SV) : (s : Sh) → El s → T (El s)
  | .mark s, x => match v with
    | true => .br x.1 .fail (match decE .deep h s (sover (u0f s x.2 []) o cs) with
      | some (y, []) => .ret (true, y)
      | _ => .fail)
    | false => .fail
  | s, x => match decE (lvOf v) h s (sover (cellsR v s x []) o cs) with
    | some (y, []) => .ret y
    | _ => .fail
def stepS (sp : Specs) (l : List SV) (h : SH) (ap : List (Nat × SV)) (o : DOp) : T (SV × SH) :=
  match o with
  | .alloc esc z cs => match esc with
    | true => if cs.length = z then .ret (.ep h.R.length 0 0, { h with R := h.R ++ [.live false z (.raw [(ofDV (.agg cs)).cells])] }) else .fail
    | false => .ret (.ptr h.B.length 0, { h with B := h.B ++ [(ofDV (.agg cs)).cells] })
  | .box esc z x => if (x.sv l).cells.length = z ∧ (x.sv l).cells.all SV.isCell then match esc with
      | true => .ret (.ep h.R.length 0 0, { h with R := h.R ++ [.live false z (.raw [(x.sv l).cells])] })
      | false => .ret (.ptr h.B.length 0, { h with B := h.B ++ [(x.sv l).cells] })
    else .fail
  | .buildSlice z len zero ps => if zero.all DV.isCell = true ∧ zero.length = z ∧ (ps.all fun p => (p.2.sv l).cells.length == z && (p.2.sv l).cells.all SV.isCell) = true then
      match sfill ((List.replicate len (ofDV (.agg zero)).cells).flatten) (ps.map fun p => (p.1 * z, (p.2.sv l).cells)) with
      | some cs => .ret (.own h.R.length, { h with R := h.R ++ [.live false z (.raw (u6x z len cs))] })
      | none => .fail
    else .fail
  | .store z x y _ => if (y.sv l).cells.length = z ∧ (y.sv l).cells.all SV.isCell ∧ ap.all (fun p => sApart (x.sv l) z p.2 p.1) then match x.sv l with
      | .ptr i o => match h.B[i]? with
        | some cs => if o + z ≤ cs.length then .ret (.undef, { h with B := h.B.set i (sover cs o (y.sv l).cells) }) else .fail
        | none => .fail
      | .ep j n o => match h.R[j]? with
        | some (.live false z' (.typed v s xs)) => .ask (El s) (getI xs n) fun x => if o + z ≤ s.size ∧ (u0m (y.sv l).cells).all (fun i => i != j) then (storeC v h o (y.sv l).cells s x).bind fun x' => .ret (.undef, { h with R := (freeze (u0m (y.sv l).cells) h.R).set j (.live false z' (.typed v s (xs.set n.toNat x'))) })
          else .fail
        | some (.live false z' (.raw [r])) => if n = 0 ∧ o + z ≤ r.length then .ret (.undef, h.setR j (.live false z' (.raw [sover r o (y.sv l).cells]))) else .fail
        | _ => .fail
      | _ => .fail
    else .fail
  | .toBytes x => match x.sv l with
    | .str b => .ret (.own h.R.length, { h with R := h.R ++ [.live false 1 (.typed false (.int .u8) (b.toList.map fun x => (x.toNat : Int)))] })
    | _ => .fail
  | .makeSlice z bytes zero a c => match a.sv l, c.sv l with
    | .int _ n, .int _ m => .br (decide (0 ≤ n) && decide (n ≤ m) && room m.toNat bytes) (match zero with
      | [.int k 0] => if 1 = z then .ret (.own h.R.length, { h with R := h.R ++ [.live false z (.typed false (.int k) (List.replicate n.toNat (0 : Int)))] }) else .fail
      | [.bool false] => if 1 = z then .ret (.own h.R.length, { h with R := h.R ++ [.live false z (.typed false .bool (List.replicate n.toNat false))] }) else .fail
      | _ => .fail) .fail
    | _, _ => .fail
  | .slice zz x lo hi => match x.sv l with
    | .own j => match h.R[j]?, u3N (lo.map (·.sv l)) 0 with
      | some (.live _ z (.typed v s xs)), some a => match u3N (hi.map (·.sv l)) xs.length with
        | some b => if zz = s.size then match lo, hi with
          | none, none => .ret (.own j, h)
          | _, _ => .br (cutOk lo hi a b xs.length) (.ret (.vw v s (cutL lo hi a b xs), h.setR j (.live true z (.typed v s xs)))) .fail
          else .fail
        | none => .fail
      | some (.live fz z (.raw rows)), some a => match lo, hi with
          | none, none => if zz = z ∧ zz ≠ 0 then .ret (.own j, h) else .fail
          | _, _ => .fail
      | _, _ => .fail
    | _ => (stepQ sp l h o).bind fun v => .ret (v, h)
  | .append z bytes st x y => if 1000000 ≤ z then .fail else match sElems h z st (y.sv l) with
    | some (n, ys) => match x.sv l with
      | .nil => match ys with
        | .raw [] => .ret (.nil, h)
        | _ => .br (room n bytes) (.ret (.own h.R.length, { h with R := h.R ++ [.live false z ys] })) .fail
      | .own j => match h.R[j]? with
        | some (.live false z' c) => if z = z' then match sJoin h c ys with
          | some (c', js) => if js.all (fun i => i != j) then .br (room c'.len bytes) (.ret (.own h.R.length, { h with R := (freeze js h.R).set j .dead ++ [.live false z c'] })) .fail else .fail
          | none => .fail
          else .fail
        | _ => .fail
      | _ => .fail
    | none => .fail
  | .call f args _ => match f.sv l with
    | .fn g cap => match sp g with
      | some (.q fl run) => if (fl || cap.isEmpty) = true ∧ ap.all (fun p => lookOk h p.1 p.2) = true then (run ((args.map fun x => Opd.sv l x) ++ cap) h).bind fun v => .ret (v, h) else .fail
      | some (.k run) => if cap.isEmpty = true ∧ ap.all (fun p => lookOk h p.1 p.2 && offArgs p.2 ((args.map fun x => Opd.sv l x) ++ cap)) = true then run ((args.map fun x => Opd.sv l x) ++ cap) h else .fail
      | _ => .fail
    | _ => .fail
  | o => (stepQ sp l h o).bind fun v => .ret (v, h)

def putS (l : List SV) (d : Option Nat) (v : SV) : List SV :=
  match d with
  | some d => l.set d v
  | none => l

def guarded {α : Type} (l : List SV) (g : Option (Nat × Bool)) (on off : List SV → T α) : T α :=
  match g with
  | none => on l
  | some (t, b) => match gs l t with
    | .tt => match b with
      | true => on l
      | false => off l
    | .ff => match b with
      | true => off l
      | false => on l
    | .bool x => match b with
      | true => .br x (on (l.set t .tt)) (off (l.set t .ff))
      | false => .br x (off (l.set t .tt)) (on (l.set t .ff))
    | .tup _ => off l
    | _ => .fail

def DOp.bare : DOp → Bool
  | .store _ _ _ ap => ap.isEmpty
  | .call _ _ ap => ap.isEmpty
  | _ => true
def opsS (sp : Specs) : List DOper → List SV → SH → T (List SV × SH)
  | [], l, h => .ret (l, h)
  | o :: r, l, h => guarded l o.guard
    (fun l => match o.op.bare with
      | true => (stepS sp l h [] o.op).bind fun p => opsS sp r (putS l o.dst p.1) p.2
      | false => .fail)
    (fun l => opsS sp r (putS l o.dst (.tup [])) h)
def opsQ (sp : Specs) : List DOper → List SV → SH → T (List SV)
  | [], l, h => .ret l
  | o :: r, l, h => guarded l o.guard
    (fun l => (stepQ sp l h o.op).bind fun v => opsQ sp r (putS l o.dst v) h)
    (fun l => opsQ sp r (putS l o.dst (.tup [])) h)

abbrev SLog := List (Nat × Nat × SV)
def spick (g : SLog) (ck : List Nat) : List (Nat × SV) := g.filterMap fun e => if ck.contains e.1 then some e.2 else none
def slogOf (i : Nat) (op : DOp) (l : List SV) (g : SLog) : SLog :=
  match u3t op with
  | some (n, x) => (i, n, x.sv l) :: g
  | none => g
def drawsS (sp : Specs) : List DRow → List SV → SH → SLog → T (List SV × SH)
  | [], l, h, _ => .ret (l, h)
  | o :: r, l, h, g => guarded l o.o.guard
    (fun l => (stepS sp l h (spick g o.ck) o.o.op).bind fun p => drawsS sp r (putS l o.o.dst p.1) p.2 (slogOf o.i o.o.op l g))
    (fun l => drawsS sp r (putS l o.o.dst (.tup [])) h g)
def plainOp : DOp → Bool
  | .call _ _ _ => false
  | _ => true
def drawsQ (sp : Specs) : List DRow → List SV → SH → T (List SV)
  | [], l, h => .ret l
  | o :: r, l, h => guarded l o.o.guard
    (fun l => match o.ck.isEmpty || plainOp o.o.op with
      | true => (stepQ sp l h o.o.op).bind fun v => drawsQ sp r (putS l o.o.dst v) h
      | false => .fail)
    (fun l => drawsQ sp r (putS l o.o.dst (.tup [])) h)

def KTy.hd : (k : K) → (ks : List K) → KTy (k :: ks) → k.Ty
  | _, [], x => x
  | _, _ :: _, x => x.1
def KTy.tl : (k : K) → (ks : List K) → KTy (k :: ks) → KTy ks
  | _, [], _ => ()
  | _, _ :: _, x => x.2
def KTy.mk : (k : K) → (ks : List K) → k.Ty → KTy ks → KTy (k :: ks)
  | _, [], x, _ => x
  | _, _ :: _, x, r => (x, r)
inductive G where
  | kd (a : K) | fix (v : SV)
def G.size : G → Nat
  | .kd a => a.size
  | .fix _ => 1
def kinds : List G → List K
  | [] => []
  | .kd a :: gs => a :: kinds gs
  | .fix _ :: gs => kinds gs
inductive SG where
  | one (g : G) | agg (gs : List G)
def SG.gs : SG → List G
  | .one g => [g]
  | .agg gs => gs
def u14 : List (Nat × SG) → List G
  | [] => []
  | (_, .one g) :: r => g :: u14 r
  | (_, .agg gs) :: r => gs ++ u14 r
structure Tm where
  slots : List (Nat × SG)
  boxes : List (List G)
def Tm.gs (t : Tm) : List G := u14 t.slots ++ t.boxes.flatten
@[reducible] def St (t : Tm) : Type := KTy (kinds t.gs)

def encG : (gs : List G) → KTy (kinds gs) → List RB → List SV × List RB
  | [], _, R => ([], R)
  | .fix v :: gs, x, R => match encG gs x R with
    | (vs, R) => (v :: vs, R)
  | .kd (.val s) :: gs, x, R => match encG gs (KTy.tl _ _ x) R with
    | (vs, R) => (valE s (KTy.hd (.val s) (kinds gs) x) :: vs, R)
  | .kd (.view v s) :: gs, x, R => match encG gs (KTy.tl _ _ x) R with
    | (vs, R) => (valV v s (KTy.hd (.view v s) (kinds gs) x) :: vs, R)
  | .kd (.at_ s) :: gs, x, R => match encG gs (KTy.tl _ _ x) R with
    | (vs, R) => (.fp (u0f s (KTy.hd (.at_ s) (kinds gs) x) []) :: vs, R)
  | .kd (.clo f s) :: gs, x, R => match encG gs (KTy.tl _ _ x) R with
    | (vs, R) => (.fn f [.fp (u0f s (KTy.hd (.clo f s) (kinds gs) x) [])] :: vs, R)
  | .kd (.own v z s) :: gs, x, R => match encG gs (KTy.tl _ _ x) (R ++ [.live false z (.typed v s (KTy.hd (.own v z s) (kinds gs) x))]) with
    | (vs, R') => (.own R.length :: vs, R')
def u1l : List (Nat × SG) → List SV → List SV × List SV
  | [], vs => ([], vs)
  | (_, .one _) :: r, v :: vs => match u1l r vs with
    | (a, b) => (v :: a, b)
  | (_, .one _) :: r, [] => ([], [])
  | (_, .agg gs) :: r, vs => match u1l r (vs.drop gs.length) with
    | (a, b) => (.agg ((vs.take gs.length).map SV.cells).flatten :: a, b)
def layS : List (Nat × SG) → List SV → List SV → List SV
  | (n, _) :: r, v :: vs, l => layS r vs (l.set n v)
  | _, _, l => l
def layB : List (List G) → List SV → List (List SV)
  | [], _ => []
  | g :: r, vs => ((vs.take g.length).map SV.cells).flatten :: layB r (vs.drop g.length)
def enc (n : Nat) (t : Tm) (x : St t) : List SV × SH :=
  match encG t.gs x [] with
  | (vs, R) => match u1l t.slots vs with
    | (a, b) => (layS t.slots a (List.replicate n .undef), ⟨layB t.boxes b, R⟩)

def u1B : SV → SV → Bool
  | .ptr i o, .ptr i' o' => i == i' && o == o'
  | .fn f [], .fn g [] => f == g
  | .nilp, .nilp => true
  | .nil, .nil => true
  | .tt, .tt => true
  | .ff, .ff => true
  | .undef, _ => true
  | _, _ => false
def mkM {α : Type} (l : List α) : List (Bool × α) := l.map fun x => (false, x)
def unM {α : Type} (l : List (Bool × α)) : List α := l.map fun x => x.2
def allM {α : Type} (l : List (Bool × α)) : Bool := l.all fun x => x.1
def markL {s' : Sh} (l : List (El s')) : (s : Sh) → Option (List (El s))
  | .mark s => (castL (s := s) l).map mkM
  | _ => none
def decOwn (h : SH) (v : Bool) (z : Nat) (s : Sh) (used : List Nat) : List SV → Option (List (El s) × List Nat × List Nat)
  | [.nil] => some ([], [], [])
  | [.own j] => if used.contains j then none else match h.R[j]? with
    | some (.live false z' (.typed v' s' l)) => if z' = z ∧ (v = v' ∨ s'.bare = true) then (castL l).map fun l => (l, [j], []) else if z' = z ∧ v = true ∧ v' = false then (markL l s).map fun l => (l, [j], []) else none
    | some (.live false z' (.raw rows)) => if z' = z then (rowsL (lvOf v) h s rows).map fun l => (l, [j], (rows.map u0m).flatten) else none
    | _ => none
  | _ => none
def decAt (t : Lv) (h : SH) (s : Sh) : List SV → Option (El s)
  | [.fp cs] => match decE .no h s cs with
      | some (x, []) => some x
      | _ => none
  | [.ptr i o] => if t = .all then match h.B[i]? with
      | some cs => match decE .all h s (cs.drop o) with
        | some (x, []) => some x
        | _ => none
      | none => none
    else none
  | _ => none
def decClo (t : Lv) (h : SH) (f : FuncId) (s : Sh) : List SV → Option (El s)
  | [.fn g [v]] => if g = f then decAt t h s [v] else none
  | _ => none
def Sh.isAgg : Sh → Bool
  | .pair _ _ | .tree _ | .uno _ | .mark _ => true
  | _ => false
def K.isAgg : K → Bool
  | .val s => s.isAgg
  | .view _ s => s.isAgg
  | _ => false
def SV.isAgg : SV → Bool
  | .agg _ => true
  | _ => false
def SV.isDef : SV → Bool
  | .undef => false
  | _ => true
def G.fits : G → SV → Bool
  | .kd k, v => k.isAgg == v.isAgg && v.isDef
  | .fix _, _ => true
def decG (st : Lv) (h : SH) : (gs : List G) → List (List SV) → List Nat → List Nat → Option (KTy (kinds gs))
  | [], [], used, seen => if used.all fun j => !seen.contains j then some () else none
  | .fix v :: gs, [v'] :: cs, used, seen => if u1B v v' then decG st h gs cs used seen else none
  | .kd (.val s) :: gs, c :: cs, used, seen => match decE st h s c with
    | some (x, []) => match decG st h gs cs used seen with
      | some r => some (KTy.mk (.val s) (kinds gs) x r)
      | none => none
    | _ => none
  | .kd (.view v s) :: gs, c :: cs, used, seen => match decE (Lv.of v) h s c with
    | some (x, []) => match decG st h gs cs used (u0m c ++ seen) with
      | some r => some (KTy.mk (.view v s) (kinds gs) x r)
      | none => none
    | _ => none
  | .kd (.at_ s) :: gs, c :: cs, used, seen => match decAt st h s c with
    | some x => match decG st h gs cs used seen with
      | some r => some (KTy.mk (.at_ s) (kinds gs) x r)
      | none => none
    | _ => none
  | .kd (.clo f s) :: gs, c :: cs, used, seen => match decClo st h f s c with
    | some x => match decG st h gs cs used seen with
      | some r => some (KTy.mk (.clo f s) (kinds gs) x r)
      | none => none
    | _ => none
  | .kd (.own v z s) :: gs, c :: cs, used, seen => if s.size ≠ z then none else match decOwn h v z s used c with
    | some (x, u, w) => match decG st h gs cs (u ++ used) (w ++ seen) with
      | some r => some (KTy.mk (.own v z s) (kinds gs) x r)
      | none => none
    | none => none
  | _, _, _, _ => none
def cutB : List G → List SV → List (List SV)
  | [], _ => []
  | g :: gs, cs => cs.take g.size :: cutB gs (cs.drop g.size)
def gsize : List G → Nat
  | [] => 0
  | g :: gs => g.size + gsize gs
def u1D : List (List G) → List (List SV) → Option (List (List SV))
  | [], _ => some []
  | g :: r, b :: bs => if b.length = gsize g then (u1D r bs).map fun l => cutB g b ++ l else none
  | _, _ => none
def u1S (l : List SV) : List (Nat × SG) → Option (List (List SV))
  | [] => some []
  | (n, .one (.kd k)) :: r => if G.fits (.kd k) (gs l n) then match u1S l r with
      | some cs => some ((gs l n).cells :: cs)
      | none => none
    else none
  | (n, .one (.fix _)) :: r => match u1S l r with
    | some cs => some ([gs l n] :: cs)
    | none => none
  | (n, .agg g) :: r => if (gs l n).isAgg ∧ (gs l n).cells.length = gsize g then match u1S l r with
      | some cs => some (cutB g (gs l n).cells ++ cs)
      | none => none
    else none
def fixLt (n : Nat) : List G → Bool
  | [] => true
  | .fix (.ptr i _) :: gs => decide (i < n) && fixLt n gs
  | _ :: gs => fixLt n gs
def decT (t : Tm) (l : List SV) (h : SH) (st : Lv := .no) : Option (St t) :=
  match u1S l t.slots, u1D t.boxes h.B with
  | some cs, some bs => if fixLt t.boxes.length t.gs then decG st h t.gs (cs ++ bs) [] [] else none
  | _, _ => none

def Sh.flat : Sh → Bool
  | .int _ | .bool | .str => true
  | .pair a b => a.flat && b.flat
  | _ => false
def u2b : List K → Bool
  | [] => true
  | .val s :: r => s.flat && u2b r
  | _ :: _ => false
def u2A : List G → List SV → Bool
  | [], [] => true
  | .kd k :: gs, v :: vs => G.fits (.kd k) v && u2A gs vs
  | .fix (.fn _ []) :: gs, v :: vs => !v.isAgg && u2A gs vs
  | _, _ => false
def specO (ti : List G) (to : List K) (F : KTy (kinds ti) → Option (KTy to)) : Spec := .q (u2b to) fun args h => if u2A ti args = false then .fail else
  match decG (match u2b to with | true => .all | false => .no) h ti (args.map SV.cells) [] [] with
  | some x => .ask _ (F x) fun y => .ret (resV to y)
  | none => .fail
def specT (ti : List G) (to : List K) (F : KTy (kinds ti) → KTy to) : Spec := .q (u2b to) fun args h => if u2A ti args = false then .fail else
  match decG (match u2b to with | true => .all | false => .no) h ti (args.map SV.cells) [] [] with
  | some x => .ret (resV to (F x))
  | none => .fail
def u0O : List (Nat × SG) → List SV → Option (List (List SV) × List (Nat × Nat))
  | [], [] => some ([], [])
  | (_, .one (.fix (.ptr b 0))) :: r, .ptr i 0 :: vs => match u0O r vs with
    | some (cs, ps) => some ([.ptr b 0] :: cs, (b, i) :: ps)
    | none => none
  | (_, .one (.kd k)) :: r, v :: vs => if G.fits (.kd k) v then match u0O r vs with
      | some (cs, ps) => some (v.cells :: cs, ps)
      | none => none
    else none
  | (_, .one (.fix (.fn f []))) :: r, v :: vs => match u0O r vs with
    | some (cs, ps) => some ([v] :: cs, ps)
    | none => none
  | (_, .agg g) :: r, v :: vs => if v.isAgg ∧ v.cells.length = gsize g then match u0O r vs with
      | some (cs, ps) => some (cutB g v.cells ++ cs, ps)
      | none => none
    else none
  | _, _ => none
def boxAt (h : SH) (ps : List (Nat × Nat)) : Nat → List (List G) → Option (List (List SV) × List Nat)
  | _, [] => some ([], [])
  | b, g :: r => match ps.lookup b with
    | some i => match h.B[i]?, boxAt h ps (b + 1) r with
      | some cs, some (bs, is) => some (cs :: bs, i :: is)
      | _, _ => none
    | none => none
def distinct : List Nat → Bool
  | [] => true
  | i :: r => !r.contains i && distinct r
def u2U : List G → List (List SV) → List Nat
  | .kd (.own _ _ _) :: gs, [.own j] :: cs => j :: u2U gs cs
  | _ :: gs, _ :: cs => u2U gs cs
  | _, _ => []
def kill : List Nat → List RB → List RB
  | [], R => R
  | j :: r, R => kill r (R.set j .dead)
def setB : List Nat → List (List SV) → List (List SV) → List (List SV)
  | i :: is, cs :: bs, B => setB is bs (B.set i cs)
  | _, _, B => B
def u6D (h : SH) : List SV → List Nat
  | [.own j] => match h.R[j]? with
    | some (.live false _ (.raw rows)) => (rows.map u0m).flatten
    | _ => []
  | _ => []
def u24 (h : SH) : List G → List (List SV) → List Nat
  | .kd (.view _ _) :: gs, c :: cs => u0m c ++ u24 h gs cs
  | .kd (.own _ _ _) :: gs, c :: cs => u6D h c ++ u24 h gs cs
  | _ :: gs, _ :: cs => u24 h gs cs
  | _, _ => []

def SV.own1 : SV → Bool
  | .tt | .ff | .bool _ | .int _ _ | .str _ | .nilp | .nil | .lst _ _ => true
  | _ => false
def noView : List G → Bool
  | [] => true
  | .kd (.val _) :: gs => noView gs
  | .kd (.own false _ _) :: gs => noView gs
  | .fix v :: gs => v.own1 && noView gs
  | _ => false

def u3u : List G → Bool
  | [] => true
  | .kd (.val _) :: gs => u3u gs
  | .kd (.own _ _ _) :: gs => u3u gs
  | .kd (.view _ _) :: gs => u3u gs
  | .fix v :: gs => v.own1 && u3u gs
  | _ => false
def specK (ti to : Tm) (F : St ti → Option (St to)) : Spec := .k fun args h =>
  match u0O ti.slots args with
  | some (cs, ps) => match boxAt h ps 0 ti.boxes with
    | some (bs, is) => if distinct is then match u1D ti.boxes bs with
      | some bcs => match decG .no h ti.gs (cs ++ bcs) [] [] with
        | some x => if (noView to.gs || (u24 h ti.gs (cs ++ bcs)).isEmpty) = true then .ask _ (F x) fun y => match encG to.gs y (kill (u2U ti.gs (cs ++ bcs)) h.R) with
          | (vs, R) => match u1l to.slots vs with
            | (a, b) => .ret (match a with
              | [v] => v
              | vs => .tup vs, ⟨setB is (layB to.boxes b) h.B, R⟩)
          else .fail
        | none => .fail
      | none => .fail
      else .fail
    | none => .fail
  | none => .fail

def specI (z : Nat) (s : Sh) (fx : List SV) (F : List (El s) → Option (List (El s))) : Spec := .k fun args h =>
  match args with
  | .own j :: r => if r.length = fx.length ∧ ((fx.zip r).all fun p => u1B p.1 p.2) then match h.R[j]? with
    | some (.live false z' (.typed v s' l)) => if z' = z then match castL (s := s) l with
        | some l => .ask _ (F l) fun l' => .ret (.tup [], h.setR j (.live false z (.typed v s l')))
        | none => .fail
      else .fail
    | _ => .fail
    else .fail
  | .nil :: r => if r.length = fx.length ∧ ((fx.zip r).all fun p => u1B p.1 p.2) then .ret (.tup [], h) else .fail
  | _ => .fail
def cmpStr (a b : ByteArray) : Int := Go.Lib.compareBytes a.data.toList b.data.toList
def cmpStrS : Spec := .k fun args h => match args with
  | [.str a, .str b] => .ret (.int .i64 (cmpStr a b), h)
  | _ => .fail
def cloneS (z bytes : Nat) : Spec := .k fun args h => match args with
  | [v] => match sElems h z false v with
    | some (n, c) => .br (room n bytes) (.ret (.own (h.R.length + 1), { h with R := h.R ++ [.dead, .live false z c] })) .fail
    | none => .fail
  | _ => .fail
def deleteS (z bytes : Nat) : Spec := .k fun args h => match args with
  | [.own j, .int .i64 a, .int .i64 b] => match h.R[j]? with
    | some (.live false z' (.typed v s l)) => if z' = z then .br (decide (0 ≤ a) && decide (a ≤ b) && decide (b ≤ l.length) && room l.length bytes) (.ret (.own h.R.length, { h with R := h.R.set j .dead ++ [.live false z (.typed v s (l.take a.toNat ++ l.drop b.toNat))] })) .fail else .fail
    | _ => .fail
  | _ => .fail
def insertS (z bytes : Nat) : Spec := .k fun args h => match args with
  | [.own j, .int .i64 i, .own j2] => match h.R[j2]? with
    | some (.live false z2 (.raw [r])) => match h.R[j]? with
      | some (.live false z1 (.typed v s l)) => if z1 = z ∧ z2 = z ∧ j ≠ j2 then match rowsL (lvOf v) h s [r] with
          | some [x] => if (u0m r).all (fun q => q != j) then .br (decide (0 ≤ i) && decide (i ≤ l.length) && room (l.length + 1) bytes) (.ret (.own h.R.length, { h with R := (freeze (u0m r) h.R).set j .dead ++ [.live false z (.typed v s (l.take i.toNat ++ x :: l.drop i.toNat))] })) .fail else .fail
          | _ => .fail
        else .fail
      | _ => .fail
    | _ => .fail
  | _ => .fail
def spOf (l : List (Nat × Spec)) : Specs := fun f => l.lookup f

def Ex.same : Ex → Ex → Bool
  | .normal, .normal => true
  | .exit a, .exit b => a == b
  | .goto a, .goto b => a == b
  | .ret, .ret => true
  | _, _ => false
abbrev Ways := List (Ex × Tm)
@[reducible] def WTy : Ways → Type
  | [] => Empty
  | [w] => St w.2
  | w :: ws => St w.2 ⊕ WTy ws
def WTy.inl : (w : Ex × Tm) → (ws : Ways) → St w.2 → WTy (w :: ws)
  | _, [], x => x
  | _, _ :: _, x => Sum.inl x
def WTy.inr : (w : Ex × Tm) → (ws : Ways) → WTy ws → WTy (w :: ws)
  | _, [], x => nomatch x
  | _, _ :: _, x => Sum.inr x
def outW : (ws : Ways) → Ex → List SV → SH → Option (WTy ws)
  | [], _, _, _ => none
  | w :: ws, e, l, h => if Ex.same w.1 e then (decT w.2 l h).map (WTy.inl w ws) else (outW ws e l h).map (WTy.inr w ws)
def inW {ρ : Type} (n : Nat) (k : Ex → List SV → SH → T ρ) : (ws : Ways) → WTy ws → T ρ
  | [], x => nomatch x
  | [w], x => k w.1 (enc n w.2 x).1 (enc n w.2 x).2
  | w :: w' :: ws, x => .cs _ _ x (fun x => k w.1 (enc n w.2 x).1 (enc n w.2 x).2) (fun x => inW n k (w' :: ws) x)

def iterN {σ ρ : Type} (f : σ → Option (σ ⊕ ρ)) : Nat → σ → Option ρ
  | 0, _ => none
  | n + 1, s => match f s with
    | some (.inl s') => iterN f n s'
    | some (.inr r) => some r
    | none => none
open Classical in
noncomputable def iter {σ ρ : Type} (f : σ → Option (σ ⊕ ρ)) (s : σ) : Option ρ := if e : ∃ n r, iterN f n s = some r then some e.choose_spec.choose else none

inductive Ann where
  | loop (t : Tm) (ws : Ways)
  | cut (ws : Ways)
  | join (gs : List (Nat × Sh))
  | lab (m : Nat) (t : Tm) (ws : Ways)
  | thaw
abbrev Anns := Nat → Option Ann
def anOf (l : List (Nat × Ann)) : Anns := fun p => l.lookup p

def u58 : List (Nat × Sh) → List K
  | [] => []
  | (_, s) :: r => .val s :: u58 r
def joinDec (h : SH) : (gs : List (Nat × Sh)) → List SV → Option (KTy (u58 gs))
  | [], _ => some ()
  | (n, s) :: r, l => if s.isAgg = (Go.Dv.gs l n).isAgg then match decE .no h s (Go.Dv.gs l n).cells with
    | some (x, []) => match joinDec h r l with
      | some y => some (KTy.mk (.val s) (u58 r) x y)
      | none => none
    | _ => none
    else none
def u5G : (gs : List (Nat × Sh)) → KTy (u58 gs) → List SV → List SV
  | [], _, l => l
  | (n, s) :: r, x, l => u5G r (KTy.tl (.val s) (u58 r) x) (l.set n (valE s (KTy.hd (.val s) (u58 r) x)))
def joinDflt : (gs : List (Nat × Sh)) → KTy (u58 gs)
  | [] => ()
  | (_, s) :: r => KTy.mk (.val s) (u58 r) (El.dflt s) (joinDflt r)
def dsts : List DOper → List Nat
  | [] => []
  | o :: r => match o.dst with
    | some d => d :: dsts r
    | none => dsts r
def ddsts : List DRow → List Nat
  | [] => []
  | o :: r => match o.o.dst with
    | some d => d :: ddsts r
    | none => ddsts r
def wipe : List Nat → List SV → List SV
  | [], l => l
  | d :: r, l => wipe r (l.set d .undef)
def joined {ρ : Type} (gs : List (Nat × Sh)) (ds : List Nat) (t : T (List SV)) (l : List SV) (h : SH) (k : List SV → SH → T ρ) : T ρ :=
  match (t.bind fun l' => T.ofO (joinDec h gs l')) with
  | t' => match t'.sure with
    | true => k (u5G gs (t'.pick (joinDflt gs)) (wipe ds l)) h
    | false => .ask _ t'.sem fun x => k (u5G gs x (wipe ds l)) h

def before (m : Nat) : DC → DC
  | .seq a b => match a.after m with
    | some _ => before m a
    | none => .seq a (before m b)
  | _ => .skip

def thawR : List RB → T (List RB)
  | [] => .ret []
  | .live false z (.typed true (.mark s) l) :: r => .br (allM l) ((thawR r).bind fun r => .ret (.live false z (.typed true s (unM l)) :: r)) .fail
  | b :: r => (thawR r).bind fun r => .ret (b :: r)
def SH.trim (h : SH) (n : Nat) : SH := { h with B := h.B.take n }

def SV.wipe : Nat → SV → SV
  | 0, _ => .undef
  | n + 1, v => match v with
    | .agg cs => .agg (cs.map (SV.wipe n))
    | .tup cs => .tup (cs.map (SV.wipe n))
    | .fn f cap => .fn f (cap.map (SV.wipe n))
    | .vw _ _ _ | .own _ | .ep _ _ _ | .fp _ => .undef
    | v => v
def SH.wipe (h : SH) : SH := ⟨h.B.map fun cs => cs.map (SV.wipe 4), h.R.map fun _ => .dead⟩
def small : (s : Sh) → El s → Bool
  | .list s, l => decide (l.length ≤ 1000000) && l.all (small s)
  | .pair a b, x => small a x.1 && small b x.2
  | .uno a, x => small a x
  | .mark _, _ => false
  | .tree _, _ => false
  | _, _ => true
structure Scr where
  os : List DOper
  dst : Option Nat
  g : FuncId
  x : Opd
  s : Sh
def scrOf (sp : Specs) : List DOper → Option Scr
  | [] => none
  | o :: r => match r with
    | [] => match o.op with
      | .call (.val (.fn g [])) [x] [] => match o.guard with
        | none => match sp g with
          | some (.w s) => some ⟨[], o.dst, g, x, s⟩
          | _ => none
        | some _ => none
      | _ => none
    | _ :: _ => (scrOf sp r).map fun w => { w with os := o :: w.os }
def decW (s : Sh) (h : SH) (v : SV) : Option (El s) := if s.isAgg = v.isAgg ∧ v.isDef = true then match decE .deep h s v.cells with
    | some (y, []) => some y
    | _ => none
  else none

noncomputable def sym (sp : Specs) (n : Nat) : Nat → {ρ : Type} → Anns → Nat → Option DC → DC → List SV → SH → (Ex → List SV → SH → T ρ) → T ρ
  | 0, _, _, _, _, _, _, _, _ => .fail
  | f + 1, ρ, an, p, ag, c, l, h, k => match ag with
    | some d => sym sp n f an (2 * p + 1) none c l h fun e l' h' => match e with
      | .goto m => match d.after m with
        | some r => sym sp n f an (p + 1000003) (some d) r l' h' k
        | none => k (.goto m) l' h'
      | e => k e l' h'
    | none => match an p with
      | some (.cut ws) => .ask _ (sym sp n f (fun q => if q = p then none else an q) p none c l h fun e l h => T.ofO (outW ws e l h)).sem (inW n k ws)
      | some .thaw => (thawR h.R).bind fun R => sym sp n f (fun q => if q = p then none else an q) p none c l { h with R := R } k
      | some (.loop t ws) => match c with
        | .loop a => (T.ofO (decT t l h)).bind fun s => .ask _ (iter (fun s : St t => (sym sp n f an (2 * p + 1) none a (enc n t s).1 (enc n t s).2 fun e l h => match e with
          | .normal => T.ofO ((decT t l h).map Sum.inl)
          | e => T.ofO ((outW ws e l h).map Sum.inr)).sem) s) (inW n k ws)
        | _ => .fail
      | some (.lab m t ws) => match c with
        | .scope d _ => match d.after m with
          | some a => sym sp n f an (2 * p + 1) none (before m d) l h fun e l' h' => match e with
            | .normal => (T.ofO (decT t l' h')).bind fun s => .ask _ (iter (fun s : St t => (sym sp n f an (2 * p + 2) none a (enc n t s).1 (enc n t s).2 fun e l h => match e with
              | .goto m' => if m' = m then T.ofO ((decT t l h).map Sum.inl) else T.ofO ((outW ws (.goto m') l h).map Sum.inr)
              | e => T.ofO ((outW ws e l h).map Sum.inr)).sem) s) (inW n (fun e l' h' => match e with
                | .goto m' => match d.after m' with
                  | some r => sym sp n f an (p + 1000003) (some d) r l' h' k
                  | none => k (.goto m') l' h'
                | e => k e l' h') ws)
            | .goto m' => match d.after m' with
              | some r => sym sp n f an (p + 1000003) (some d) r l' h' k
              | none => k (.goto m') l' h'
            | e => k e l' h'
          | none => .fail
        | _ => .fail
      | some (.join gs) => match c with
        | .ops os => joined gs (dsts os) (opsQ sp os l h) l h (k .normal)
        | .draw os => joined gs (ddsts os) (drawsQ sp os l h) l h (k .normal)
        | _ => .fail
      | none => match c with
        | .skip => k .normal l h
        | .label _ => k .normal l h
        | .goto m => k (.goto m) l h
        | .exit id => k (.exit id) l h
        | .ret => k .ret l h
        | .ops os => match scrOf sp os with
          | some w => (opsS sp w.os l h).bind fun p => (T.ofO (decW w.s p.2 (w.x.sv p.1))).bind fun y => .br (small w.s y) (k .normal (putS (p.1.map (SV.wipe 4)) w.dst (.tup [])) p.2.wipe) .fail
          | none => (opsS sp os l h).bind fun p => k .normal p.1 p.2
        | .draw os => (drawsS sp os l h []).bind fun p => k .normal p.1 p.2
        | .seq a b => sym sp n f an (2 * p + 1) none a l h fun e l h => match e with
          | .normal => sym sp n f an (2 * p + 2) none b l h k
          | e => k e l h
        | .cond c a b => match c with
          | .tmp t => match gs l t with
            | .tt => sym sp n f an (2 * p + 1) none a l h k
            | .ff => sym sp n f an (2 * p + 2) none b l h k
            | .bool x => .br x (sym sp n f an (2 * p + 1) none a (l.set t .tt) h k) (sym sp n f an (2 * p + 2) none b (l.set t .ff) h k)
            | _ => .fail
          | .val (.bool true) => sym sp n f an (2 * p + 1) none a l h k
          | .val (.bool false) => sym sp n f an (2 * p + 2) none b l h k
          | _ => .fail
        | .block id a => sym sp n f an (2 * p + 1) none a l h fun e l h => match e with
          | .exit id' => if id' = id then k .normal l h else k (.exit id') l h
          | e => k e l h
        | .fblock _ _ => .fail
        | .loop a => .fail
        | .scope d _ => sym sp n f an p (some d) d l h k

def sRes (l : List SV) (h : SH) : List (Nat × Option (Option Nat)) → T (List SV)
  | [] => .ret []
  | (t, none) :: rs => (sRes l h rs).bind fun vs => .ret (gs l t :: vs)
  | (t, some z) :: rs => (stepQ (fun _ => none) l h (.load z (.tmp t))).bind fun v => (sRes l h rs).bind fun vs => .ret (v :: vs)
noncomputable def symF (tbl : Table) (sp : Specs) (f : FuncId) (an : Anns) (fuel : Nat) (ti to : Tm) (x : St ti) : T (St to) :=
  match tbl.fn f with
  | some d => if ti.slots.length = d.params ∧ d.params ≤ d.n ∧ to.slots.length = d.results.length then match enc d.n ti x with
      | (l, h) => sym sp d.n fuel an 0 none d.body l h fun e l h => match e with
        | .normal | .ret => (sRes l h d.results).bind fun vs => T.ofO (decT to vs h (match d.pure with | true => .all | false => .no))
        | _ => .fail
    else .fail
  | none => .fail

end Go.Dv
/- The engine, second storey: when its values, and its heap, stand for those of the first. -/
set_option linter.unusedVariables false
set_option linter.unusedSimpArgs false
namespace Go.Dv

def RRows {α : Type} (P : α → List DV → Prop) : List α → List (List DV) → Prop
  | [], [] => True
  | x :: l, r :: rs => P x r ∧ RRows P l rs
  | _, _ => False
def RSl {α : Type} (P : α → List DV → Prop) (z : Nat) (l : List α) (d : DV) : Prop :=
  (d = .nils ∧ l = []) ∨ ∃ rows, d = .row z rows ∧ RRows P l rows

section
variable {α : Type}
mutual
inductive RRose (P : α → List DV → Prop) (z : Nat) : Rose α → List DV → Prop where
  | mk {a : α} {kids : List (Rose α)} {ds : List DV} {d : DV} (h : P a ds) (k : RKids P z kids d) : RRose P z (.mk a kids) (ds ++ [d])
inductive RKids (P : α → List DV → Prop) (z : Nat) : List (Rose α) → DV → Prop where
  | nils : RKids P z [] .nils
  | row {l : List (Rose α)} {rows : List (List DV)} (h : RRoses P z l rows) : RKids P z l (.row z rows)
inductive RRoses (P : α → List DV → Prop) (z : Nat) : List (Rose α) → List (List DV) → Prop where
  | nil : RRoses P z [] []
  | cons {x : Rose α} {r : List DV} {l : List (Rose α)} {rs : List (List DV)} (h : RRose P z x r) (k : RRoses P z l rs) : RRoses P z (x :: l) (r :: rs)
end
theorem u4W {P : α → List DV → Prop} {z : Nat} : ∀ {l : List (Rose α)} {rows : List (List DV)}, RRoses P z l rows ↔ RRows (RRose P z) l rows
  | [], [] => ⟨fun _ => trivial, fun _ => .nil⟩
  | [], _ :: _ => by
    constructor
    · intro h; cases h
    · intro h; exact h.elim
  | _ :: _, [] => by
    constructor
    · intro h; cases h
    · intro h; exact h.elim
  | x :: l, r :: rs => ⟨fun h => by cases h with | cons h k => exact ⟨h, u4W.1 k⟩, fun h => .cons h.1 (u4W.2 h.2)⟩
theorem kids_iff {P : α → List DV → Prop} {z : Nat} {l : List (Rose α)} {d : DV} : RKids P z l d ↔ RSl (RRose P z) z l d := by
  constructor
  · intro h
    cases h with
    | nils => exact .inl ⟨rfl, rfl⟩
    | row h => exact .inr ⟨_, rfl, u4W.1 h⟩
  · rintro (⟨rfl, rfl⟩ | ⟨rows, rfl, h⟩)
    · exact .nils
    · exact .row (u4W.2 h)
theorem rose_iff {P : α → List DV → Prop} {z : Nat} {x : Rose α} {D : List DV} : RRose P z x D ↔ ∃ ds d, D = ds ++ [d] ∧ P x.val ds ∧ RSl (RRose P z) z x.kids d := by
  constructor
  · intro h
    cases h with
    | mk h k => exact ⟨_, _, rfl, h, kids_iff.1 k⟩
  · rintro ⟨ds, d, rfl, h, k⟩
    cases x
    exact .mk h (kids_iff.2 k)
theorem RRows.length {P : α → List DV → Prop} : ∀ {l : List α} {rows : List (List DV)}, RRows P l rows → l.length = rows.length
  | [], [], _ => rfl
  | _ :: _, _ :: _, h => by simp [RRows.length h.2]
theorem RRows.get {P : α → List DV → Prop} : ∀ {l : List α} {rows : List (List DV)} {n : Nat} {x : α}, RRows P l rows → l[n]? = some x → ∃ r, rows[n]? = some r ∧ P x r
  | x :: l, r :: rs, 0, y, h, e => by simp at e; subst e; exact ⟨r, rfl, h.1⟩
  | x :: l, r :: rs, n + 1, y, h, e => by simpa using RRows.get h.2 (by simpa using e)
  | [], _, _, _, _, e => by simp at e
theorem RRows.imp {β : Type} {P : α → List DV → Prop} {Q : α → List DV → Prop} (f : List DV → List DV) (hpq : ∀ x r, P x r → Q x (f r)) : ∀ {l : List α} {rows : List (List DV)}, RRows P l rows → RRows Q l (rows.map f)
  | [], [], _ => trivial
  | _ :: _, _ :: _, h => ⟨hpq _ _ h.1, RRows.imp (β := β) f hpq h.2⟩
theorem RRows.mono {P Q : α → List DV → Prop} (hpq : ∀ x r, P x r → Q x r) : ∀ {l : List α} {rows : List (List DV)}, RRows P l rows → RRows Q l rows
  | [], [], _ => trivial
  | _ :: _, _ :: _, h => ⟨hpq _ _ h.1, RRows.mono hpq h.2⟩
theorem RRows.append {P : α → List DV → Prop} : ∀ {l m : List α} {rows rs : List (List DV)}, RRows P l rows → RRows P m rs → RRows P (l ++ m) (rows ++ rs)
  | [], _, [], _, _, k => k
  | _ :: _, _, _ :: _, _, h, k => ⟨h.1, RRows.append h.2 k⟩
theorem RRows.take {P : α → List DV → Prop} : ∀ {l : List α} {rows : List (List DV)} (n : Nat), RRows P l rows → RRows P (l.take n) (rows.take n)
  | _, _, 0, _ => by simp [RRows]
  | [], [], _ + 1, _ => by simp [RRows]
  | _ :: _, _ :: _, n + 1, h => ⟨h.1, RRows.take n h.2⟩
theorem RRows.drop {P : α → List DV → Prop} : ∀ {l : List α} {rows : List (List DV)} (n : Nat), RRows P l rows → RRows P (l.drop n) (rows.drop n)
  | _, _, 0, h => h
  | [], [], _ + 1, _ => by simp [RRows]
  | _ :: _, _ :: _, n + 1, h => RRows.drop n h.2
theorem RRows.set {P : α → List DV → Prop} {x : α} {r : List DV} (k : P x r) : ∀ {l : List α} {rows : List (List DV)} (n : Nat), RRows P l rows → RRows P (l.set n x) (rows.set n r)
  | [], [], _, _ => by simp [RRows]
  | _ :: _, _ :: _, 0, h => ⟨k, h.2⟩
  | _ :: _, _ :: _, n + 1, h => ⟨h.1, RRows.set k n h.2⟩
theorem RRows.replicate {P : α → List DV → Prop} {x : α} {r : List DV} (k : P x r) : ∀ n, RRows P (List.replicate n x) (List.replicate n r)
  | 0 => trivial
  | n + 1 => ⟨k, RRows.replicate k n⟩
theorem RSl.mono {P Q : α → List DV → Prop} (hpq : ∀ x r, P x r → Q x r) {z : Nat} {l : List α} {d : DV} (h : RSl P z l d) : RSl Q z l d := by
  rcases h with h | ⟨rows, h1, h2⟩
  · exact .inl h
  · exact .inr ⟨rows, h1, h2.mono hpq⟩
end

def RE : (s : Sh) → El s → List DV → Prop
  | .int k, n, ds => ds = [.int k n]
  | .bool, b, ds => ds = [.bool b]
  | .str, x, ds => ds = [.str x]
  | .list s, l, ds => ∃ d, ds = [d] ∧ RSl (RE s) s.size l d
  | .pair a b, x, ds => ∃ d1 d2, ds = d1 ++ d2 ∧ RE a x.1 d1 ∧ RE b x.2 d2
  | .tree a, x, ds => RRose (RE a) (a.size + 1) x ds
  | .uno a, x, ds => RE a x ds
  | .mark a, x, ds => RE a x.2 ds

theorem u3e {a : Sh} {x : Rose (El a)} {D : List DV} : RE (.tree a) x D ↔ ∃ ds d, D = ds ++ [d] ∧ RE a x.val ds ∧ RSl (RE (.tree a)) (Sh.tree a).size x.kids d := rose_iff
theorem RE.length : ∀ {s : Sh} {x : El s} {ds : List DV}, RE s x ds → ds.length = s.size
  | .int _, _, _, h | .bool, _, _, h | .str, _, _, h => by simp only [RE] at h; subst h; rfl
  | .list _, _, _, h => by obtain ⟨d, rfl, _⟩ := h; rfl
  | .pair a b, x, _, h => by obtain ⟨d1, d2, rfl, h1, h2⟩ := h; simp [RE.length h1, RE.length h2, Sh.size]
  | .tree a, x, _, h => by obtain ⟨d1, d, rfl, h1, _⟩ := u3e.1 h; simp [RE.length h1, Sh.size]
  | .uno a, x, _, h => RE.length (s := a) h
  | .mark a, x, _, h => RE.length (s := a) h
theorem RSl.still {α : Type} {P : α → List DV → Prop} {z : Nat} {l : List α} {d : DV} (h : RSl P z l d) : d.still1 = true ∧ d.isCell = true := by
  rcases h with ⟨rfl, _⟩ | ⟨rows, rfl, _⟩ <;> exact ⟨rfl, rfl⟩
theorem RE.still : ∀ {s : Sh} {x : El s} {ds : List DV}, RE s x ds → ∀ d ∈ ds, d.still1 = true ∧ d.isCell = true
  | .int _, _, _, h, d, hd | .bool, _, _, h, d, hd | .str, _, _, h, d, hd => by simp only [RE] at h; subst h; simp at hd; subst hd; exact ⟨rfl, rfl⟩
  | .list _, _, _, h, d, hd => by obtain ⟨d', rfl, h⟩ := h; simp at hd; subst hd; exact h.still
  | .pair a b, x, _, h, d, hd => by
    obtain ⟨d1, d2, rfl, h1, h2⟩ := h
    rcases List.mem_append.1 hd with hd | hd
    · exact RE.still h1 d hd
    · exact RE.still h2 d hd
  | .tree a, x, _, h, d, hd => by
    obtain ⟨d1, d', rfl, h1, h2⟩ := u3e.1 h
    rcases List.mem_append.1 hd with hd | hd
    · exact RE.still h1 d hd
    · simp at hd; subst hd; exact h2.still
  | .uno a, x, _, h, d, hd => RE.still (s := a) h d hd
  | .mark a, x, _, h, d, hd => RE.still (s := a) h d hd

structure RX where
  z : Nat → Option Blk
  c : Nat
  R : Nat → Option (Nat × Nat) × Nat
  nb : Nat
  bi : Nat → Nat
  bm : Nat → Nat

structure RX.le (X Y : RX) : Prop where
  z : ∀ i k, X.z i = some k → Y.z i = some k
  c : X.c ≤ Y.c
  R : ∀ j, j < X.c → Y.R j = X.R j
  nb : X.nb ≤ Y.nb
  b : ∀ i, i < X.nb → Y.bi i = X.bi i ∧ Y.bm i = X.bm i
theorem RX.le.refl (X : RX) : X.le X := ⟨fun _ _ h => h, Nat.le_refl _, fun _ _ => rfl, Nat.le_refl _, fun _ _ => ⟨rfl, rfl⟩⟩
theorem RX.le.trans {X Y Z : RX} (h : X.le Y) (k : Y.le Z) : X.le Z :=
  ⟨fun i b e => k.z i b (h.z i b e), Nat.le_trans h.c k.c, fun j hj => (k.R j (Nat.lt_of_lt_of_le hj h.c)).trans (h.R j hj), Nat.le_trans h.nb k.nb,
    fun i hi => ⟨(k.b i (Nat.lt_of_lt_of_le hi h.nb)).1.trans (h.b i hi).1, (k.b i (Nat.lt_of_lt_of_le hi h.nb)).2.trans (h.b i hi).2⟩⟩

def RWs {α : Type} (X : RX) (Q P : α → List DV → Prop) (z : Nat) (l : List α) (d : DV) : Prop :=
  RSl Q z l d ∨ ∃ i m off k, d = .sl i m off l.length ∧ X.z i = some k ∧ k.s = m ∧ k.z = z ∧ off + l.length ≤ k.xs.length ∧ RRows P l ((k.xs.drop off).take l.length)
def RYs {α : Type} (X : RX) (P : α → List DV → Prop) (z : Nat) (l : List α) (d : DV) : Prop :=
  (d = .nils ∧ l = []) ∨ ∃ i m off k, d = .sl i m off l.length ∧ X.z i = some k ∧ k.s = m ∧ k.z = z ∧ off + l.length ≤ k.xs.length ∧ RRows P l ((k.xs.drop off).take l.length)
theorem RYs.toW {α : Type} {X : RX} {E P : α → List DV → Prop} {z : Nat} {l : List α} {d : DV} (h : RYs X P z l d) : RWs X E P z l d := by
  rcases h with h | h
  · exact .inl (.inl h)
  · exact .inr h
def RW (X : RX) (v : Bool) : (s : Sh) → El s → List DV → Prop
  | .int k, n, ds => ds = [.int k n]
  | .bool, b, ds => ds = [.bool b]
  | .str, x, ds => ds = [.str x]
  | .list s, l, ds => ∃ d, ds = [d] ∧ (match v with | true => RYs X (fun x r => RW X true s x r) s.size l d | false => RWs X (RE s) (fun x r => RE s x r) s.size l d)
  | .pair a b, x, ds => ∃ d1 d2, ds = d1 ++ d2 ∧ RW X v a x.1 d1 ∧ RW X v b x.2 d2
  | .tree a, x, ds => ∃ d1 d, ds = d1 ++ [d] ∧ RW X v a x.val d1 ∧ RWs X (RE (.tree a)) (RE (.tree a)) (a.size + 1) x.kids d
  | .uno a, x, ds => RW X v a x ds
  | .mark a, x, ds => match v, x.1 with
    | true, false => RE a x.2 ds
    | _, _ => RW X v a x.2 ds
def RP (X : RX) (v : Bool) (s : Sh) (x : El s) (r : List DV) : Prop := match v with
  | true => RW X true s x r
  | false => RE s x r

theorem RE.toW {X : RX} : ∀ {s : Sh} {x : El s} {ds : List DV}, RE s x ds → RW X false s x ds
  | .int _, _, _, h | .bool, _, _, h | .str, _, _, h => h
  | .list s, l, _, h => by
    obtain ⟨d, rfl, h⟩ := h
    exact ⟨d, rfl, .inl h⟩
  | .pair a b, x, _, h => by
    obtain ⟨d1, d2, rfl, h1, h2⟩ := h
    exact ⟨d1, d2, rfl, RE.toW h1, RE.toW h2⟩
  | .tree a, x, _, h => by
    obtain ⟨d1, d', rfl, h1, h2⟩ := u3e.1 h
    exact ⟨d1, d', rfl, RE.toW h1, .inl h2⟩
  | .uno a, x, _, h => RE.toW (s := a) h
  | .mark a, x, _, h => by
    have := RE.toW (X := X) (s := a) h
    obtain ⟨b, x⟩ := x
    cases b <;> exact this
theorem u49 {X : RX} : ∀ {s : Sh} {v : Bool} {x : El s} {ds : List DV}, s.bare = true → (RW X v s x ds ↔ RE s x ds)
  | .int _, _, _, _, _ | .bool, _, _, _, _ | .str, _, _, _, _ => Iff.rfl
  | .list s, _, _, _, h => by simp [Sh.bare] at h
  | .pair a b, v, x, ds, h => by
    simp only [Sh.bare, Bool.and_eq_true] at h
    constructor
    · rintro ⟨d1, d2, rfl, h1, h2⟩
      exact ⟨d1, d2, rfl, (u49 h.1).1 h1, (u49 h.2).1 h2⟩
    · rintro ⟨d1, d2, rfl, h1, h2⟩
      exact ⟨d1, d2, rfl, (u49 h.1).2 h1, (u49 h.2).2 h2⟩
  | .tree a, _, _, _, h => by simp [Sh.bare] at h
  | .uno a, v, x, ds, h => u49 (s := a) h
  | .mark a, _, _, _, h => by simp [Sh.bare] at h
theorem RP_bare {X : RX} {s : Sh} {v : Bool} {x : El s} {ds : List DV} (h : s.bare = true) : RP X v s x ds ↔ RE s x ds := by
  cases v with
  | true => exact u49 h
  | false => exact Iff.rfl
theorem RE.toP {X : RX} {v : Bool} {s : Sh} {x : El s} {ds : List DV} (hb : s.bare = true) (h : RE s x ds) : RP X v s x ds := (RP_bare hb).2 h
theorem RYs.mono {α : Type} {X Y : RX} {P Q : α → List DV → Prop} (hz : ∀ i k, X.z i = some k → Y.z i = some k) (hpq : ∀ x r, P x r → Q x r) {z : Nat} {l : List α} {d : DV} (h : RYs X P z l d) : RYs Y Q z l d := by
  rcases h with h | ⟨i, m, off, k, h1, h2, h3, h4, h5, h6⟩
  · exact .inl h
  · exact .inr ⟨i, m, off, k, h1, hz _ _ h2, h3, h4, h5, h6.mono hpq⟩
theorem RWs.mono {α : Type} {X Y : RX} {E P Q : α → List DV → Prop} (hz : ∀ i k, X.z i = some k → Y.z i = some k) (hpq : ∀ x r, P x r → Q x r) {z : Nat} {l : List α} {d : DV} (h : RWs X E P z l d) : RWs Y E Q z l d := by
  rcases h with h | ⟨i, m, off, k, h1, h2, h3, h4, h5, h6⟩
  · exact .inl h
  · exact .inr ⟨i, m, off, k, h1, hz _ _ h2, h3, h4, h5, h6.mono hpq⟩
theorem RW.mono {X Y : RX} (hz : ∀ i k, X.z i = some k → Y.z i = some k) : ∀ {s : Sh} {v : Bool} {x : El s} {ds : List DV}, RW X v s x ds → RW Y v s x ds
  | .int _, _, _, _, h | .bool, _, _, _, h | .str, _, _, _, h => h
  | .list s, v, l, _, h => by
    obtain ⟨d, rfl, h⟩ := h
    refine ⟨d, rfl, ?_⟩
    cases v with
    | true => exact RYs.mono hz (fun x r k => RW.mono hz k) h
    | false => exact RWs.mono hz (fun x r k => k) h
  | .pair a b, _, x, _, h => by
    obtain ⟨d1, d2, rfl, h1, h2⟩ := h
    exact ⟨d1, d2, rfl, RW.mono hz h1, RW.mono hz h2⟩
  | .tree a, _, x, _, h => by
    obtain ⟨d1, d', rfl, h1, h2⟩ := h
    exact ⟨d1, d', rfl, RW.mono hz h1, h2.mono hz fun _ _ k => k⟩
  | .uno a, _, x, _, h => RW.mono (s := a) hz h
  | .mark a, v, x, _, h => by
    obtain ⟨b, x⟩ := x
    cases v <;> cases b <;> first
      | exact RW.mono (s := a) hz h
      | exact h
theorem RP.mono {X Y : RX} (hz : ∀ i k, X.z i = some k → Y.z i = some k) {s : Sh} {v : Bool} {x : El s} {ds : List DV} (h : RP X v s x ds) : RP Y v s x ds := by
  cases v with
  | true => exact RW.mono hz h
  | false => exact h
theorem RW.length {X : RX} : ∀ {s : Sh} {v : Bool} {x : El s} {ds : List DV}, RW X v s x ds → ds.length = s.size
  | .int _, _, _, _, h | .bool, _, _, _, h | .str, _, _, _, h => by simp only [RW] at h; subst h; rfl
  | .list _, _, _, _, h => by obtain ⟨d, rfl, _⟩ := h; rfl
  | .pair a b, _, x, _, h => by obtain ⟨d1, d2, rfl, h1, h2⟩ := h; simp [RW.length h1, RW.length h2, Sh.size]
  | .tree a, _, x, _, h => by obtain ⟨d1, d, rfl, h1, _⟩ := h; simp [RW.length h1, Sh.size]
  | .uno a, _, x, _, h => RW.length (s := a) h
  | .mark a, v, x, _, h => by
    obtain ⟨b, x⟩ := x
    cases v <;> cases b <;> first
      | exact RW.length (s := a) h
      | exact RE.length (s := a) h
theorem RP.length {X : RX} {s : Sh} {v : Bool} {x : El s} {ds : List DV} (h : RP X v s x ds) : ds.length = s.size := by
  cases v with
  | true => exact RW.length h
  | false => exact RE.length h
def RVw (X : RX) (v : Bool) (s : Sh) (l : List (El s)) (d : DV) : Prop := match v with
  | true => RYs X (RP X true s) s.size l d
  | false => RWs X (RE s) (RP X false s) s.size l d
theorem RVw.mono {X Y : RX} (hz : ∀ i k, X.z i = some k → Y.z i = some k) {v : Bool} {s : Sh} {l : List (El s)} {d : DV} (h : RVw X v s l d) : RVw Y v s l d := by
  cases v with
  | true => exact RYs.mono hz (fun x r k => RP.mono hz k) h
  | false => exact RWs.mono hz (fun x r k => RP.mono hz k) h
theorem RVw.toW {X : RX} {v : Bool} {s : Sh} {l : List (El s)} {d : DV} (h : RVw X v s l d) : RWs X (RE s) (RP X v s) s.size l d := by
  cases v with
  | true => exact RYs.toW h
  | false => exact h
theorem RVw.hang {X : RX} {v : Bool} {s : Sh} {l : List (El s)} {d : DV} (h : ∃ i m off k, d = .sl i m off l.length ∧ X.z i = some k ∧ k.s = m ∧ k.z = s.size ∧ off + l.length ≤ k.xs.length ∧ RRows (RP X v s) l ((k.xs.drop off).take l.length)) : RVw X v s l d := by
  cases v with
  | true => exact .inr h
  | false => exact .inr h
theorem RVw.froz {X : RX} {s : Sh} {l : List (El s)} {d : DV} (h : RSl (RE s) s.size l d) : RVw X false s l d := .inl h
theorem RVw.parts {X : RX} {v : Bool} {s : Sh} {l : List (El s)} {d : DV} (h : RVw X v s l d) : (d = .nils ∧ l = []) ∨ (v = false ∧ ∃ rows, d = .row s.size rows ∧ RRows (RE s) l rows) ∨
    ∃ i m off k, d = .sl i m off l.length ∧ X.z i = some k ∧ k.s = m ∧ k.z = s.size ∧ off + l.length ≤ k.xs.length ∧ RRows (RP X v s) l ((k.xs.drop off).take l.length) := by
  cases v with
  | true =>
    rcases h with h | h
    · exact .inl h
    · exact .inr (.inr h)
  | false =>
    rcases h with (h | h) | h
    · exact .inl h
    · exact .inr (.inl ⟨rfl, h⟩)
    · exact .inr (.inr h)
theorem RVw.none {X : RX} {v : Bool} {s : Sh} {d : DV} (h : d = .nils) : RVw X v s [] d := by
  cases v with
  | true => exact .inl ⟨h, rfl⟩
  | false => exact .inl (.inl ⟨h, rfl⟩)

mutual
def RV (X : RX) : SV → DV → Prop
  | .undef, _ => True
  | .tt, d => d = .bool true
  | .ff, d => d = .bool false
  | .bool b, d => d = .bool b
  | .int k n, d => d = .int k n
  | .str s, d => d = .str s
  | .nilp, d => d = .nilp
  | .nil, d => d = .nils
  | .lst s l, d => RSl (RE s) s.size l d
  | .vw v s l, d => RVw X v s l d
  | .own j, d => j < X.c ∧ match (X.R j).1 with
    | none => d = .nils ∧ (X.R j).2 = 0
    | some (i, m) => d = .sl i m 0 (X.R j).2
  | .ptr i o, d => i < X.nb ∧ d = .ptr false (X.bi i) (X.bm i) 0 o
  | .ep j n o, d => j < X.c ∧ 0 ≤ n ∧ n.toNat < (X.R j).2 ∧ ∃ i m, (X.R j).1 = some (i, m) ∧ d = .ptr true i m n.toNat o
  | .fp cs, d => (∃ ds, d = .fp ds ∧ RVs X cs ds) ∨ ∃ i m e o k r, d = .ptr true i m e o ∧ X.z i = some k ∧ k.s = m ∧ k.xs[e]? = some r ∧ RVs X cs (r.drop o)
  | .fn f cap, d => ∃ ds, d = .fn f ds ∧ RVs X cap ds
  | .agg cs, d => ∃ ds, d = .agg ds ∧ RVs X cs ds
  | .tup vs, d => ∃ ds, d = .tup ds ∧ RVs X vs ds
def RVs (X : RX) : List SV → List DV → Prop
  | [], [] => True
  | v :: vs, d :: ds => RV X v d ∧ RVs X vs ds
  | _, _ => False
end
mutual
theorem RV.mono {X Y : RX} (le : X.le Y) : ∀ {v : SV} {d : DV}, RV X v d → RV Y v d
  | .undef, _, _ => by simp [RV]
  | .tt, _, h | .ff, _, h | .bool _, _, h | .int _ _, _, h | .str _, _, h | .nilp, _, h | .nil, _, h | .lst _ _, _, h => by simpa only [RV] using h
  | .vw v s l, _, h => by
    simp only [RV] at h ⊢
    exact h.mono le.z
  | .own j, _, h => by
    simp only [RV] at h ⊢
    rw [le.R j h.1]
    exact ⟨Nat.lt_of_lt_of_le h.1 le.c, h.2⟩
  | .ptr i o, _, h => by
    simp only [RV] at h ⊢
    rw [(le.b i h.1).1, (le.b i h.1).2]
    exact ⟨Nat.lt_of_lt_of_le h.1 le.nb, h.2⟩
  | .ep j n o, _, h => by
    simp only [RV] at h ⊢
    rw [le.R j h.1]
    exact ⟨Nat.lt_of_lt_of_le h.1 le.c, h.2⟩
  | .fp cs, _, h => by
    simp only [RV] at h ⊢
    rcases h with ⟨ds, h1, h2⟩ | ⟨i, m, e, o, k, r, h1, h2, h3, h4, h5⟩
    · exact .inl ⟨ds, h1, RVs.mono le h2⟩
    · exact .inr ⟨i, m, e, o, k, r, h1, le.z _ _ h2, h3, h4, RVs.mono le h5⟩
  | .fn f cap, _, h => by simp only [RV] at h ⊢; obtain ⟨ds, h1, h2⟩ := h; exact ⟨ds, h1, RVs.mono le h2⟩
  | .agg cs, _, h => by simp only [RV] at h ⊢; obtain ⟨ds, h1, h2⟩ := h; exact ⟨ds, h1, RVs.mono le h2⟩
  | .tup cs, _, h => by simp only [RV] at h ⊢; obtain ⟨ds, h1, h2⟩ := h; exact ⟨ds, h1, RVs.mono le h2⟩
theorem RVs.mono {X Y : RX} (le : X.le Y) : ∀ {vs : List SV} {ds : List DV}, RVs X vs ds → RVs Y vs ds
  | [], [], _ => by simp [RVs]
  | [], _ :: _, h => by simp [RVs] at h
  | _ :: _, [], h => by simp [RVs] at h
  | v :: vs, d :: ds, h => by simp only [RVs] at h ⊢; exact ⟨RV.mono le h.1, RVs.mono le h.2⟩
end
theorem RVs.length {X : RX} : ∀ {vs : List SV} {ds : List DV}, RVs X vs ds → vs.length = ds.length
  | [], [], _ => rfl
  | [], _ :: _, h => by simp [RVs] at h
  | _ :: _, [], h => by simp [RVs] at h
  | v :: vs, d :: ds, h => by simp only [RVs] at h; simp [RVs.length h.2]
theorem RVs.get {X : RX} : ∀ {vs : List SV} {ds : List DV} {n : Nat} {v : SV}, RVs X vs ds → vs[n]? = some v → ∃ d, ds[n]? = some d ∧ RV X v d
  | [], _, _, _, _, e => by simp at e
  | _ :: _, [], _, _, h, _ => by simp [RVs] at h
  | v :: vs, d :: ds, 0, v', h, e => by simp only [RVs] at h; simp at e; subst e; exact ⟨d, rfl, h.1⟩
  | v :: vs, d :: ds, n + 1, v', h, e => by simp only [RVs] at h; simpa using RVs.get h.2 (by simpa using e)
theorem RVs.set {X : RX} {v : SV} {d : DV} (k : RV X v d) : ∀ {vs : List SV} {ds : List DV} (n : Nat), RVs X vs ds → RVs X (vs.set n v) (ds.set n d)
  | [], [], _, _ => by simp [RVs]
  | [], _ :: _, _, h => by simp [RVs] at h
  | _ :: _, [], _, h => by simp [RVs] at h
  | _ :: _, _ :: _, 0, h => by simp only [RVs, List.set] at h ⊢; exact ⟨k, h.2⟩
  | _ :: _, _ :: _, n + 1, h => by simp only [RVs, List.set] at h ⊢; exact ⟨h.1, RVs.set k n h.2⟩
theorem RVs.append {X : RX} : ∀ {vs ws : List SV} {ds es : List DV}, RVs X vs ds → RVs X ws es → RVs X (vs ++ ws) (ds ++ es)
  | [], _, [], _, _, k => by simpa using k
  | [], _, _ :: _, _, h, _ => by simp [RVs] at h
  | _ :: _, _, [], _, h, _ => by simp [RVs] at h
  | _ :: _, _, _ :: _, _, h, k => by simp only [RVs, List.cons_append] at h ⊢; exact ⟨h.1, RVs.append h.2 k⟩
theorem RVs.take {X : RX} : ∀ {vs : List SV} {ds : List DV} (n : Nat), RVs X vs ds → RVs X (vs.take n) (ds.take n)
  | _, _, 0, _ => by simp [RVs]
  | [], [], _ + 1, _ => by simp [RVs]
  | [], _ :: _, _, h => by simp [RVs] at h
  | _ :: _, [], _, h => by simp [RVs] at h
  | _ :: _, _ :: _, n + 1, h => by simp only [RVs, List.take] at h ⊢; exact ⟨h.1, RVs.take n h.2⟩
theorem RVs.drop {X : RX} : ∀ {vs : List SV} {ds : List DV} (n : Nat), RVs X vs ds → RVs X (vs.drop n) (ds.drop n)
  | _, _, 0, h => by simpa using h
  | [], [], _ + 1, _ => by simp [RVs]
  | [], _ :: _, _, h => by simp [RVs] at h
  | _ :: _, [], _, h => by simp [RVs] at h
  | _ :: _, _ :: _, n + 1, h => by simp only [RVs] at h; simpa using RVs.drop n h.2
theorem RVs.replicate {X : RX} {v : SV} {d : DV} (k : RV X v d) : ∀ n, RVs X (List.replicate n v) (List.replicate n d)
  | 0 => by simp [RVs]
  | n + 1 => by simp only [List.replicate_succ, RVs]; exact ⟨k, RVs.replicate k n⟩
theorem RVs.gs {X : RX} {l : List SV} {dl : List DV} (h : RVs X l dl) (n : Nat) : RV X (gs l n) (gt dl n) := by
  unfold Go.Dv.gs Go.Dv.gt
  rw [List.getD_eq_getElem?_getD, List.getD_eq_getElem?_getD]
  cases e : l[n]? with
  | none => simp [RV]
  | some v => obtain ⟨d, h1, h2⟩ := h.get e; rw [h1]; exact h2

theorem RE.cells {X : RX} : ∀ {s : Sh} {x : El s} {ds dr : List DV} {r : List SV}, RE s x ds → RVs X r dr → RVs X (u0f s x r) (ds ++ dr)
  | .int _, _, _, _, _, h, k | .bool, _, _, _, _, h, k | .str, _, _, _, _, h, k => by simp only [RE] at h; subst h; simp only [u0f, List.cons_append, List.nil_append, RVs, RV]; exact ⟨trivial, k⟩
  | .list s, _, _, _, _, h, k => by obtain ⟨d, rfl, h⟩ := h; simp only [u0f, List.cons_append, List.nil_append, RVs, RV]; exact ⟨h, k⟩
  | .pair a b, x, _, _, _, h, k => by
    obtain ⟨d1, d2, rfl, h1, h2⟩ := h
    simp only [u0f]
    rw [List.append_assoc]
    exact RE.cells h1 (RE.cells h2 k)
  | .tree a, x, _, _, _, h, k => by
    obtain ⟨d1, d, rfl, h1, h2⟩ := u3e.1 h
    simp only [u0f]
    rw [List.append_assoc]
    refine RE.cells h1 ?_
    simp only [List.cons_append, List.nil_append, RVs, RV]
    exact ⟨h2, k⟩
  | .uno a, x, _, _, _, h, k => RE.cells (s := a) h k
  | .mark a, x, _, _, _, h, k => RE.cells (s := a) h k
theorem RW.cells {X : RX} {v : Bool} : ∀ {s : Sh} {x : El s} {ds dr : List DV} {r : List SV}, RW X v s x ds → RVs X r dr → RVs X (u2C v s x r) (ds ++ dr)
  | .int _, _, _, _, _, h, k | .bool, _, _, _, _, h, k | .str, _, _, _, _, h, k => by simp only [RW] at h; subst h; simp only [u2C, List.cons_append, List.nil_append, RVs, RV]; exact ⟨trivial, k⟩
  | .list s, _, _, _, _, h, k => by obtain ⟨d, rfl, h⟩ := h; simp only [u2C, List.cons_append, List.nil_append, RVs, RV]; exact ⟨by cases v <;> exact h, k⟩
  | .pair a b, x, _, _, _, h, k => by
    obtain ⟨d1, d2, rfl, h1, h2⟩ := h
    simp only [u2C]
    rw [List.append_assoc]
    exact RW.cells h1 (RW.cells h2 k)
  | .tree a, x, _, _, _, h, k => by
    obtain ⟨d1, d, rfl, h1, h2⟩ := h
    simp only [u2C]
    rw [List.append_assoc]
    refine RW.cells h1 ?_
    simp only [List.cons_append, List.nil_append, RVs, RV]
    exact ⟨h2, k⟩
  | .uno a, x, _, _, _, h, k => RW.cells (s := a) h k
  | .mark a, x, ds, _, _, h, k => by
    have hl : ds.length = a.size := RW.length (s := .mark a) h
    refine RVs.append ?_ k
    clear h k
    have : ∀ (n : Nat) (l : List DV), l.length = n → RVs X (List.replicate n .undef) l := by
      intro n
      induction n with
      | zero => intro l hl; rw [List.eq_nil_of_length_eq_zero hl]; trivial
      | succ n ih => intro l hl; cases l with
        | nil => simp at hl
        | cons d l => rw [List.replicate_succ]; exact ⟨trivial, ih l (by simpa using hl)⟩
    exact this _ _ hl
theorem RP.cells {X : RX} {v : Bool} {s : Sh} {x : El s} {ds dr : List DV} {r : List SV} (h : RP X v s x ds) (k : RVs X r dr) : RVs X (cellsR v s x r) (ds ++ dr) := by
  cases v with
  | true => exact RW.cells h k
  | false => exact RE.cells h k
theorem RP.cells0 {X : RX} {v : Bool} {s : Sh} {x : El s} {ds : List DV} (h : RP X v s x ds) : RVs X (cellsR v s x []) ds := by
  simpa using h.cells (r := []) (dr := []) (by simp [RVs])

end Go.Dv
/- The engine, second storey: when its heap stands for the first's; what is read out of cells. -/
set_option linter.unusedVariables false
set_option linter.unusedSimpArgs false
namespace Go.Dv

def RCon (X : RX) (z : Nat) : RC → List (List DV) → Prop
  | .typed v s l, rows => s.size = z ∧ RRows (RP X v s) l rows
  | .raw rs, rows => RRows (fun cs r => cs.length = z ∧ RVs X cs r) rs rows
theorem RCon.mono {X Y : RX} (le : X.le Y) {z : Nat} : ∀ {c : RC} {rows : List (List DV)}, RCon X z c rows → RCon Y z c rows
  | .typed v s l, _, h => ⟨h.1, h.2.mono fun x r k => k.mono le.z⟩
  | .raw rs, _, h => RRows.mono (fun x r k => ⟨k.1, k.2.mono le⟩) h
theorem RCon.len {X : RX} {z : Nat} : ∀ {c : RC} {rows : List (List DV)}, RCon X z c rows → c.len = rows.length
  | .typed v s l, _, h => h.2.length
  | .raw rs, _, h => RRows.length h
def FzOk (X : RX) (i : Nat) (k : Blk) (n : Nat) : Bool → Prop
  | true => X.z i = some k
  | false => X.z i = none ∧ n = k.xs.length
def RowOk (X : RX) (dh : Hp) (j : Nat) (fz : Bool) (z : Nat) (c : RC) : Prop :=
  c.len = (X.R j).2 ∧ match (X.R j).1 with
    | none => RCon X z c []
    | some (i, m) => ∃ k, dh.R[i]? = some k ∧ k.s = m ∧ k.z = z ∧ c.len ≤ k.xs.length ∧ RCon X z c (k.xs.take c.len) ∧ FzOk X i k c.len fz
structure Inv (X : RX) (h : SH) (dh : Hp) : Prop where
  c : h.R.length = X.c
  nb : h.B.length = X.nb
  box : ∀ i cs, h.B[i]? = some cs → ∃ z ds, dh.B[X.bi i]? = some ⟨X.bm i, z, [ds]⟩ ∧ RVs X cs ds
  bdist : ∀ i i', i < X.nb → i' < X.nb → X.bi i = X.bi i' → i = i'
  z : ∀ i k, X.z i = some k → dh.R[i]? = some k
  row : ∀ j fz z c, h.R[j]? = some (.live fz z c) → RowOk X dh j fz z c
  dist : ∀ j j' z c z' c' i m m', h.R[j]? = some (.live false z c) → h.R[j']? = some (.live false z' c') → (X.R j).1 = some (i, m) → (X.R j').1 = some (i, m') → j = j'

def WR (X : RX) (h : SH) (i : Nat) : Prop := ∃ j z c m, h.R[j]? = some (.live false z c) ∧ (X.R j).1 = some (i, m)
structure Step (X : RX) (h : SH) (dh : Hp) (X' : RX) (h' : SH) (dh' : Hp) : Prop where
  rows : ∀ i, i < dh.R.length → ¬ WR X h i → dh'.R[i]? = dh.R[i]?
  rlen : dh.R.length ≤ dh'.R.length
  boxes : ∀ q, q < dh.B.length → (∀ i, i < X.nb → X.bi i ≠ q) → dh'.B[q]? = dh.B[q]?
  blen : dh.B.length ≤ dh'.B.length
  wr : ∀ i, WR X' h' i → WR X h i ∨ dh.R.length ≤ i
  wb : ∀ i, i < X'.nb → (∃ i0, i0 < X.nb ∧ X.bi i0 = X'.bi i) ∨ dh.B.length ≤ X'.bi i
  zn : ∀ i k, X'.z i = some k → X.z i = some k ∨ WR X h i ∨ dh.R.length ≤ i
theorem Step.refl (X : RX) (h : SH) (dh : Hp) : Step X h dh X h dh :=
  ⟨fun _ _ _ => rfl, Nat.le_refl _, fun _ _ _ => rfl, Nat.le_refl _, fun _ h => .inl h, fun i hi => .inl ⟨i, hi, rfl⟩, fun _ _ h => .inl h⟩
theorem Step.trans {X Y Z : RX} {h k l : SH} {dh dk dl : Hp} (a : Step X h dh Y k dk) (b : Step Y k dk Z l dl) : Step X h dh Z l dl where
  rows i hi hw := by
    rw [b.rows i (Nat.lt_of_lt_of_le hi a.rlen) fun w => (a.wr i w).elim hw fun h => absurd hi (Nat.not_lt.mpr h)]
    exact a.rows i hi hw
  rlen := Nat.le_trans a.rlen b.rlen
  boxes q hq hn := by
    rw [b.boxes q (Nat.lt_of_lt_of_le hq a.blen) fun i hi e => ?_]
    · exact a.boxes q hq hn
    · rcases a.wb i hi with ⟨i0, h1, h2⟩ | h1
      · exact hn i0 h1 (h2.trans e)
      · rw [e] at h1; exact absurd hq (Nat.not_lt.mpr h1)
  blen := Nat.le_trans a.blen b.blen
  wr i w := by
    rcases b.wr i w with w | h1
    · exact a.wr i w
    · exact .inr (Nat.le_trans a.rlen h1)
  wb i hi := by
    rcases b.wb i hi with ⟨i0, h1, h2⟩ | h1
    · rcases a.wb i0 h1 with ⟨i1, h3, h4⟩ | h3
      · exact .inl ⟨i1, h3, h4.trans h2⟩
      · exact .inr (by rw [← h2]; exact h3)
    · exact .inr (Nat.le_trans a.blen h1)
  zn i k e := by
    rcases b.zn i k e with e | w | h1
    · exact a.zn i k e
    · rcases a.wr i w with w | h1
      · exact .inr (.inl w)
      · exact .inr (.inr h1)
    · exact .inr (.inr (Nat.le_trans a.rlen h1))

theorem u1i {s' s : Sh} {l : List (El s')} {m : List (El s)} (h : castL l = some m) : ∃ e : s' = s, e ▸ l = m := by
  unfold castL at h
  split at h
  · rename_i e; cases h; exact ⟨e, rfl⟩
  · cases h

def RL (Y : RX) (t : Lv) (s : Sh) (x : El s) (ds : List DV) : Prop := match t with
  | .no => RE s x ds
  | .top => RW Y false s x ds
  | _ => RW Y true s x ds
def RLs (Y : RX) (t : Lv) (s : Sh) (l : List (El s)) (d : DV) : Prop := match t with
  | .no => RSl (RE s) s.size l d
  | .top => RWs Y (RE s) (RE s) s.size l d
  | _ => RYs Y (RP Y true s) s.size l d

structure Over (X Y : RX) (h : SH) (dh : Hp) (js : List Nat) : Prop where
  z : ∀ i k, X.z i = some k → Y.z i = some k
  own : ∀ j, j ∈ js → ∀ fz z c i m, h.R[j]? = some (.live fz z c) → (X.R j).1 = some (i, m) → Y.z i = dh.R[i]?
theorem Over.sub {X Y : RX} {h : SH} {dh : Hp} {js is : List Nat} (o : Over X Y h dh js) (hs : ∀ j ∈ is, j ∈ js) : Over X Y h dh is := ⟨o.z, fun j hj => o.own j (hs j hj)⟩

def ow (t : Lv) (cs : List SV) : List Nat := match t with
  | .no => []
  | _ => u0m cs
theorem mapM_rows {α β : Type} {f : α → Option β} {P : α → List DV → Prop} {Q : β → List DV → Prop} (hf : ∀ a b r, f a = some b → P a r → Q b r) :
    ∀ {rs : List α} {rows : List (List DV)} {l : List β}, rs.mapM f = some l → RRows P rs rows → RRows Q l rows
  | [], [], l, h, _ => by simp at h; subst h; trivial
  | a :: rs, r :: rows, l, h, k => by
    simp only [List.mapM_cons, Option.pure_def, Option.bind_eq_bind, Option.bind_eq_some_iff] at h
    obtain ⟨b, h1, l', h2, h3⟩ := h
    cases h3
    exact ⟨hf a b r h1 k.1, mapM_rows hf h2 k.2⟩

theorem slL_ok {X Y : RX} {h : SH} {dh : Hp} (I : Inv X h dh) {t : Lv} (ht : t ≠ .all) {s : Sh} {row : List SV → Option (El s)} (hrow : ∀ cs x r, row cs = some x → RVs X cs r → RE s x r) {c : SV} {d : DV} {l : List (El s)}
    (o : Over X Y h dh (ow t [c])) (hl : slL t h s row c = some l) (k : RV X c d) : RLs Y t s l d := by
  have nilok : d = .nils → l = [] → RLs Y t s l d := by
    intro h h'
    cases t with
    | no => exact .inl ⟨h, h'⟩
    | top => exact .inl (.inl ⟨h, h'⟩)
    | deep => exact .inl ⟨h, h'⟩
    | all => exact absurd rfl ht
  cases c with
  | nil => simp only [slL, Option.some.injEq] at hl; subst hl; simp only [RV] at k; subst k; exact nilok rfl rfl
  | lst s' l' =>
    cases t with
    | no =>
      simp only [slL] at hl
      obtain ⟨rfl, rfl⟩ := u1i hl
      exact k
    | top =>
      simp only [slL] at hl
      obtain ⟨rfl, rfl⟩ := u1i hl
      exact .inl k
    | deep => simp [slL] at hl
    | all => exact absurd rfl ht
  | vw v s' l' =>
    simp only [slL] at hl
    split at hl
    · rename_i hv
      obtain ⟨rfl, rfl⟩ := u1i hl
      simp only [RV] at k
      cases t with
      | no => simp [Lv.letsV, Lv.lets] at hv
      | top =>
        cases v with
        | true =>
          simp only [Lv.letsV, Bool.not_true, Bool.false_or] at hv
          exact RWs.mono o.z (fun x r k => (RP_bare hv).1 k) k.toW
        | false => exact RWs.mono o.z (fun x r k => k) k
      | deep =>
        cases v with
        | true => exact RYs.mono o.z (fun x r k => RP.mono o.z k) k
        | false => simp [Lv.letsV, Lv.lets] at hv
      | all => exact absurd rfl ht
    · cases hl
  | own j =>
    cases t with
    | no => simp [slL] at hl
    | all => exact absurd rfl ht
    | top | deep =>
      all_goals
        have hj : j ∈ u0m [SV.own j] := by simp [u0m]
        simp only [ow] at o
        simp only [slL] at hl
        simp only [RV] at k
        split at hl
        · rename_i fz z v s' l' hR
          split at hl
          · rename_i hv
            obtain ⟨rfl, rfl⟩ := u1i hl
            have R := I.row _ _ _ _ hR
            unfold RowOk at R
            obtain ⟨r1, r2⟩ := R
            simp only [RC.len] at r1
            cases e : (X.R j).1 with
            | none =>
              rw [e] at k
              have : l' = [] := List.eq_nil_of_length_eq_zero (by rw [r1]; exact k.2.2)
              subst this
              exact nilok k.2.1 rfl
            | some q =>
              obtain ⟨i, m⟩ := q
              rw [e] at r2 k
              obtain ⟨b, b1, b2, b3, b4, ⟨b5, b6⟩, _⟩ := r2
              have hz := o.own j hj _ _ _ i m hR e
              rw [b1] at hz
              refine .inr ⟨i, m, 0, b, by rw [k.2, r1], hz, b2, by rw [b3, b5], by simpa [RC.len] using b4, ?_⟩
              simp only [List.drop_zero]
              simp only [RC.len] at b6
              refine b6.mono fun x r q => ?_
              cases v with
              | false => first | exact q | (simp only [Lv.letsO, Bool.false_or] at hv; exact RE.toP hv q)
              | true => first | exact RP.mono o.z q | (simp only [Lv.letsO, Bool.not_true, Bool.false_or] at hv; exact (RP_bare hv).1 q)
          · cases hl
        · rename_i fz z rows hR
          split at hl
          case isFalse => cases hl
          rename_i hzs
          obtain ⟨hzs, hbare⟩ := hzs
          have R := I.row _ _ _ _ hR
          unfold RowOk at R
          obtain ⟨r1, r2⟩ := R
          simp only [RC.len] at r1
          cases e : (X.R j).1 with
          | none =>
            rw [e] at k
            have : rows = [] := List.eq_nil_of_length_eq_zero (by rw [r1]; exact k.2.2)
            subst this
            simp at hl
            subst hl
            exact nilok k.2.1 rfl
          | some q =>
            obtain ⟨i, m⟩ := q
            rw [e] at r2 k
            obtain ⟨b, b1, b2, b3, b4, b5, _⟩ := r2
            have hz := o.own j hj _ _ _ i m hR e
            rw [b1] at hz
            have hq := mapM_rows (Q := RE s) (fun a b r e k => hrow a b r e k.2) hl b5
            have hlen : l.length = (X.R j).2 := by
              rw [hq.length, List.length_take, Nat.min_eq_left b4, ← r1]; rfl
            refine .inr ⟨i, m, 0, b, by rw [k.2, hlen], hz, b2, ?_, by rw [hlen, ← r1]; simpa [RC.len] using b4, ?_⟩
            · rw [b3, hzs]
            · simp only [List.drop_zero]
              rw [hlen, ← r1]
              refine hq.mono fun x r q => ?_
              first | exact q | exact RE.toP (hbare trivial) q | exact RE.toP (hbare rfl) q
        · cases hl
  | _ => simp [slL] at hl

theorem u1c : ∀ (a b : List SV), u0m (a ++ b) = u0m a ++ u0m b
  | [], b => rfl
  | v :: a, b => by cases v <;> simp [u0m, u1c a b]
theorem ow_append (t : Lv) (a b : List SV) : ∀ j ∈ ow t b, j ∈ ow t (a ++ b) := by
  intro j hj
  cases t <;> first
    | exact hj
    | (simp only [ow, u1c] at hj ⊢; exact List.mem_append_right _ hj)
theorem ow_head (t : Lv) (c : SV) (r : List SV) : ∀ j ∈ ow t [c], j ∈ ow t (c :: r) := by
  intro j hj
  rw [show c :: r = [c] ++ r from rfl]
  cases t <;> first
    | exact hj
    | (simp only [ow, u1c] at hj ⊢; exact List.mem_append_left _ hj)

theorem u4H {X Y : RX} {h : SH} {dh : Hp} (I : Inv X h dh) : ∀ {t : Lv} (ht : t ≠ .all) {s : Sh} {cs : List SV} {D : List DV} {x : El s} {r : List SV},
    Over X Y h dh (ow t cs) → decE t h s cs = some (x, r) → RVs X cs D → ∃ us ds dr, cs = us ++ r ∧ D = ds ++ dr ∧ RL Y t s x ds ∧ RVs X r dr := by
  intro t ht s cs D x r
  have one : ∀ {v : SV} {r : List SV} {D : List DV}, RVs X (v :: r) D → ∃ d dr, D = d :: dr ∧ RV X v d ∧ RVs X r dr := by
    intro v r D h
    cases D with
    | nil => simp [RVs] at h
    | cons d dr => simp only [RVs] at h; exact ⟨d, dr, rfl, h.1, h.2⟩
  have simple : ∀ {t : Lv} {s : Sh} {x : El s} {d : DV}, s.bare = true → RE s x [d] → RL Y t s x [d] := by
    intro t s x d hb h
    cases t with
    | no => exact h
    | top => exact h.toW
    | deep => exact (u49 hb).2 h
    | all => exact (u49 hb).2 h
  induction s generalizing t cs D r with
  | int k =>
    intro o h hk
    cases cs with
    | nil => simp [decE] at h
    | cons v r' =>
      obtain ⟨d, dr, rfl, k1, k2⟩ := one hk
      cases v <;> simp only [decE, reduceCtorEq] at h
      split at h
      · rename_i e; subst e; cases h
        simp only [RV] at k1; subst k1
        exact ⟨[_], [_], dr, rfl, rfl, simple rfl rfl, k2⟩
      · cases h
  | bool =>
    intro o h hk
    cases cs with
    | nil => simp [decE] at h
    | cons v r' =>
      obtain ⟨d, dr, rfl, k1, k2⟩ := one hk
      cases v <;> simp only [decE, reduceCtorEq] at h <;> cases h <;> simp only [RV] at k1 <;> subst k1 <;> exact ⟨[_], [_], dr, rfl, rfl, simple rfl rfl, k2⟩
  | str =>
    intro o h hk
    cases cs with
    | nil => simp [decE] at h
    | cons v r' =>
      obtain ⟨d, dr, rfl, k1, k2⟩ := one hk
      cases v <;> simp only [decE, reduceCtorEq] at h
      cases h
      simp only [RV] at k1; subst k1
      exact ⟨[_], [_], dr, rfl, rfl, simple rfl rfl, k2⟩
  | list s ih =>
    intro o h hk
    cases cs with
    | nil => simp [decE] at h
    | cons v r' =>
      obtain ⟨d, dr, rfl, k1, k2⟩ := one hk
      simp only [decE] at h
      split at h
      · rename_i l hl
        cases h
        have hu : t.under = .no := by cases t <;> first | rfl | exact absurd rfl ht
        have q := slL_ok I ht (fun cs x r e k => by
          rw [hu] at e
          split at e
          · rename_i x' e'
            cases e
            obtain ⟨us, ds, dr, g1, g2, g3, g4⟩ := ih (t := .no) (by simp) ⟨o.z, fun j hj => (nomatch hj)⟩ e' k
            cases dr with
            | nil => subst g2; rw [List.append_nil]; exact g3
            | cons _ _ => simp [RVs] at g4
          · cases e) (o.sub (ow_head t v _)) hl k1
        refine ⟨[v], [d], dr, rfl, rfl, ?_, k2⟩
        cases t with
        | no => exact ⟨d, rfl, q⟩
        | top => exact ⟨d, rfl, q⟩
        | deep => exact ⟨d, rfl, q⟩
        | all => exact absurd rfl ht
      · cases h
  | pair a b iha ihb =>
    intro o h hk
    simp only [decE] at h
    split at h
    · rename_i x' r' ha
      split at h
      · rename_i y' r'' hb
        cases h
        obtain ⟨u1, d1, dr1, e1, e2, q1, q2⟩ := iha ht o ha hk
        subst e1 e2
        obtain ⟨u2, d2, dr2, e3, e4, q3, q4⟩ := ihb ht (o.sub (ow_append t u1 _)) hb q2
        subst e3 e4
        refine ⟨u1 ++ u2, d1 ++ d2, dr2, by simp, by simp, ?_, q4⟩
        cases t with
        | no => exact ⟨d1, d2, rfl, q1, q3⟩
        | top => exact ⟨d1, d2, rfl, q1, q3⟩
        | deep => exact ⟨d1, d2, rfl, q1, q3⟩
        | all => exact ⟨d1, d2, rfl, q1, q3⟩
      · cases h
    · cases h
  | tree a iha =>
    intro o h hk
    simp only [decE] at h
    split at h
    · rename_i x' c r' ha
      split at h
      · rename_i l hl
        cases h
        obtain ⟨u1, d1, dr1, e1, e2, q1, q2⟩ := iha ht o ha hk
        subst e1 e2
        obtain ⟨d, dr, rfl, k1, k2⟩ := one q2
        have hu : t.under = .no := by cases t <;> first | rfl | exact absurd rfl ht
        have hk' : t.kid ≠ .all := by cases t <;> first | exact absurd rfl ht | simp [Lv.kid]
        have q := slL_ok (s := .tree a) I hk' (fun cs x r e k => by
          split at e
          · rename_i x' e'
            cases e
            obtain ⟨us, ds, dr, g1, g2, g3, g4⟩ := iha (t := .no) (by simp) ⟨o.z, fun j hj => (nomatch hj)⟩ e' k
            obtain ⟨d, dr', rfl, g5, g6⟩ := one g4
            cases dr' with
            | nil => subst g2; simp only [RV] at g5; subst g5; exact u3e.2 ⟨ds, _, rfl, g3, .inl ⟨rfl, rfl⟩⟩
            | cons _ _ => simp [RVs] at g6
          · rename_i x' s' l' e'
            rw [Option.map_eq_some_iff] at e
            obtain ⟨l2, e2, rfl⟩ := e
            obtain ⟨rfl, rfl⟩ := u1i e2
            obtain ⟨us, ds, dr, g1, g2, g3, g4⟩ := iha (t := .no) (by simp) ⟨o.z, fun j hj => (nomatch hj)⟩ e' k
            obtain ⟨d, dr', rfl, g5, g6⟩ := one g4
            cases dr' with
            | nil => subst g2; simp only [RV] at g5; exact u3e.2 ⟨ds, _, rfl, g3, g5⟩
            | cons _ _ => simp [RVs] at g6
          · cases e) (o.sub fun j hj => ow_append t u1 _ j (ow_head t c _ j (by cases t <;> exact hj))) hl k1
        refine ⟨u1 ++ [c], d1 ++ [d], dr, by simp, by simp, ?_, k2⟩
        cases t with
        | no => exact u3e.2 ⟨d1, d, rfl, q1, q⟩
        | top => exact ⟨d1, d, rfl, q1, q⟩
        | deep =>
          exact ⟨d1, d, rfl, q1, q⟩
        | all => exact absurd rfl ht
      · cases h
    · cases h
  | uno a iha => exact iha ht
  | mark a iha => intro o h hk; simp [decE] at h

theorem treeRow {X : RX} {h : SH} {dh : Hp} (I : Inv X h dh) {a : Sh} {cs : List SV} {x : Rose (El a)} {r : List DV}
    (e : (match decE .no h a cs with
        | some (x, [.nil]) => some (Rose.mk x [])
        | some (x, [.lst s' l]) => (castL (s := .tree a) l).map (.mk x)
        | _ => none) = some x) (k : RVs X cs r) : RE (.tree a) x r := by
  split at e
  · rename_i x' e'
    cases e
    obtain ⟨us, ds, dr, g1, g2, g3, g4⟩ := u4H (Y := X) I (t := .no) (by simp) ⟨fun _ _ e => e, fun j hj => (nomatch hj)⟩ e' k
    cases dr with
    | nil => simp [RVs] at g4
    | cons d dr' =>
      simp only [RVs] at g4
      obtain ⟨g5, g6⟩ := g4
      cases dr' with
      | nil => subst g2; simp only [RV] at g5; subst g5; exact u3e.2 ⟨ds, _, rfl, g3, .inl ⟨rfl, rfl⟩⟩
      | cons _ _ => simp [RVs] at g6
  · rename_i x' s' l' e'
    rw [Option.map_eq_some_iff] at e
    obtain ⟨l2, e2, rfl⟩ := e
    obtain ⟨rfl, rfl⟩ := u1i e2
    obtain ⟨us, ds, dr, g1, g2, g3, g4⟩ := u4H (Y := X) I (t := .no) (by simp) ⟨fun _ _ e => e, fun j hj => (nomatch hj)⟩ e' k
    cases dr with
    | nil => simp [RVs] at g4
    | cons d dr' =>
      simp only [RVs] at g4
      obtain ⟨g5, g6⟩ := g4
      cases dr' with
      | nil => subst g2; simp only [RV] at g5; exact u3e.2 ⟨ds, _, rfl, g3, g5⟩
      | cons _ _ => simp [RVs] at g6
  · cases e

def Sh.depth : Sh → Nat
  | .list s => s.depth + 1
  | .pair a b => max a.depth b.depth
  | .tree a => a.depth + 1
  | .uno a => a.depth
  | .mark a => a.depth
  | _ => 0
theorem u5p {dh : Hp} {n : Nat} {d : DV} (h : d.still1 = true) : res dh n d = d ∧ u0e dh n d = true := by
  cases n with
  | zero => simp [res, u0e, h]
  | succ n => cases d <;> first | exact ⟨rfl, rfl⟩ | simp [DV.still1] at h
theorem u6N {dh : Hp} {n : Nat} : ∀ {ds : List DV}, (∀ d ∈ ds, d.still1 = true) → ds.map (res dh n) = ds ∧ ds.all (u0e dh n) = true
  | [], _ => ⟨rfl, rfl⟩
  | d :: ds, h => by
    have h1 := u5p (dh := dh) (n := n) (h d List.mem_cons_self)
    have h2 := u6N (dh := dh) (n := n) fun d' hd => h d' (List.mem_cons_of_mem _ hd)
    simp [h1.1, h1.2, h2.1, List.all_eq_true.1 h2.2]
    exact List.all_eq_true.1 h2.2
theorem RE.res {dh : Hp} {n : Nat} {s : Sh} {x : El s} {ds : List DV} (h : RE s x ds) : ds.map (res dh n) = ds ∧ ds.all (u0e dh n) = true :=
  u6N fun d hd => (h.still d hd).1
theorem RSl.res {α : Type} {P : α → List DV → Prop} {z : Nat} {l : List α} {d : DV} {dh : Hp} {n : Nat} (h : RSl P z l d) : res dh n d = d ∧ u0e dh n d = true := u5p h.still.1
theorem u0x {dh : Hp} {i m : Nat} {k : Blk} (h : dh.R[i]? = some k) (hm : k.s = m) : dh.blk true i m = some k := by
  unfold Hp.blk Hp.heap
  simp only [if_true, h, hm]
theorem u4a {α : Type} {X : RX} {dh : Hp} (hz : ∀ i k, X.z i = some k → dh.R[i]? = some k) {n : Nat} {E P : α → List DV → Prop} {z : Nat} {l : List α} {d : DV} (h : RWs X E P z l d)
    (hp : ∀ x r, P x r → E x (r.map (res dh n)) ∧ r.all (u0e dh n) = true) : RSl E z l (res dh (n + 1) d) ∧ u0e dh (n + 1) d = true := by
  rcases h with h | ⟨i, m, off, k, h1, h2, h3, h4, h5, h6⟩
  · rw [(h.res).1]; exact ⟨h, h.res.2⟩
  · subst h1
    have hb := u0x (hz _ _ h2) h3
    simp only [Go.Dv.res, hb, if_pos h5, u0e, Bool.and_eq_true, decide_eq_true_eq]
    refine ⟨.inr ⟨_, by rw [h4], ?_⟩, h5, ?_⟩
    · exact RRows.imp (β := α) (fun r => r.map (Go.Dv.res dh n)) (fun x r k => (hp x r k).1) h6
    · rw [List.all_eq_true]
      intro r hr
      obtain ⟨q, hq⟩ := List.getElem?_of_mem hr
      have : ∀ {l : List α} {rows : List (List DV)} {q : Nat} {r : List DV}, RRows P l rows → rows[q]? = some r → ∃ x, P x r := by
        intro l
        induction l with
        | nil => intro rows q r h e; cases rows with
          | nil => simp at e
          | cons _ _ => exact h.elim
        | cons x l ih => intro rows q r h e; cases rows with
          | nil => simp at e
          | cons r' rows => cases q with
            | zero => simp at e; subst e; exact ⟨x, h.1⟩
            | succ q => exact ih h.2 (by simpa using e)
      obtain ⟨x, hx⟩ := this h6 hq
      exact (hp x r hx).2
theorem RW.res {X : RX} {dh : Hp} (hz : ∀ i k, X.z i = some k → dh.R[i]? = some k) : ∀ {n : Nat} {s : Sh} {v : Bool} {x : El s} {ds : List DV}, s.depth ≤ n → RW X v s x ds → RE s x (ds.map (res dh n)) ∧ ds.all (u0e dh n) = true
  | n, .int k, _, x, ds, _, h => by
    have h' : RE (.int k) x ds := h
    exact ⟨by rw [h'.res.1]; exact h', h'.res.2⟩
  | n, .bool, _, x, ds, _, h => by
    have h' : RE .bool x ds := h
    exact ⟨by rw [h'.res.1]; exact h', h'.res.2⟩
  | n, .str, _, x, ds, _, h => by
    have h' : RE .str x ds := h
    exact ⟨by rw [h'.res.1]; exact h', h'.res.2⟩
  | n, .list s, v, l, _, hn, h => by
    obtain ⟨d, rfl, h⟩ := h
    cases n with
    | zero => simp [Sh.depth] at hn
    | succ n =>
      simp only [Sh.depth, Nat.add_le_add_iff_right] at hn
      cases v with
      | true =>
        have := u4a hz (n := n) (E := RE s) (RYs.toW h) (fun x r k => RW.res hz hn k)
        exact ⟨⟨_, rfl, this.1⟩, by simpa using this.2⟩
      | false =>
        have := u4a hz (n := n) h (fun x r k => ⟨by rw [k.res.1]; exact k, k.res.2⟩)
        exact ⟨⟨_, rfl, this.1⟩, by simpa using this.2⟩
  | n, .pair a b, _, x, _, hn, h => by
    obtain ⟨d1, d2, rfl, h1, h2⟩ := h
    simp only [Sh.depth] at hn
    have q1 := RW.res hz (n := n) (by omega) h1
    have q2 := RW.res hz (n := n) (by omega) h2
    exact ⟨⟨_, _, by simp, q1.1, q2.1⟩, by simp [List.all_append, q1.2, q2.2]⟩
  | n, .tree a, _, x, _, hn, h => by
    obtain ⟨d1, d, rfl, h1, h2⟩ := h
    simp only [Sh.depth] at hn
    have q1 := RW.res hz (n := n) (by omega) h1
    cases n with
    | zero => omega
    | succ n =>
      have q2 := u4a hz (n := n) h2 (fun x r k => ⟨by rw [k.res.1]; exact k, k.res.2⟩)
      exact ⟨u3e.2 ⟨_, _, by simp, q1.1, q2.1⟩, by simp [List.all_append, q1.2, q2.2]⟩
  | n, .uno a, _, x, _, hn, h => RW.res (s := a) hz (n := n) hn h
  | n, .mark a, v, x, ds, hn, h => by
    obtain ⟨b, x⟩ := x
    have fr : RE a x ds → RE (.mark a) (b, x) (ds.map (Go.Dv.res dh n)) ∧ ds.all (u0e dh n) = true := fun h => by
      have h' : RE (.mark a) (b, x) ds := h
      exact ⟨by rw [h'.res.1]; exact h', h'.res.2⟩
    cases v <;> cases b <;> first
      | exact fr h
      | exact RW.res (s := a) hz (n := n) hn h

theorem u0A {X : RX} {v : SV} {r : List SV} {D : List DV} (h : RVs X (v :: r) D) : ∃ d dr, D = d :: dr ∧ RV X v d ∧ RVs X r dr := by
  cases D with
  | nil => simp [RVs] at h
  | cons d dr => simp only [RVs] at h; exact ⟨d, dr, rfl, h.1, h.2⟩
theorem rows_all {dh : Hp} {n : Nat} {α β : Type} {f : α → Option β} {P : α → List DV → Prop} {E : β → List DV → Prop} (hf : ∀ a b r, f a = some b → P a r → E b (r.map (res dh n)) ∧ r.all (u0e dh n) = true) :
    ∀ {rs : List α} {rows : List (List DV)} {l : List β}, rs.mapM f = some l → RRows P rs rows → RRows E l (rows.map fun r => r.map (res dh n)) ∧ (rows.all fun r => r.all (u0e dh n)) = true
  | [], [], l, h, _ => by simp at h; subst h; exact ⟨trivial, rfl⟩
  | a :: rs, r :: rows, l, h, k => by
    simp only [List.mapM_cons, Option.pure_def, Option.bind_eq_bind, Option.bind_eq_some_iff] at h
    obtain ⟨b, h1, l', h2, h3⟩ := h
    cases h3
    have q := hf a b r h1 k.1
    have q2 := rows_all hf h2 k.2
    exact ⟨⟨q.1, q2.1⟩, by simp only [List.all_cons, q.2, q2.2, Bool.and_self]⟩
theorem slL_res {X : RX} {h : SH} {dh : Hp} (I : Inv X h dh) {n : Nat} {s : Sh} (hn : s.depth ≤ n) {row : List SV → Option (El s)}
    (hrow : ∀ cs x r, row cs = some x → RVs X cs r → RE s x (r.map (res dh n)) ∧ r.all (u0e dh n) = true) {c : SV} {d : DV} {l : List (El s)}
    (hl : slL .all h s row c = some l) (k : RV X c d) : RSl (RE s) s.size l (res dh (n + 1) d) ∧ u0e dh (n + 1) d = true := by
  cases c with
  | nil => simp only [slL, Option.some.injEq] at hl; subst hl; simp only [RV] at k; subst k; exact ⟨.inl ⟨rfl, rfl⟩, rfl⟩
  | lst s' l' =>
    simp only [slL] at hl
    obtain ⟨rfl, rfl⟩ := u1i hl
    simp only [RV] at k
    rw [k.res.1]; exact ⟨k, k.res.2⟩
  | vw v s' l' =>
    simp only [slL, Lv.letsV, Lv.lets, if_true] at hl
    obtain ⟨rfl, rfl⟩ := u1i hl
    simp only [RV] at k
    exact u4a I.z k.toW fun x r k => by
      cases v with
      | true => exact RW.res I.z hn k
      | false => exact ⟨by rw [RE.res k |>.1]; exact k, (RE.res k).2⟩
  | own j =>
    simp only [slL] at hl
    simp only [RV] at k
    split at hl
    · rename_i fz z v s' l' hR
      simp only [Lv.letsO, Lv.lets, if_true] at hl
      obtain ⟨rfl, rfl⟩ := u1i hl
      have R := I.row _ _ _ _ hR
      unfold RowOk at R
      obtain ⟨r1, r2⟩ := R
      simp only [RC.len] at r1
      cases e : (X.R j).1 with
      | none =>
        rw [e] at k
        have : l' = [] := List.eq_nil_of_length_eq_zero (by rw [r1]; exact k.2.2)
        subst this
        rw [k.2.1]
        exact ⟨.inl ⟨rfl, rfl⟩, rfl⟩
      | some q =>
        obtain ⟨i, m⟩ := q
        rw [e] at r2 k
        obtain ⟨b, b1, b2, b3, b4, ⟨b5, b6⟩, _⟩ := r2
        simp only [RC.len] at b4 b6
        -- as if it were a view
        exact u4a (X := { X with z := fun q => dh.R[q]? }) (E := RE s') (P := RP X v s') (l := l') (z := s'.size) (d := d) (fun _ _ e => e) (.inr ⟨i, m, 0, b, by rw [k.2, r1], b1, b2, by rw [b3, b5], by simpa using b4, by simpa using b6⟩) fun x r k => by
          cases v with
          | true => exact RW.res I.z hn k
          | false => exact ⟨by rw [RE.res k |>.1]; exact k, (RE.res k).2⟩
    · rename_i fz z rows hR
      split at hl
      case isFalse => cases hl
      rename_i hzs
      obtain ⟨hzs, _⟩ := hzs
      have R := I.row _ _ _ _ hR
      unfold RowOk at R
      obtain ⟨r1, r2⟩ := R
      simp only [RC.len] at r1
      cases e : (X.R j).1 with
      | none =>
        rw [e] at k
        have : rows = [] := List.eq_nil_of_length_eq_zero (by rw [r1]; exact k.2.2)
        subst this
        simp at hl
        subst hl
        rw [k.2.1]
        exact ⟨.inl ⟨rfl, rfl⟩, rfl⟩
      | some q =>
        obtain ⟨i, m⟩ := q
        rw [e] at r2 k
        obtain ⟨b, b1, b2, b3, b4, b5, _⟩ := r2
        have hq := rows_all (E := RE s) (fun a b r e k => hrow a b r e k.2) hl b5
        have hb := u0x b1 b2
        have hlen : (X.R j).2 ≤ b.xs.length := by rw [← r1]; exact b4
        have hc : (RC.raw rows).len = (X.R j).2 := r1
        rw [k.2]
        simp only [Go.Dv.res, hb, if_pos (show 0 + (X.R j).2 ≤ b.xs.length by omega), u0e, Bool.and_eq_true, decide_eq_true_eq, List.drop_zero]
        rw [hc] at hq
        exact ⟨.inr ⟨_, by rw [b3, hzs], hq.1⟩, by omega, hq.2⟩
    · cases hl
  | _ => simp [slL] at hl

theorem decE_res {X : RX} {h : SH} {dh : Hp} (I : Inv X h dh) : ∀ {n : Nat} {s : Sh} (hn : s.depth ≤ n) {cs : List SV} {D : List DV} {x : El s} {r : List SV},
    decE .all h s cs = some (x, r) → RVs X cs D → ∃ us ds dr, cs = us ++ r ∧ D = ds ++ dr ∧ (RE s x (ds.map (res dh n)) ∧ ds.all (u0e dh n) = true) ∧ RVs X r dr := by
  intro n s
  induction s generalizing n with
  | int k =>
    intro hn cs D x r h hk
    cases cs with
    | nil => simp [decE] at h
    | cons v r' =>
      obtain ⟨d, dr, rfl, k1, k2⟩ := u0A hk
      cases v <;> simp only [decE, reduceCtorEq] at h
      split at h
      · rename_i e; subst e; cases h
        simp only [RV] at k1; subst k1
        have h' : RE (.int k) x [.int k x] := rfl
        exact ⟨[_], [_], dr, rfl, rfl, ⟨by rw [h'.res.1]; exact h', h'.res.2⟩, k2⟩
      · cases h
  | bool =>
    intro hn cs D x r h hk
    cases cs with
    | nil => simp [decE] at h
    | cons v r' =>
      obtain ⟨d, dr, rfl, k1, k2⟩ := u0A hk
      have fin : ∀ b, ∃ us ds dr', SV.bool b :: r' = us ++ r' ∧ DV.bool b :: dr = ds ++ dr' ∧ (RE .bool b (ds.map (res dh n)) ∧ ds.all (u0e dh n) = true) ∧ RVs X r' dr' := by
        intro b
        have h' : RE .bool b [.bool b] := rfl
        exact ⟨[_], [_], dr, rfl, rfl, ⟨by rw [h'.res.1]; exact h', h'.res.2⟩, k2⟩
      cases v <;> simp only [decE, reduceCtorEq] at h <;> cases h <;> simp only [RV] at k1 <;> subst k1
      · obtain ⟨_, ds, dr', _, e2, e3, e4⟩ := fin true
        exact ⟨[_], ds, dr', rfl, e2, e3, e4⟩
      · obtain ⟨_, ds, dr', _, e2, e3, e4⟩ := fin false
        exact ⟨[_], ds, dr', rfl, e2, e3, e4⟩
      · obtain ⟨_, ds, dr', _, e2, e3, e4⟩ := fin x
        exact ⟨[_], ds, dr', rfl, e2, e3, e4⟩
  | str =>
    intro hn cs D x r h hk
    cases cs with
    | nil => simp [decE] at h
    | cons v r' =>
      obtain ⟨d, dr, rfl, k1, k2⟩ := u0A hk
      cases v <;> simp only [decE, reduceCtorEq] at h
      cases h
      simp only [RV] at k1; subst k1
      have h' : RE .str x [.str x] := rfl
      exact ⟨[_], [_], dr, rfl, rfl, ⟨by rw [h'.res.1]; exact h', h'.res.2⟩, k2⟩
  | list s ih =>
    intro hn cs D x r h hk
    cases cs with
    | nil => simp [decE] at h
    | cons v r' =>
      obtain ⟨d, dr, rfl, k1, k2⟩ := u0A hk
      simp only [decE] at h
      split at h
      · rename_i l hl
        cases h
        cases n with
        | zero => simp [Sh.depth] at hn
        | succ n =>
          simp only [Sh.depth, Nat.add_le_add_iff_right] at hn
          have q := slL_res I hn (fun cs x r e k => by
            simp only [Lv.under] at e
            split at e
            · rename_i x' e'
              cases e
              obtain ⟨us, ds, dr, g1, g2, g3, g4⟩ := ih hn e' k
              cases dr with
              | nil => subst g2; rw [List.append_nil]; exact g3
              | cons _ _ => simp [RVs] at g4
            · cases e) hl k1
          exact ⟨[v], [d], dr, rfl, rfl, ⟨⟨_, rfl, q.1⟩, by simpa using q.2⟩, k2⟩
      · cases h
  | pair a b iha ihb =>
    intro hn cs D x r h hk
    simp only [Sh.depth] at hn
    simp only [decE] at h
    split at h
    · rename_i x' r' ha
      split at h
      · rename_i y' r'' hb
        cases h
        obtain ⟨u1, d1, dr1, e1, e2, q1, q2⟩ := iha (n := n) (by omega) ha hk
        subst e1 e2
        obtain ⟨u2, d2, dr2, e3, e4, q3, q4⟩ := ihb (n := n) (by omega) hb q2
        subst e3 e4
        exact ⟨u1 ++ u2, d1 ++ d2, dr2, by simp, by simp, ⟨⟨_, _, by simp, q1.1, q3.1⟩, by simp [List.all_append, q1.2, q3.2]⟩, q4⟩
      · cases h
    · cases h
  | tree a iha =>
    intro hn cs D x r h hk
    simp only [Sh.depth] at hn
    simp only [decE] at h
    split at h
    · rename_i x' c r' ha
      split at h
      · rename_i l hl
        cases h
        obtain ⟨u1, d1, dr1, e1, e2, q1, q2⟩ := iha (n := n) (by omega) ha hk
        subst e1 e2
        obtain ⟨d, dr, rfl, k1, k2⟩ := u0A q2
        cases n with
        | zero => omega
        | succ n =>
          simp only [Lv.kid] at hl
          have q0 := slL_ok (Y := { X with z := fun q => dh.R[q]? }) (s := .tree a) (t := .top) I (by simp) (fun cs x r e k => treeRow I e k) ⟨I.z, fun j _ fz z c i m e1 e2 => rfl⟩ hl k1
          have q := u4a (dh := dh) (n := n) (fun _ _ e => e) q0 (fun x r k => ⟨by rw [k.res.1]; exact k, k.res.2⟩)
          exact ⟨u1 ++ [c], d1 ++ [d], dr, by simp, by simp, ⟨u3e.2 ⟨_, _, by simp, q1.1, q.1⟩, by simp [List.all_append, q1.2]; exact q.2⟩, k2⟩
      · cases h
    · cases h
  | uno a iha => exact fun hn cs D x r h hk => iha (n := n) hn h hk
  | mark a iha => intro hn cs D x r h hk; simp [decE] at h

end Go.Dv
