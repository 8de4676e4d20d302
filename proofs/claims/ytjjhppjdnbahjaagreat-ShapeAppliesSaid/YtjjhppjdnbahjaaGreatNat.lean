/- The functions that the laws reach, each over lists, numbers and pairs: printed by a tool out of the told code (seat.py), joined to the code in the text Code. -/
import Derived.Test.YtjjhppjdnbahjaaGreatDvI
set_option linter.unusedVariables false
set_option linter.unusedSimpArgs false
set_option maxRecDepth 100000
open Go (IntKind)
namespace Go.Dv
noncomputable section
abbrev sI : Sh := .int .i64
abbrev u05 : Sh := (.pair sI sI)
abbrev Stamp : Type := Int × Int
abbrev sNode : Sh := (.pair u05 (.pair u05 .str))
abbrev Node : Type := Stamp × Stamp × ByteArray
abbrev sOp : Sh := (.pair u05 (.pair sI (.pair (.list sI) (.pair sI (.pair u05 (.pair u05 (.pair .str u05)))))))
abbrev Op : Type := Stamp × Int × (List Int) × Int × Stamp × Stamp × ByteArray × Stamp
abbrev u0d : Sh := (.pair sOp (.pair .bool (.pair u05 (.pair .str .bool))))
abbrev Entry : Type := Op × Bool × Stamp × ByteArray × Bool
abbrev sTree : Sh := (.pair (.list sNode) (.list u0d))
abbrev Tree : Type := (List Node) × List Entry
abbrev sReg : Sh := (.pair sI (.pair sI u05))
abbrev Reg : Type := Int × Int × Stamp
abbrev sLook : Sh := (.pair u05 (.list sReg))
abbrev Look : Type := Stamp × List Reg
abbrev sShape : Sh := (.pair sTree (.list sLook))
abbrev Shape : Type := Tree × List Look
abbrev u0v : Sh := (.pair sShape (.pair (.list sOp) (.list u05)))
abbrev u0U : Type := Shape × (List Op) × List Stamp
abbrev u2G : Sh := (.pair sI (.pair sI (.pair sI .bool)))
abbrev rule_prop : Type := Int × Int × Int × Bool
def u2n (x : List Int) : Option Int :=
  (iter (σ := (Int × ((List Int) × (Int × Int)))) (ρ := (Int ⊕ Int)) (fun s =>
      bif (decide ((s.2.2.2 < s.2.2.1))) then (((getI s.2.1 s.2.2.2)).bind fun x1 =>
        bif (x1 != s.1) then some (.inr (.inr x1)) else
        some (.inl (s.1, (s.2.1, (s.2.2.1, (IntKind.wrap .i64 (s.2.2.2 + 1))))))) else
      some (.inr (.inl s.1))) ((0 : Int), (x, (((List.length x) : Int), (0 : Int))))).bind fun x1 =>
  (match x1 with
  | .inl y => some y
  | .inr y => some y)
def cmp_isNaN_int (x : Int) : Bool :=
  (x != x)
def u0r (x : Int × Int) : Int :=
  bif (cmp_isNaN_int x.1) then (bif (cmp_isNaN_int x.2) then (0 : Int) else
    ((-1) : Int)) else
  bif (cmp_isNaN_int x.2) then (1 : Int) else
  bif (decide ((x.1 < x.2))) then ((-1) : Int) else
  bif (decide ((x.2 < x.1))) then (1 : Int) else
  (0 : Int)
def u1G (x : Stamp × Stamp) : Option Int :=
  ((u2n [(u0r (x.1.1, x.2.1)), (u0r (x.1.2, x.2.2))])).bind fun x1 =>
  some x1
def u1Q (x : ByteArray × ByteArray) : Int :=
  (cmpStr x.1 x.2)
def u0J (x : Node × Node) : Option Int :=
  ((u1G (x.1.1, x.2.1))).bind fun x1 =>
  ((u2n [(u1Q (x.1.2.2, x.2.2.2)), x1])).bind fun x2 =>
  some x2
def u01 (x y : El sNode) : Int := (u0J (x, y)).getD 0
def u25 : List (El sNode) → Option (List (El sNode)) := sortF u01
def u2D (x : Node × Stamp) : Option Int :=
  ((u1G (x.1.1, x.2))).bind fun x1 =>
  some x1
def u0g (x : (List Node) × Stamp) : Option (Int × Bool) :=
  (iter (σ := ((List Node) × (Int × Reg))) (ρ := ((List Node) × Reg)) (fun s =>
      bif (decide ((s.2.2.1 < s.2.2.2.1))) then (bif (decide ((1 < 0))) then none else
        ((getI s.1 (IntKind.wrap .i64 (Int.fdiv (IntKind.wrap .u64 (IntKind.wrap .i64 (s.2.2.1 + s.2.2.2.1))) (2 ^ (Min.min (Int.toNat 1) (IntKind.bits .u64))))))).bind fun x1 =>
        ((u2D (x1, s.2.2.2.2))).bind fun x2 =>
        bif (decide ((x2 < 0))) then some (.inl (s.1, (s.2.1, ((IntKind.wrap .i64 ((IntKind.wrap .i64 (Int.fdiv (IntKind.wrap .u64 (IntKind.wrap .i64 (s.2.2.1 + s.2.2.2.1))) (2 ^ (Min.min (Int.toNat 1) (IntKind.bits .u64))))) + 1)), s.2.2.2)))) else
        some (.inl (s.1, (s.2.1, (s.2.2.1, ((IntKind.wrap .i64 (Int.fdiv (IntKind.wrap .u64 (IntKind.wrap .i64 (s.2.2.1 + s.2.2.2.1))) (2 ^ (Min.min (Int.toNat 1) (IntKind.bits .u64))))), s.2.2.2.2)))))) else
      some (.inr (s.1, (s.2.1, (s.2.2.1, s.2.2.2.2))))) (x.1, (((List.length x.1) : Int), ((0 : Int), (((List.length x.1) : Int), x.2))))).bind fun x1 =>
  (bif (decide ((x1.2.2.1 < x1.2.1))) then (((getI x1.1 x1.2.2.1)).bind fun x2 =>
      ((u2D (x2, x1.2.2.2))).bind fun x3 =>
      some (x1.2.2.1, (x3 == 0))) else
    some (x1.2.2.1, false)).bind fun x2 =>
  some x2
def u2Q (x : (List Node) × Stamp) : Option (Int × Bool) :=
  ((u0g x)).bind fun x1 =>
  some x1
def u2j (x : Look × Stamp) : Option Int :=
  ((u1G (x.1.1, x.2))).bind fun x1 =>
  some x1
def u0h (x : (List Look) × Stamp) : Option (Int × Bool) :=
  (iter (σ := ((List Look) × (Int × Reg))) (ρ := ((List Look) × Reg)) (fun s =>
      bif (decide ((s.2.2.1 < s.2.2.2.1))) then (bif (decide ((1 < 0))) then none else
        ((getI s.1 (IntKind.wrap .i64 (Int.fdiv (IntKind.wrap .u64 (IntKind.wrap .i64 (s.2.2.1 + s.2.2.2.1))) (2 ^ (Min.min (Int.toNat 1) (IntKind.bits .u64))))))).bind fun x1 =>
        ((u2j (x1, s.2.2.2.2))).bind fun x2 =>
        bif (decide ((x2 < 0))) then some (.inl (s.1, (s.2.1, ((IntKind.wrap .i64 ((IntKind.wrap .i64 (Int.fdiv (IntKind.wrap .u64 (IntKind.wrap .i64 (s.2.2.1 + s.2.2.2.1))) (2 ^ (Min.min (Int.toNat 1) (IntKind.bits .u64))))) + 1)), s.2.2.2)))) else
        some (.inl (s.1, (s.2.1, (s.2.2.1, ((IntKind.wrap .i64 (Int.fdiv (IntKind.wrap .u64 (IntKind.wrap .i64 (s.2.2.1 + s.2.2.2.1))) (2 ^ (Min.min (Int.toNat 1) (IntKind.bits .u64))))), s.2.2.2.2)))))) else
      some (.inr (s.1, (s.2.1, (s.2.2.1, s.2.2.2.2))))) (x.1, (((List.length x.1) : Int), ((0 : Int), (((List.length x.1) : Int), x.2))))).bind fun x1 =>
  (bif (decide ((x1.2.2.1 < x1.2.1))) then (((getI x1.1 x1.2.2.1)).bind fun x2 =>
      ((u2j (x2, x1.2.2.2))).bind fun x3 =>
      some (x1.2.2.1, (x3 == 0))) else
    some (x1.2.2.1, false)).bind fun x2 =>
  some x2
def u3q (x : (List Look) × Stamp) : Option (Int × Bool) :=
  ((u0h x)).bind fun x1 =>
  some x1
def u0K (x : List Int) : Option (List Int) :=
  (iter (σ := ((List Int) × ((List Int) × Int))) (ρ := (List Int)) (fun s =>
      bif (decide ((s.2.2 < ((List.length s.1) : Int)))) then (((getI s.1 s.2.2)).bind fun x1 =>
        bif (room (List.length (s.2.1 ++ [x1])) 8) then some (.inl (s.1, ((s.2.1 ++ [x1]), (IntKind.wrap .i64 (s.2.2 + 1))))) else
        none) else
      some (.inr s.2.1)) (x, ([], (0 : Int)))).bind fun x1 =>
  some x1
def u0Q (x : Op) : Option Op :=
  ((u0K x.2.2.1)).bind fun x1 =>
  some (x.1, x.2.1, x1, x.2.2.2)
def u0Z (x : (List Int) × List Int) : Option Bool :=
  bif (((List.length x.1) : Int) != ((List.length x.2) : Int)) then some false else
  (iter (σ := ((List Int) × ((List Int) × Int))) (ρ := (Unit ⊕ Bool)) (fun s =>
      bif (decide ((s.2.2 < ((List.length s.1) : Int)))) then (((getI s.1 s.2.2)).bind fun x1 =>
        ((getI s.2.1 s.2.2)).bind fun x2 =>
        bif (x1 != x2) then some (.inr (.inr false)) else
        some (.inl (s.1, (s.2.1, (IntKind.wrap .i64 (s.2.2 + 1)))))) else
      some (.inr (.inl ()))) (x.1, (x.2, (0 : Int)))).bind fun x1 =>
  (match x1 with
  | .inl y => some true
  | .inr y => some y)
def u0I (x : Op × Op) : Option Bool :=
  (bif ((x.1.1.1 == x.2.1.1) && (x.1.1.2 == x.2.1.2)) then (bif (x.1.2.1 == x.2.2.1) then (((u0Z (x.1.2.2.1, x.2.2.2.1))).bind fun x1 =>
        bif x1 then (bif (x.1.2.2.2.1 == x.2.2.2.2.1) then (bif ((x.1.2.2.2.2.1.1 == x.2.2.2.2.2.1.1) && (x.1.2.2.2.2.1.2 == x.2.2.2.2.2.1.2)) then (bif ((x.1.2.2.2.2.2.1.1 == x.2.2.2.2.2.2.1.1) && (x.1.2.2.2.2.2.1.2 == x.2.2.2.2.2.2.1.2)) then (bif ((ByteArray.toList x.1.2.2.2.2.2.2.1) == (ByteArray.toList x.2.2.2.2.2.2.2.1)) then (bif (x.1.2.2.2.2.2.2.2.1 == x.2.2.2.2.2.2.2.2.1) then some (x.1.2.2.2.2.2.2.2.2 == x.2.2.2.2.2.2.2.2.2) else
                  some false) else
                some false) else
              some false) else
            some false) else
          some false) else
        some false) else
      some false) else
    some false).bind fun x1 =>
  some x1
def u0b (x : Op) : Int :=
  (IntKind.wrap .i64 ((IntKind.wrap .i64 (1 + ((List.length x.2.2.1) : Int))) + ((ByteArray.size x.2.2.2.2.2.2.1) : Int)))
def u13 (x : List Op) : Option Int :=
  (iter (σ := ((List Op) × (Int × Int))) (ρ := Int) (fun s =>
      bif (bif (decide ((s.2.2 < ((List.length s.1) : Int)))) then (decide ((s.2.1 < 1048576))) else false) then (((getI s.1 s.2.2)).bind fun x1 =>
        some (.inl (s.1, ((IntKind.wrap .i64 (s.2.1 + (u0b x1))), (IntKind.wrap .i64 (s.2.2 + 1)))))) else
      some (.inr s.2.1)) (x, (((List.length x) : Int), (0 : Int)))).bind fun x1 =>
  some x1
def u0R (x : Tree) : Option Int :=
  (iter (σ := (Int × (Int × Tree))) (ρ := (Int × Tree)) (fun s =>
      bif (bif (decide ((s.2.1 < ((List.length s.2.2.1) : Int)))) then (decide ((s.1 < 1048576))) else false) then (((getI s.2.2.1 s.2.1)).bind fun x1 =>
        some (.inl ((IntKind.wrap .i64 (s.1 + ((ByteArray.size x1.2.2) : Int))), ((IntKind.wrap .i64 (s.2.1 + 1)), s.2.2)))) else
      some (.inr (s.1, s.2.2))) ((IntKind.wrap .i64 (((List.length x.1) : Int) + ((List.length x.2) : Int))), ((0 : Int), x))).bind fun x1 =>
  (iter (σ := (Int × (Int × Tree))) (ρ := (Int × Tree)) (fun s =>
      bif (bif (decide ((s.2.1 < ((List.length s.2.2.2) : Int)))) then (decide ((s.1 < 1048576))) else false) then (((getI s.2.2.2 s.2.1)).bind fun x2 =>
        ((getI s.2.2.2 s.2.1)).bind fun x3 =>
        some (.inl ((IntKind.wrap .i64 ((IntKind.wrap .i64 (s.1 + (u0b x2.1))) + ((ByteArray.size x3.2.2.2.1) : Int))), ((IntKind.wrap .i64 (s.2.1 + 1)), s.2.2)))) else
      some (.inr (s.1, s.2.2))) (x1.1, ((0 : Int), x1.2))).bind fun x2 =>
  some x2.1
def u0L (x : Shape) : Option Int :=
  ((u0R x.1)).bind fun x1 =>
  (iter (σ := (Int × (Int × Shape))) (ρ := (Int × Shape)) (fun s =>
      bif (bif (decide ((s.2.1 < ((List.length s.2.2.2) : Int)))) then (decide ((s.1 < 1048576))) else false) then (((getI s.2.2.2 s.2.1)).bind fun x2 =>
        some (.inl ((IntKind.wrap .i64 (s.1 + ((List.length x2.2) : Int))), ((IntKind.wrap .i64 (s.2.1 + 1)), s.2.2)))) else
      some (.inr (s.1, s.2.2))) ((IntKind.wrap .i64 (x1 + ((List.length x.2) : Int))), ((0 : Int), x))).bind fun x2 =>
  some x2.1
def u1O (x : u0U) : Option Bool :=
  (((u0L x.1)).bind fun x1 =>
    ((u13 x.2.1)).bind fun x2 =>
    bif (decide ((3000 < (IntKind.wrap .i64 (x1 + x2))))) then some true else
    bif (decide ((60 < ((List.length x.1.1.2) : Int)))) then some true else
    some (decide ((200 < ((List.length x.2.2) : Int))))).bind fun x1 =>
  some x1
def u0E (x : List Node) : Option (List Node) :=
  (iter (σ := ((List Node) × ((List Node) × Int))) (ρ := (List Node)) (fun s =>
      bif (decide ((s.2.2 < ((List.length s.1) : Int)))) then (((getI s.1 s.2.2)).bind fun x1 =>
        bif (room (List.length (s.2.1 ++ [x1])) 48) then some (.inl (s.1, ((s.2.1 ++ [x1]), (IntKind.wrap .i64 (s.2.2 + 1))))) else
        none) else
      some (.inr s.2.1)) (x, ([], (0 : Int)))).bind fun x1 =>
  some x1
def u12 (x : Entry) : Option Entry :=
  ((u0Q x.1)).bind fun x1 =>
  some (x1, x.2)
def u10 (x : List Entry) : Option (List Entry) :=
  (iter (σ := ((List Entry) × ((List Entry) × Int))) (ρ := (List Entry)) (fun s =>
      bif (decide ((s.2.2 < ((List.length s.1) : Int)))) then (((getI s.1 s.2.2)).bind fun x1 =>
        ((u12 x1)).bind fun x2 =>
        bif (room (List.length (s.2.1 ++ [x2])) 168) then some (.inl (s.1, ((s.2.1 ++ [x2]), (IntKind.wrap .i64 (s.2.2 + 1))))) else
        none) else
      some (.inr s.2.1)) (x, ([], (0 : Int)))).bind fun x1 =>
  some x1
def u0N (x : Tree) : Option Tree :=
  ((u0E x.1)).bind fun x1 =>
  ((u10 x.2)).bind fun x2 =>
  some (x1, x2)
def u1f (x : List Reg) : Option (List Reg) :=
  (iter (σ := ((List Reg) × ((List Reg) × Int))) (ρ := (List Reg)) (fun s =>
      bif (decide ((s.2.2 < ((List.length s.1) : Int)))) then (((getI s.1 s.2.2)).bind fun x1 =>
        bif (room (List.length (s.2.1 ++ [x1])) 32) then some (.inl (s.1, ((s.2.1 ++ [x1]), (IntKind.wrap .i64 (s.2.2 + 1))))) else
        none) else
      some (.inr s.2.1)) (x, ([], (0 : Int)))).bind fun x1 =>
  some x1
def u1g (x : Look) : Option Look :=
  ((u1f x.2)).bind fun x1 =>
  some (x.1, x1)
def u11 (x : List Look) : Option (List Look) :=
  (iter (σ := ((List Look) × ((List Look) × Int))) (ρ := (List Look)) (fun s =>
      bif (decide ((s.2.2 < ((List.length s.1) : Int)))) then (((getI s.1 s.2.2)).bind fun x1 =>
        ((u1g x1)).bind fun x2 =>
        bif (room (List.length (s.2.1 ++ [x2])) 40) then some (.inl (s.1, ((s.2.1 ++ [x2]), (IntKind.wrap .i64 (s.2.2 + 1))))) else
        none) else
      some (.inr s.2.1)) (x, ([], (0 : Int)))).bind fun x1 =>
  some x1
def u0n (x : Shape) : Option Shape :=
  ((u0N x.1)).bind fun x1 =>
  ((u11 x.2)).bind fun x2 =>
  some (x1, x2)
def u1t (x : (List Node) × List Node) : Option Bool :=
  bif (((List.length x.1) : Int) != ((List.length x.2) : Int)) then some false else
  (iter (σ := ((List Node) × ((List Node) × Int))) (ρ := (Unit ⊕ Bool)) (fun s =>
      bif (decide ((s.2.2 < ((List.length s.1) : Int)))) then (((getI s.1 s.2.2)).bind fun x1 =>
        ((getI s.2.1 s.2.2)).bind fun x2 =>
        bif (Bool.not ((x1.1.1 == x2.1.1) && ((x1.1.2 == x2.1.2) && ((x1.2.1.1 == x2.2.1.1) && ((x1.2.1.2 == x2.2.1.2) && (x1.2.2 == x2.2.2)))))) then some (.inr (.inr false)) else
        some (.inl (s.1, (s.2.1, (IntKind.wrap .i64 (s.2.2 + 1)))))) else
      some (.inr (.inl ()))) (x.1, (x.2, (0 : Int)))).bind fun x1 =>
  (match x1 with
  | .inl y => some true
  | .inr y => some y)
def u1w (x : Entry × Entry) : Option Bool :=
  (((u0I (x.1.1, x.2.1))).bind fun x1 =>
    bif x1 then (bif (x.1.2.1 == x.2.2.1) then (bif ((x.1.2.2.1.1 == x.2.2.2.1.1) && (x.1.2.2.1.2 == x.2.2.2.1.2)) then (bif ((ByteArray.toList x.1.2.2.2.1) == (ByteArray.toList x.2.2.2.2.1)) then some (x.1.2.2.2.2 == x.2.2.2.2.2) else
          some false) else
        some false) else
      some false) else
    some false).bind fun x1 =>
  some x1
def u1u (x : (List Entry) × List Entry) : Option Bool :=
  bif (((List.length x.1) : Int) != ((List.length x.2) : Int)) then some false else
  (iter (σ := ((List Entry) × ((List Entry) × Int))) (ρ := (Unit ⊕ Bool)) (fun s =>
      bif (decide ((s.2.2 < ((List.length s.1) : Int)))) then (((getI s.1 s.2.2)).bind fun x1 =>
        ((getI s.2.1 s.2.2)).bind fun x2 =>
        ((u1w (x1, x2))).bind fun x3 =>
        bif (Bool.not x3) then some (.inr (.inr false)) else
        some (.inl (s.1, (s.2.1, (IntKind.wrap .i64 (s.2.2 + 1)))))) else
      some (.inr (.inl ()))) (x.1, (x.2, (0 : Int)))).bind fun x1 =>
  (match x1 with
  | .inl y => some true
  | .inr y => some y)
def u18 (x : Tree × Tree) : Option Bool :=
  (((u1t (x.1.1, x.2.1))).bind fun x1 =>
    bif x1 then (((u1u (x.1.2, x.2.2))).bind fun x2 =>
      some x2) else
    some false).bind fun x1 =>
  some x1
def u1e (x : Int × Int) : Bool :=
  (bif (decide ((0 ≤ x.1))) then (decide ((x.1 ≤ x.2))) else false)
def u0s (x : Stamp) : Bool :=
  (bif (decide ((1 ≤ x.1))) then (bif (decide ((x.1 ≤ 1099511627776))) then (u1e (x.2, (15 : Int))) else false) else false)
def u1I (x : List Int) : Option Bool :=
  (iter (σ := ((List Int) × Int)) (ρ := ((List Int) ⊕ Bool)) (fun s =>
      bif (decide ((s.2 < ((List.length s.1) : Int)))) then (((getI s.1 s.2)).bind fun x1 =>
        bif (Bool.not (u1e (x1, (1099511627776 : Int)))) then some (.inr (.inr false)) else
        some (.inl (s.1, (IntKind.wrap .i64 (s.2 + 1))))) else
      some (.inr (.inl s.1))) (x, (0 : Int))).bind fun x1 =>
  (match x1 with
  | .inl y => some (bif (decide ((1 ≤ ((List.length y) : Int)))) then (decide ((((List.length y) : Int) ≤ 16))) else false)
  | .inr y => some y)
def u1P (x : Unit) : Stamp :=
  ((0 : Int), (0 : Int))
def u1p (x : Unit) : Stamp :=
  ((0 : Int), (1 : Int))
def u1q (x : Stamp) : Bool :=
  (bif (u0s x) then true else (bif ((x.1 == (u1P ()).1) && (x.2 == (u1P ()).2)) then true else ((x.1 == (u1p ()).1) && (x.2 == (u1p ()).2))))
def u2Z (x : ByteArray) : Option Bool :=
  (bif (decide ((1 ≤ ((ByteArray.size x) : Int)))) then (bif (decide ((((ByteArray.size x) : Int) ≤ 64))) then (((getB x (IntKind.wrap .i64 (((ByteArray.size x) : Int) - 1)))).bind fun x1 =>
        some (x1 != 0)) else
      some false) else
    some false).bind fun x1 =>
  some x1
def u1o (x : Int) : Option (Int × Int × Int × Bool) :=
  bif (x == 0) then some ((0 : Int), ((2 : Int), ((0 : Int), true))) else
  (bif (x == 1) then some (x, true) else
    some (x, (x == 2))).bind fun x1 =>
  bif x1.2 then some ((0 : Int), ((1 : Int), ((0 : Int), true))) else
  (bif (x1.1 == 3) then some (x1.1, true) else
    (bif (x1.1 == 4) then some (x1.1, true) else
      (bif (x1.1 == 6) then some (x1.1, true) else
        (bif (x1.1 == 8) then some (x1.1, true) else
          some (x1.1, (x1.1 == 11))).bind fun x2 =>
        some x2).bind fun x2 =>
      some x2).bind fun x2 =>
    some x2).bind fun x2 =>
  bif x2.2 then some (((-1) : Int), ((1099511627776 : Int), (((-1) : Int), true))) else
  (bif (x2.1 == 5) then some (x2.1, true) else
    some (x2.1, (x2.1 == 7))).bind fun x3 =>
  bif x3.2 then some ((0 : Int), ((1099511627776 : Int), ((0 : Int), true))) else
  bif (x3.1 == 9) then some ((0 : Int), ((1048576 : Int), ((0 : Int), true))) else
  bif (x3.1 == 10) then some ((0 : Int), ((1048576 : Int), ((1 : Int), true))) else
  (bif (x3.1 == 12) then some (x3.1, true) else
    (bif (x3.1 == 13) then some (x3.1, true) else
      some (x3.1, (x3.1 == 14))).bind fun x4 =>
    some x4).bind fun x4 =>
  bif x4.2 then some ((0 : Int), ((1073741824 : Int), ((0 : Int), true))) else
  bif (x4.1 == 15) then some ((0 : Int), ((4 : Int), ((0 : Int), true))) else
  bif (x4.1 == 16) then some ((0 : Int), ((3 : Int), ((0 : Int), true))) else
  bif (x4.1 == 17) then some ((0 : Int), ((16777215 : Int), ((0 : Int), true))) else
  bif (x4.1 == 18) then some ((64 : Int), ((64000 : Int), ((1024 : Int), true))) else
  some ((0 : Int), ((0 : Int), ((0 : Int), false)))
def u0X (x : Int × Int) : Option Int :=
  ((u1o x.1)).bind fun x1 =>
  bif (Bool.not x1.2.2.2) then some (3 : Int) else
  bif (bif (decide ((x.2 < x1.1))) then true else (decide ((x1.2.1 < x.2)))) then some (9 : Int) else
  some (0 : Int)
def u1E (x : Op) : Option Bool :=
  (bif (Bool.not (u0s x.1)) then some true else
    ((u1I x.2.2.1)).bind fun x1 =>
    bif (Bool.not x1) then some true else
    bif (decide ((((List.length x.2.2.1) : Int) ≤ x.1.2))) then some true else
    bif (decide ((x.2.1 < 1))) then some true else
    bif (decide ((1099511627776 < x.2.1))) then some true else
    ((getI x.2.2.1 x.1.2)).bind fun x2 =>
    bif (x.2.1 != (IntKind.wrap .i64 (x2 + 1))) then some true else
    some (Bool.not (u0s x.2.2.2.2.1))).bind fun x1 =>
  bif x1 then some false else
  bif (x.2.2.2.1 == 1) then ((((u0I ((x.1, x.2.1, x.2.2.1, x.2.2.2.1, x.2.2.2.2.1, x.2.2.2.2.2.1, x.2.2.2.2.2.2.1, (0 : Int), (0 : Int)), x))).bind fun x2 =>
      bif x2 then (bif (u1q x.2.2.2.2.2.1) then (((u2Z x.2.2.2.2.2.2.1)).bind fun x3 =>
          some x3) else
        some false) else
      some false).bind fun x2 =>
    some x2) else
  bif (x.2.2.2.1 == 2) then ((((u0I ((x.1, x.2.1, x.2.2.1, x.2.2.2.1, x.2.2.2.2.1, ((0 : Int), (0 : Int)), (ByteArray.mk ([]).toArray), x.2.2.2.2.2.2.2), x)) : Option Bool).bind fun x2 =>
      bif x2 then (((u0X x.2.2.2.2.2.2.2)).bind fun x3 =>
        some (x3 == 0)) else
      some false : Option Bool).bind fun x2 =>
    some x2) else
  some false
def u1r (x : Op) : Option Bool :=
  (bif (x.2.2.2.1 == 1) then (((u1E x)).bind fun x1 =>
      some x1) else
    some false).bind fun x1 =>
  some x1
def u0P (x : Tree) : Option (List Op) :=
  (iter (σ := ((List Op) × (Int × Tree))) (ρ := ((List Op) × Tree)) (fun s =>
      bif (decide ((s.2.1 < ((List.length s.2.2.2) : Int)))) then (((getI s.2.2.2 s.2.1)).bind fun x1 =>
        bif (room (List.length (s.1 ++ [x1.1])) 120) then some (.inl ((s.1 ++ [x1.1]), ((IntKind.wrap .i64 (s.2.1 + 1)), s.2.2))) else
        none) else
      some (.inr (s.1, s.2.2))) ([], ((0 : Int), x))).bind fun x1 =>
  some x1.1
def u0k (x : Stamp × Stamp) : Int :=
  bif (bif (decide ((x.1.1 < x.2.1))) then true else (bif (x.1.1 == x.2.1) then (decide ((x.1.2 < x.2.2))) else false)) then ((-1) : Int) else
  bif (Bool.not ((x.1.1 == x.2.1) && (x.1.2 == x.2.2))) then (1 : Int) else
  (0 : Int)
def u1s (x : (List Node) × Stamp) : Option Int :=
  (iter (σ := ((List Node) × (Int × (Int × Int)))) (ρ := ((Int × Int) ⊕ Int)) (fun s =>
      bif (decide ((s.2.1 < ((List.length s.1) : Int)))) then (((getI s.1 s.2.1)).bind fun x1 =>
        bif ((x1.1.1 == s.2.2.1) && (x1.1.2 == s.2.2.2)) then some (.inr (.inr s.2.1)) else
        some (.inl (s.1, ((IntKind.wrap .i64 (s.2.1 + 1)), s.2.2)))) else
      some (.inr (.inl s.2.2))) (x.1, ((0 : Int), x.2))).bind fun x1 =>
  (match x1 with
  | .inl y => some ((-1) : Int)
  | .inr y => some y)
def u1W (x : (List Node) × Stamp × Stamp) : Option Bool :=
  (iter (σ := ((List Node) × (Int × ((Int × Int) × (Int × Int))))) (ρ := (((Int × Int) × (Int × Int)) ⊕ Bool)) (fun s =>
      bif (decide ((s.2.1 ≤ ((List.length s.1) : Int)))) then (bif ((s.2.2.2.1 == s.2.2.1.1) && (s.2.2.2.2 == s.2.2.1.2)) then some (.inr (.inr true)) else
        ((u1s (s.1, s.2.2.2))).bind fun x1 =>
        bif (decide ((x1 < 0))) then some (.inr (.inr false)) else
        ((getI s.1 x1)).bind fun x2 =>
        some (.inl (s.1, ((IntKind.wrap .i64 (s.2.1 + 1)), (s.2.2.1, x2.2.1))))) else
      some (.inr (.inl s.2.2))) (x.1, ((0 : Int), x.2))).bind fun x1 =>
  (match x1 with
  | .inl y => some true
  | .inr y => some y)
def u1X (x : (List Node) × Op) : Option ((List Node) × Entry) :=
  ((u0Q x.2)).bind fun x1 =>
  ((u1s (x.1, x.2.2.2.2.2.1))).bind fun x2 =>
  (bif (decide ((0 ≤ x2))) then (((getI x.1 x2)).bind fun x3 =>
      ((getI x.1 x2)).bind fun x4 =>
      ((getI x.1 x2)).bind fun x5 =>
      ((getI x.1 x2)).bind fun x6 =>
      some (x.1, (x2, (x.2, (((((0 : Int), (0 : Int)), (0 : Int), [], (0 : Int), ((0 : Int), (0 : Int)), ((0 : Int), (0 : Int)), (ByteArray.mk ([]).toArray), (0 : Int), (0 : Int)), false, ((0 : Int), (0 : Int)), (ByteArray.mk ([]).toArray), false), (x1, true, x4.2.1, x6.2.2, false)))))) else
    some (x.1, (x2, (x.2, (((((0 : Int), (0 : Int)), (0 : Int), [], (0 : Int), ((0 : Int), (0 : Int)), ((0 : Int), (0 : Int)), (ByteArray.mk ([]).toArray), (0 : Int), (0 : Int)), false, ((0 : Int), (0 : Int)), (ByteArray.mk ([]).toArray), false), (x1, false, ((0 : Int), (0 : Int)), (ByteArray.mk ([]).toArray), false))))) : Option ((List Node) × (Int × (Op × (Entry × Entry))))).bind fun x3 =>
  ((u1W (x3.1, (x3.2.2.1.2.2.2.2.1, x3.2.2.1.2.2.2.2.2.1)))).bind fun x4 =>
  bif x4 then some (x3.1, (x3.2.2.2.2.1, x3.2.2.2.2.2.1, x3.2.2.2.2.2.2.1, x3.2.2.2.2.2.2.2.1, true)) else
  bif (decide ((0 ≤ x3.2.1))) then (((u0E x3.1)).bind fun x5 =>
    ((getI x5 x3.2.1)).bind fun x6 =>
    ((getI x5 x3.2.1)).bind fun x7 =>
    some ((List.set x5 (Int.toNat x3.2.1) (x3.2.2.1.2.2.2.2.1, x3.2.2.1.2.2.2.2.2.1, x3.2.2.1.2.2.2.2.2.2.1)), x3.2.2.2.2)) else
  (iter (σ := ((List Node) × ((List Node) × (Bool × (Int × (Op × (Entry × (Entry × Node)))))))) (ρ := ((List Node) × (Bool × (Op × (Entry × (Entry × Node)))))) (fun s =>
      bif (decide ((s.2.2.2.1 < ((List.length s.1) : Int)))) then ((bif (Bool.not s.2.2.1) then (((getI s.1 s.2.2.2.1)).bind fun x5 =>
            ((getI s.1 s.2.2.2.1)).bind fun x6 =>
            some (decide ((0 < (u0k (x6.1, s.2.2.2.2.1.2.2.2.2.1)))))) else
          some false).bind fun x5 =>
        bif x5 then (bif (room (List.length (s.2.1 ++ [s.2.2.2.2.2.2.2])) 48) then (((getI s.1 s.2.2.2.1)).bind fun x6 =>
            ((getI s.1 s.2.2.2.1)).bind fun x7 =>
            bif (room (List.length ((s.2.1 ++ [s.2.2.2.2.2.2.2]) ++ [x7])) 48) then some (.inl (s.1, (((s.2.1 ++ [s.2.2.2.2.2.2.2]) ++ [x7]), (true, ((IntKind.wrap .i64 (s.2.2.2.1 + 1)), s.2.2.2.2))))) else
            none) else
          none) else
        ((getI s.1 s.2.2.2.1)).bind fun x6 =>
        ((getI s.1 s.2.2.2.1)).bind fun x7 =>
        bif (room (List.length (s.2.1 ++ [x7])) 48) then some (.inl (s.1, ((s.2.1 ++ [x7]), (s.2.2.1, ((IntKind.wrap .i64 (s.2.2.2.1 + 1)), s.2.2.2.2))))) else
        none) else
      some (.inr (s.2.1, (s.2.2.1, s.2.2.2.2)))) (x3.1, ([], (false, ((0 : Int), (x3.2.2.1, (x3.2.2.2.1, (x3.2.2.2.2, (x3.2.2.1.2.2.2.2.1, x3.2.2.1.2.2.2.2.2.1, x3.2.2.1.2.2.2.2.2.2.1))))))))).bind fun x5 =>
  bif (Bool.not x5.2.1) then (bif (room (List.length (x5.1 ++ [x5.2.2.2.2.2])) 48) then some ((x5.1 ++ [x5.2.2.2.2.2]), x5.2.2.2.2.1) else
    none) else
  some (x5.1, x5.2.2.2.2.1)
def u0Y (x : List Op) : Option ((List Node) × List Entry) :=
  (iter (σ := ((List Op) × (Int × Tree))) (ρ := Tree) (fun s =>
      bif (decide ((s.2.1 < ((List.length s.1) : Int)))) then (((getI s.1 s.2.1)).bind fun x1 =>
        ((u1X (s.2.2.1, x1))).bind fun x2 =>
        bif (room (List.length (s.2.2.2 ++ [x2.2])) 168) then some (.inl (s.1, ((IntKind.wrap .i64 (s.2.1 + 1)), (x2.1, (s.2.2.2 ++ [x2.2]))))) else
        none) else
      some (.inr s.2.2)) (x, ((0 : Int), ([], [])))).bind fun x1 =>
  some x1
def u1Y (x : Tree) : Option Bool :=
  ((u0P x)).bind fun x1 =>
  (iter (σ := ((List Op) × (Int × Tree))) (ρ := (((List Op) × Tree) ⊕ Bool)) (fun s =>
      bif (decide ((s.2.1 < ((List.length s.1) : Int)))) then ((((getI s.1 s.2.1)).bind fun x2 =>
          ((u1r x2)).bind fun x3 =>
          bif (Bool.not x3) then some true else
          bif (decide ((0 < s.2.1))) then (((getI s.1 (IntKind.wrap .i64 (s.2.1 - 1)))).bind fun x4 =>
            ((getI s.1 s.2.1)).bind fun x5 =>
            some (decide ((0 ≤ (u0k (x4.1, x5.1)))))) else
          some false).bind fun x2 =>
        bif x2 then some (.inr (.inr false)) else
        some (.inl (s.1, ((IntKind.wrap .i64 (s.2.1 + 1)), s.2.2)))) else
      some (.inr (.inl (s.1, s.2.2)))) (x1, ((0 : Int), x))).bind fun x2 =>
  (match x2 with
  | .inl y => ((u0Y y.1)).bind fun x3 =>
    ((u18 (y.2, x3))).bind fun x4 =>
    some x4
  | .inr y => some y)
def u20 (x : List Reg) : Option Bool :=
  (iter (σ := ((List Reg) × Int)) (ρ := (Unit ⊕ Bool)) (fun s =>
      bif (decide ((s.2 < ((List.length s.1) : Int)))) then ((((getI s.1 s.2)).bind fun x1 =>
          ((getI s.1 s.2)).bind fun x2 =>
          ((u0X (x1.1, x2.2.1))).bind fun x3 =>
          bif (x3 != 0) then some true else
          ((getI s.1 s.2)).bind fun x4 =>
          bif (Bool.not (u0s x4.2.2)) then some true else
          bif (decide ((0 < s.2))) then (((getI s.1 (IntKind.wrap .i64 (s.2 - 1)))).bind fun x5 =>
            ((getI s.1 s.2)).bind fun x6 =>
            some (decide ((x6.1 ≤ x5.1)))) else
          some false).bind fun x1 =>
        bif x1 then some (.inr (.inr false)) else
        some (.inl (s.1, (IntKind.wrap .i64 (s.2 + 1))))) else
      some (.inr (.inl ()))) (x, (0 : Int))).bind fun x1 =>
  (match x1 with
  | .inl y => some true
  | .inr y => some y)
def u1J (x : Shape) : Option Bool :=
  (iter (σ := (Int × Shape)) (ρ := (Shape ⊕ Bool)) (fun s =>
      bif (decide ((s.1 < ((List.length s.2.2) : Int)))) then ((((getI s.2.2 s.1)).bind fun x1 =>
          bif (Bool.not (u0s x1.1)) then some true else
          ((getI s.2.2 s.1)).bind fun x2 =>
          bif (((List.length x2.2) : Int) == 0) then some true else
          ((getI s.2.2 s.1)).bind fun x3 =>
          ((u20 x3.2)).bind fun x4 =>
          bif (Bool.not x4) then some true else
          bif (decide ((0 < s.1))) then (((getI s.2.2 (IntKind.wrap .i64 (s.1 - 1)))).bind fun x5 =>
            ((getI s.2.2 s.1)).bind fun x6 =>
            some (decide ((0 ≤ (u0k (x5.1, x6.1)))))) else
          some false).bind fun x1 =>
        bif x1 then some (.inr (.inr false)) else
        some (.inl ((IntKind.wrap .i64 (s.1 + 1)), s.2))) else
      some (.inr (.inl s.2))) ((0 : Int), x)).bind fun x1 =>
  (match x1 with
  | .inl y => ((u1Y y.1)).bind fun x2 =>
    some x2
  | .inr y => some y)
def u1L (x : (List Reg) × List Reg) : Option Bool :=
  bif (((List.length x.1) : Int) != ((List.length x.2) : Int)) then some false else
  (iter (σ := ((List Reg) × ((List Reg) × Int))) (ρ := (Unit ⊕ Bool)) (fun s =>
      bif (decide ((s.2.2 < ((List.length s.1) : Int)))) then (((getI s.1 s.2.2)).bind fun x1 =>
        ((getI s.2.1 s.2.2)).bind fun x2 =>
        bif (Bool.not ((x1.1 == x2.1) && ((x1.2.1 == x2.2.1) && ((x1.2.2.1 == x2.2.2.1) && (x1.2.2.2 == x2.2.2.2))))) then some (.inr (.inr false)) else
        some (.inl (s.1, (s.2.1, (IntKind.wrap .i64 (s.2.2 + 1)))))) else
      some (.inr (.inl ()))) (x.1, (x.2, (0 : Int)))).bind fun x1 =>
  (match x1 with
  | .inl y => some true
  | .inr y => some y)
def u1M (x : Look × Look) : Option Bool :=
  (bif ((x.1.1.1 == x.2.1.1) && (x.1.1.2 == x.2.1.2)) then (((u1L (x.1.2, x.2.2))).bind fun x1 =>
      some x1) else
    some false).bind fun x1 =>
  some x1
def u1v (x : (List Look) × List Look) : Option Bool :=
  bif (((List.length x.1) : Int) != ((List.length x.2) : Int)) then some false else
  (iter (σ := ((List Look) × ((List Look) × Int))) (ρ := (Unit ⊕ Bool)) (fun s =>
      bif (decide ((s.2.2 < ((List.length s.1) : Int)))) then (((getI s.1 s.2.2)).bind fun x1 =>
        ((getI s.2.1 s.2.2)).bind fun x2 =>
        ((u1M (x1, x2))).bind fun x3 =>
        bif (Bool.not x3) then some (.inr (.inr false)) else
        some (.inl (s.1, (s.2.1, (IntKind.wrap .i64 (s.2.2 + 1)))))) else
      some (.inr (.inl ()))) (x.1, (x.2, (0 : Int)))).bind fun x1 =>
  (match x1 with
  | .inl y => some true
  | .inr y => some y)
def u0D (x : Shape × Shape) : Option Bool :=
  (((u18 (x.1.1, x.2.1))).bind fun x1 =>
    bif x1 then (((u1v (x.1.2, x.2.2))).bind fun x2 =>
      some x2) else
    some false).bind fun x1 =>
  some x1
def u0t (x : Int) : Int :=
  x
def u2L (x : Stamp) : Bool :=
  (bif (decide ((1 ≤ x.1))) then (bif (decide ((x.1 ≤ 1099511627776))) then (bif (decide ((0 ≤ x.2))) then (decide ((x.2 < 16))) else false) else false) else false)
def have_Is (x : List Int) : Option Bool :=
  (iter (σ := ((List Int) × Int)) (ρ := Bool) (fun s =>
      bif (s.2 == ((List.length s.1) : Int)) then some (.inr (bif (decide ((1 ≤ s.2))) then (decide ((s.2 ≤ 16))) else false)) else
      (((getI s.1 s.2)).bind fun x1 =>
        bif (decide ((0 ≤ x1))) then (((getI s.1 s.2)).bind fun x2 =>
          some (decide ((x2 ≤ 1099511627776)))) else
        some false).bind fun x1 =>
      bif x1 then some (.inl (s.1, (IntKind.wrap .i64 (s.2 + 1)))) else
      some (.inr false)) (x, (0 : Int))).bind fun x1 =>
  some x1
def u0i (x : Unit) : Stamp :=
  ((0 : Int), (0 : Int))
def u2E (x : Unit) : Stamp :=
  ((0 : Int), (1 : Int))
def u2F (x : Stamp) : Bool :=
  (bif (u2L x) then true else (bif ((x.1 == (u0i ()).1) && (x.2 == (u0i ()).2)) then true else ((x.1 == (u2E ()).1) && (x.2 == (u2E ()).2))))
def u3P (x : ByteArray) : Option Bool :=
  (bif (decide ((1 ≤ ((ByteArray.size x) : Int)))) then (bif (decide ((((ByteArray.size x) : Int) ≤ 64))) then (((getB x (IntKind.wrap .i64 (((ByteArray.size x) : Int) - 1)))).bind fun x1 =>
        some (x1 != 0)) else
      some false) else
    some false).bind fun x1 =>
  some x1
def u2g (x : Int) : Option rule_prop :=
  bif (x == 0) then some ((0 : Int), (2 : Int), (0 : Int), false) else
  (bif (x == 1) then some (x, (true, ((0 : Int), (0 : Int), (0 : Int), false))) else
    some (x, ((x == 2), ((0 : Int), (0 : Int), (0 : Int), false)))).bind fun x1 =>
  bif x1.2.1 then some ((0 : Int), (1 : Int), (0 : Int), false) else
  (bif (x1.1 == 3) then some (x1.1, (true, x1.2.2)) else
    (bif (x1.1 == 4) then some (x1.1, (true, x1.2.2)) else
      (bif (x1.1 == 6) then some (x1.1, (true, x1.2.2)) else
        (bif (x1.1 == 8) then some (x1.1, (true, x1.2.2)) else
          some (x1.1, ((x1.1 == 11), x1.2.2))).bind fun x2 =>
        some x2).bind fun x2 =>
      some x2).bind fun x2 =>
    some x2).bind fun x2 =>
  bif x2.2.1 then some (((-1) : Int), (1099511627776 : Int), ((-1) : Int), false) else
  (bif (x2.1 == 5) then some (x2.1, (true, x2.2.2)) else
    some (x2.1, ((x2.1 == 7), x2.2.2))).bind fun x3 =>
  bif x3.2.1 then some ((0 : Int), (1099511627776 : Int), (0 : Int), false) else
  bif (x3.1 == 9) then some ((0 : Int), (1048576 : Int), (0 : Int), false) else
  bif (x3.1 == 10) then some ((0 : Int), (1048576 : Int), (1 : Int), false) else
  bif (x3.1 == 15) then some ((0 : Int), (4 : Int), (0 : Int), false) else
  bif (x3.1 == 16) then some ((0 : Int), (3 : Int), (0 : Int), false) else
  bif (x3.1 == 17) then some ((0 : Int), (16777215 : Int), (0 : Int), true) else
  bif (x3.1 == 18) then some ((64 : Int), (64000 : Int), (1024 : Int), true) else
  some ((0 : Int), (1073741824 : Int), (0 : Int), false)
def u5w (x : Int) : Bool :=
  (bif (decide ((0 ≤ x))) then (decide ((x < 19))) else false)
def u2X (x : Int × Int) : Option Bool :=
  (bif (u5w x.1) then (((u2g x.1)).bind fun x1 =>
      bif (decide ((x1.1 ≤ x.2))) then (((u2g x.1)).bind fun x2 =>
        some (decide ((x.2 ≤ x2.2.1)))) else
      some false) else
    some false).bind fun x1 =>
  some x1
def u6H (x : Op) : Option Bool :=
  bif (x.2.2.2.1 == 1) then ((bif (u2F x.2.2.2.2.2.1) then (((u3P x.2.2.2.2.2.2.1)).bind fun x1 =>
        bif x1 then (bif (x.2.2.2.2.2.2.2.1 == 0) then some (x.2.2.2.2.2.2.2.2 == 0) else
          some false) else
        some false) else
      some false).bind fun x1 =>
    some x1) else
  bif (x.2.2.2.1 == 2) then ((((u2X x.2.2.2.2.2.2.2)).bind fun x1 =>
      bif x1 then (bif ((x.2.2.2.2.2.1.1 == (u0i ()).1) && (x.2.2.2.2.2.1.2 == (u0i ()).2)) then some ((ByteArray.toList x.2.2.2.2.2.2.1) == (ByteArray.toList (ByteArray.mk ([]).toArray))) else
        some false) else
      some false : Option Bool).bind fun x1 =>
    some x1) else
  some false
def u5W (x : Op) : Option Bool :=
  (bif (Bool.not (u2L x.1)) then some true else
    ((have_Is x.2.2.1)).bind fun x1 =>
    bif (Bool.not x1) then some true else
    bif (decide ((((List.length x.2.2.1) : Int) ≤ x.1.2))) then some true else
    some (Bool.not (u2L x.2.2.2.2.1))).bind fun x1 =>
  bif x1 then some false else
  (((getI x.2.2.1 x.1.2)).bind fun x2 =>
    bif (x.2.1 == (IntKind.wrap .i64 (x2 + 1))) then (bif (decide ((x.2.1 ≤ 1099511627776))) then (((u6H x)).bind fun x3 =>
        some x3) else
      some false) else
    some false).bind fun x2 =>
  some x2
def u3S (x : Op) : Option Bool :=
  (((u5W x)).bind fun x1 =>
    bif x1 then some (x.2.2.2.1 == 1) else
    some false).bind fun x1 =>
  some x1
def u4F (x : Op × Op) : Option Bool :=
  ((u1G (x.1.1, x.2.1))).bind fun x1 =>
  some (decide ((x1 < 0)))
def u1H (x : (List Int) × List Int) : Option Bool :=
  bif (((List.length x.1) : Int) != ((List.length x.2) : Int)) then some false else
  (iter (σ := ((List Int) × ((List Int) × (Int × Int)))) (ρ := (Unit ⊕ Bool)) (fun s =>
      bif (decide ((s.2.2.2 < s.2.2.1))) then (((getI s.1 s.2.2.2)).bind fun x1 =>
        ((getI s.2.1 s.2.2.2)).bind fun x2 =>
        bif (x1 != x2) then some (.inr (.inr false)) else
        some (.inl (s.1, (s.2.1, (s.2.2.1, (IntKind.wrap .i64 (s.2.2.2 + 1))))))) else
      some (.inr (.inl ()))) (x.1, (x.2, (((List.length x.1) : Int), (0 : Int))))).bind fun x1 =>
  (match x1 with
  | .inl y => some true
  | .inr y => some y)
def u6I (x : Op × Op) : Option Bool :=
  (bif ((x.1.1.1 == x.2.1.1) && (x.1.1.2 == x.2.1.2)) then (bif (x.1.2.1 == x.2.2.1) then (((u1H (x.1.2.2.1, x.2.2.2.1))).bind fun x1 =>
        bif x1 then (bif (x.1.2.2.2.1 == x.2.2.2.2.1) then (bif ((x.1.2.2.2.2.1.1 == x.2.2.2.2.2.1.1) && (x.1.2.2.2.2.1.2 == x.2.2.2.2.2.1.2)) then (bif ((x.1.2.2.2.2.2.1.1 == x.2.2.2.2.2.2.1.1) && (x.1.2.2.2.2.2.1.2 == x.2.2.2.2.2.2.1.2)) then (bif ((ByteArray.toList x.1.2.2.2.2.2.2.1) == (ByteArray.toList x.2.2.2.2.2.2.2.1)) then (bif (x.1.2.2.2.2.2.2.2.1 == x.2.2.2.2.2.2.2.2.1) then some (x.1.2.2.2.2.2.2.2.2 == x.2.2.2.2.2.2.2.2.2) else
                  some false) else
                some false) else
              some false) else
            some false) else
          some false) else
        some false) else
      some false) else
    some false).bind fun x1 =>
  some x1
def u34 (x : Entry × Entry) : Option Bool :=
  (((u6I (x.1.1, x.2.1))).bind fun x1 =>
    bif x1 then (bif (x.1.2.1 == x.2.2.1) then (bif ((x.1.2.2.1.1 == x.2.2.2.1.1) && (x.1.2.2.1.2 == x.2.2.2.1.2)) then (bif ((ByteArray.toList x.1.2.2.2.1) == (ByteArray.toList x.2.2.2.2.1)) then some (x.1.2.2.2.2 == x.2.2.2.2.2) else
          some false) else
        some false) else
      some false) else
    some false).bind fun x1 =>
  some x1
def op_Own (x : Op) : Option (Stamp × Int × (List Int) × Int × Stamp × Stamp × ByteArray × Stamp) :=
  bif (room (List.length x.2.2.1) 8) then some x else
  none
def u1F (x : (List Node) × Stamp × Stamp) : Option Bool :=
  (iter (σ := ((List Node) × ((Int × Int) × (Int × Int)))) (ρ := Bool) (fun s =>
      bif ((s.2.2.1 == s.2.1.1) && (s.2.2.2 == s.2.1.2)) then some (.inr true) else
      ((u2Q (s.1, s.2.2))).bind fun x1 =>
      bif x1.2 then (((getI s.1 x1.1)).bind fun x2 =>
        some (.inl (s.1, (s.2.1, x2.2.1)))) else
      some (.inr false)) x).bind fun x1 =>
  some x1
def u19 (x : Op × List Node) : Option (Stamp × Int × (List Int) × (Int × Stamp × Stamp × ByteArray × Stamp) × (Bool × Stamp × ByteArray × Bool) × List Node) :=
  ((op_Own x.1)).bind fun x1 =>
  ((u1F (x.2, (x.1.2.2.2.2.1, x.1.2.2.2.2.2.1)))).bind fun x2 =>
  ((u2Q (x.2, x.1.2.2.2.2.1))).bind fun x3 =>
  (bif x3.2 then (((getI x.2 x3.1)).bind fun x4 =>
      ((getI x.2 x3.1)).bind fun x5 =>
      ((getI x.2 x3.1)).bind fun x6 =>
      ((getI x.2 x3.1)).bind fun x7 =>
      some (x3.1, (x3.2, (x.2, (x.1, (((((0 : Int), (0 : Int)), (0 : Int), [], (0 : Int), ((0 : Int), (0 : Int)), ((0 : Int), (0 : Int)), (ByteArray.mk ([]).toArray), (0 : Int), (0 : Int)), false, ((0 : Int), (0 : Int)), (ByteArray.mk ([]).toArray), false), (x1.1, (x1.2.1, (x1.2.2.1, (x1.2.2.2, (true, x5.2.1, x7.2.2, x2))))))))))) else
    some (x3.1, (x3.2, (x.2, (x.1, (((((0 : Int), (0 : Int)), (0 : Int), [], (0 : Int), ((0 : Int), (0 : Int)), ((0 : Int), (0 : Int)), (ByteArray.mk ([]).toArray), (0 : Int), (0 : Int)), false, ((0 : Int), (0 : Int)), (ByteArray.mk ([]).toArray), false), (x1.1, (x1.2.1, (x1.2.2.1, (x1.2.2.2, (false, ((0 : Int), (0 : Int)), (ByteArray.mk ([]).toArray), x2)))))))))) : Option (Int × (Bool × ((List Node) × (Op × (Entry × ((Int × Int) × (Int × ((List Int) × ((Int × ((Int × Int) × ((Int × Int) × (ByteArray × (Int × Int))))) × (Bool × ((Int × Int) × (ByteArray × Bool))))))))))))).bind fun x4 =>
  bif x4.2.2.2.2.2.2.2.2.2.2.2.2 then some (x4.2.2.2.2.2.1, (x4.2.2.2.2.2.2.1, (x4.2.2.2.2.2.2.2.1, (x4.2.2.2.2.2.2.2.2.1, (x4.2.2.2.2.2.2.2.2.2, x4.2.2.1))))) else
  bif x4.2.1 then (((getI x4.2.2.1 x4.1)).bind fun x5 =>
    ((getI x4.2.2.1 x4.1)).bind fun x6 =>
    some (x4.2.2.2.2.2.1, (x4.2.2.2.2.2.2.1, (x4.2.2.2.2.2.2.2.1, (x4.2.2.2.2.2.2.2.2.1, (x4.2.2.2.2.2.2.2.2.2, (List.set x4.2.2.1 (Int.toNat x4.1) (x4.2.2.2.1.2.2.2.2.1, x4.2.2.2.1.2.2.2.2.2.1, x4.2.2.2.1.2.2.2.2.2.2.1)))))))) else
  bif (((decide ((0 ≤ x4.1))) && (decide ((x4.1 ≤ ((List.length x4.2.2.1) : Int))))) && (room ((List.length x4.2.2.1) + 1) 48)) then some (x4.2.2.2.2.2.1, (x4.2.2.2.2.2.2.1, (x4.2.2.2.2.2.2.2.1, (x4.2.2.2.2.2.2.2.2.1, (x4.2.2.2.2.2.2.2.2.2, ((List.take (Int.toNat x4.1) x4.2.2.1) ++ ((x4.2.2.2.1.2.2.2.2.1, x4.2.2.2.1.2.2.2.2.2.1, x4.2.2.2.1.2.2.2.2.2.2.1) :: (List.drop (Int.toNat x4.1) x4.2.2.1)))))))) else
  none
def u1m (x : (List Node) × List Node) : Option Bool :=
  bif (((List.length x.1) : Int) != ((List.length x.2) : Int)) then some false else
  (iter (σ := ((List Node) × ((List Node) × (Int × Int)))) (ρ := (Unit ⊕ Bool)) (fun s =>
      bif (decide ((s.2.2.2 < s.2.2.1))) then (((getI s.1 s.2.2.2)).bind fun x1 =>
        ((getI s.2.1 s.2.2.2)).bind fun x2 =>
        bif (Bool.not ((x1.1.1 == x2.1.1) && ((x1.1.2 == x2.1.2) && ((x1.2.1.1 == x2.2.1.1) && ((x1.2.1.2 == x2.2.1.2) && (x1.2.2 == x2.2.2)))))) then some (.inr (.inr false)) else
        some (.inl (s.1, (s.2.1, (s.2.2.1, (IntKind.wrap .i64 (s.2.2.2 + 1))))))) else
      some (.inr (.inl ()))) (x.1, (x.2, (((List.length x.1) : Int), (0 : Int))))).bind fun x1 =>
  (match x1 with
  | .inl y => some true
  | .inr y => some y)
def u4M (x : Tree) : Option Bool :=
  (iter (σ := ((List Entry) × (Int × (Int × (Tree × (List Node)))))) (ρ := ((Tree × (List Node)) ⊕ Bool)) (fun s =>
      bif (decide ((s.2.2.1 < s.2.1))) then (((getI s.1 s.2.2.1)).bind fun x1 =>
        ((u3S x1.1)).bind fun x2 =>
        bif (Bool.not x2) then some (.inr (.inr false)) else
        bif (decide ((0 < s.2.2.1))) then (((getI s.2.2.2.1.2 (IntKind.wrap .i64 (s.2.2.1 - 1)))).bind fun x3 =>
          ((u4F (x3.1, x1.1))).bind fun x4 =>
          bif (Bool.not x4) then some (.inr (.inr false)) else
          ((u19 (x1.1, s.2.2.2.2))).bind fun x5 =>
          ((u34 (((x5.1, x5.2.1, x5.2.2.1, x5.2.2.2.1), x5.2.2.2.2.1), x1))).bind fun x6 =>
          bif (Bool.not x6) then some (.inr (.inr false)) else
          some (.inl (s.1, (s.2.1, ((IntKind.wrap .i64 (s.2.2.1 + 1)), (s.2.2.2.1, x5.2.2.2.2.2)))))) else
        ((u19 (x1.1, s.2.2.2.2))).bind fun x3 =>
        ((u34 (((x3.1, x3.2.1, x3.2.2.1, x3.2.2.2.1), x3.2.2.2.2.1), x1))).bind fun x4 =>
        bif (Bool.not x4) then some (.inr (.inr false)) else
        some (.inl (s.1, (s.2.1, ((IntKind.wrap .i64 (s.2.2.1 + 1)), (s.2.2.2.1, x3.2.2.2.2.2)))))) else
      some (.inr (.inl s.2.2.2))) (x.2, (((List.length x.2) : Int), ((0 : Int), (x, []))))).bind fun x1 =>
  (match x1 with
  | .inl y => ((u1m (y.2, y.1.1))).bind fun x2 =>
    some x2
  | .inr y => some y)
def u6B (x : List Reg) : Option Bool :=
  (iter (σ := ((List Reg) × Int)) (ρ := Bool) (fun s =>
      bif (s.2 == ((List.length s.1) : Int)) then some (.inr true) else
      (((getI s.1 s.2)).bind fun x1 =>
        ((getI s.1 s.2)).bind fun x2 =>
        ((u2X (x1.1, x2.2.1))).bind fun x3 =>
        bif x3 then (((getI s.1 s.2)).bind fun x4 =>
          bif (u2L x4.2.2) then (bif (s.2 == 0) then some true else
            ((getI s.1 (IntKind.wrap .i64 (s.2 - 1)))).bind fun x5 =>
            ((getI s.1 s.2)).bind fun x6 =>
            some (decide ((x5.1 < x6.1)))) else
          some false) else
        some false).bind fun x1 =>
      bif x1 then some (.inl (s.1, (IntKind.wrap .i64 (s.2 + 1)))) else
      some (.inr false)) (x, (0 : Int))).bind fun x1 =>
  some x1
def u36 (x : List Look) : Option Bool :=
  (iter (σ := ((List Look) × Int)) (ρ := Bool) (fun s =>
      bif (s.2 == ((List.length s.1) : Int)) then some (.inr true) else
      (((getI s.1 s.2)).bind fun x1 =>
        bif (u2L x1.1) then (((getI s.1 s.2)).bind fun x2 =>
          bif (decide ((0 < ((List.length x2.2) : Int)))) then (((getI s.1 s.2)).bind fun x3 =>
            ((u6B x3.2)).bind fun x4 =>
            bif x4 then (bif (s.2 == 0) then some true else
              ((getI s.1 (IntKind.wrap .i64 (s.2 - 1)))).bind fun x5 =>
              ((getI s.1 s.2)).bind fun x6 =>
              ((u1G (x5.1, x6.1))).bind fun x7 =>
              some (decide ((x7 < 0)))) else
            some false) else
          some false) else
        some false).bind fun x1 =>
      bif x1 then some (.inl (s.1, (IntKind.wrap .i64 (s.2 + 1)))) else
      some (.inr false)) (x, (0 : Int))).bind fun x1 =>
  some x1
def u1a (x : Shape) : Option Bool :=
  (((u4M x.1)).bind fun x1 =>
    bif x1 then (((u36 x.2)).bind fun x2 =>
      some x2) else
    some false).bind fun x1 =>
  some x1
def u37 (x : Shape) : Option Int :=
  ((u1a x)).bind fun x1 =>
  bif (Bool.not x1) then some (1 : Int) else
  some (0 : Int)
def u28 (x : Entry × List Node) : Option (List Node) :=
  ((u2Q (x.2, x.1.1.2.2.2.2.1))).bind fun x1 =>
  bif x.1.2.2.2.2 then some x.2 else
  bif x.1.2.1 then (((getI x.2 x1.1)).bind fun x2 =>
    ((getI x.2 x1.1)).bind fun x3 =>
    ((getI (List.set x.2 (Int.toNat x1.1) (x3.1, x.1.2.2.1, x3.2.2)) x1.1)).bind fun x4 =>
    ((getI (List.set x.2 (Int.toNat x1.1) (x3.1, x.1.2.2.1, x3.2.2)) x1.1)).bind fun x5 =>
    some (List.set (List.set x.2 (Int.toNat x1.1) (x3.1, x.1.2.2.1, x3.2.2)) (Int.toNat x1.1) (x5.1, x5.2.1, x.1.2.2.2.1))) else
  bif ((((decide ((0 ≤ x1.1))) && (decide ((x1.1 ≤ (IntKind.wrap .i64 (x1.1 + 1)))))) && (decide (((IntKind.wrap .i64 (x1.1 + 1)) ≤ ((List.length x.2) : Int))))) && (room (List.length x.2) 48)) then some ((List.take (Int.toNat x1.1) x.2) ++ (List.drop (Int.toNat (IntKind.wrap .i64 (x1.1 + 1))) x.2)) else
  none
def u4K (x : (List Node) × (List Entry) × Op) : Option ((List Node) × (List Entry) × Int) :=
  (iter (σ := (Int × ((List Entry) × (Op × (Tree × (List Node)))))) (ρ := (Int × Tree)) (fun s =>
      (bif (decide ((0 < s.1))) then (((getI s.2.1 (IntKind.wrap .i64 (s.1 - 1)))).bind fun x1 =>
          ((getI s.2.1 (IntKind.wrap .i64 (s.1 - 1)))).bind fun x2 =>
          ((u4F (s.2.2.1, x2.1))).bind fun x3 =>
          some x3) else
        some false).bind fun x1 =>
      bif x1 then (((getI s.2.1 (IntKind.wrap .i64 (s.1 - 1)))).bind fun x2 =>
        ((getI s.2.1 (IntKind.wrap .i64 (s.1 - 1)))).bind fun x3 =>
        ((u28 (x3, s.2.2.2.2))).bind fun x4 =>
        some (.inl ((IntKind.wrap .i64 (s.1 - 1)), (s.2.1, (s.2.2.1, (s.2.2.2.1, x4)))))) else
      bif ((decide ((0 ≤ s.1))) && (decide ((s.1 ≤ ((List.length s.2.1) : Int))))) then ((bif (decide ((0 < s.1))) then (((getI s.2.1 (IntKind.wrap .i64 (s.1 - 1)))).bind fun x2 =>
            ((getI s.2.1 (IntKind.wrap .i64 (s.1 - 1)))).bind fun x3 =>
            some ((x3.1.1.1 == s.2.2.1.1.1) && (x3.1.1.2 == s.2.2.1.1.2))) else
          some false).bind fun x2 =>
        bif x2 then ((iter (σ := ((List Entry) × (Int × (Int × ((List Entry) × (Op × (Tree × (List Node)))))))) (ρ := ((List Entry) × (Op × (Tree × (List Node))))) (fun s1 =>
              bif (decide ((s1.2.2.1 < s1.2.1))) then (((getI s1.1 s1.2.2.1)).bind fun x3 =>
                ((u19 (x3.1, s1.2.2.2.2.2.2))).bind fun x4 =>
                some (.inl (s1.1, (s1.2.1, ((IntKind.wrap .i64 (s1.2.2.1 + 1)), (s1.2.2.2.1, (s1.2.2.2.2.1, (s1.2.2.2.2.2.1, x4.2.2.2.2.2)))))))) else
              some (.inr s1.2.2.2)) ((List.drop (Int.toNat s.1) s.2.1), (((List.length (List.drop (Int.toNat s.1) s.2.1)) : Int), ((0 : Int), s.2)))).bind fun x3 =>
          some (.inr ((4 : Int), ([], [])))) else
        bif ((decide ((0 ≤ s.1))) && (decide ((s.1 ≤ ((List.length s.2.1) : Int))))) then (bif (room (List.length (List.take (Int.toNat s.1) s.2.1)) 168) then (((u19 (s.2.2.1, s.2.2.2.2))).bind fun x3 =>
            bif (room (List.length ((List.take (Int.toNat s.1) s.2.1) ++ [((x3.1, x3.2.1, x3.2.2.1, x3.2.2.2.1), x3.2.2.2.2.1)])) 168) then ((iter (σ := ((List Entry) × ((List Entry) × (Int × (Int × ((List Entry) × (Op × (Tree × (List Node))))))))) (ρ := ((List Entry) × ((List Entry) × (Op × (Tree × (List Node)))))) (fun s1 =>
                  bif (decide ((s1.2.2.2.1 < s1.2.2.1))) then (((getI s1.2.1 s1.2.2.2.1)).bind fun x4 =>
                    ((u19 (x4.1, s1.2.2.2.2.2.2.2))).bind fun x5 =>
                    bif (room (List.length (s1.1 ++ [((x5.1, x5.2.1, x5.2.2.1, x5.2.2.2.1), x5.2.2.2.2.1)])) 168) then some (.inl ((s1.1 ++ [((x5.1, x5.2.1, x5.2.2.1, x5.2.2.2.1), x5.2.2.2.2.1)]), (s1.2.1, (s1.2.2.1, ((IntKind.wrap .i64 (s1.2.2.2.1 + 1)), (s1.2.2.2.2.1, (s1.2.2.2.2.2.1, (s1.2.2.2.2.2.2.1, x5.2.2.2.2.2)))))))) else
                    none) else
                  some (.inr (s1.1, s1.2.2.2.2))) (((List.take (Int.toNat s.1) s.2.1) ++ [((x3.1, x3.2.1, x3.2.2.1, x3.2.2.2.1), x3.2.2.2.2.1)]), ((List.drop (Int.toNat s.1) s.2.1), (((List.length (List.drop (Int.toNat s.1) s.2.1)) : Int), ((0 : Int), (s.2.1, (s.2.2.1, (s.2.2.2.1, x3.2.2.2.2.2)))))))).bind fun x4 =>
              some (.inr ((0 : Int), (x4.2.2.2.2, x4.1)))) else
            none) else
          none) else
        none) else
      none) (((List.length x.2.1) : Int), (x.2.1, (x.2.2, (([], []), x.1))))).bind fun x1 =>
  some (x1.2.1, (x1.2.2, x1.1))
def u2H (x : Reg × Int) : Int :=
  (u0r (x.1.1, x.2))
def u0o (x : (List Reg) × Int) : Option (Int × Bool) :=
  (iter (σ := ((List Reg) × Reg)) (ρ := ((List Reg) × (Int × (Int × Int)))) (fun s =>
      bif (decide ((s.2.2.2.1 < s.2.2.2.2))) then (bif (decide ((1 < 0))) then none else
        ((getI s.1 (IntKind.wrap .i64 (Int.fdiv (IntKind.wrap .u64 (IntKind.wrap .i64 (s.2.2.2.1 + s.2.2.2.2))) (2 ^ (Min.min (Int.toNat 1) (IntKind.bits .u64))))))).bind fun x1 =>
        bif (decide (((u2H (x1, s.2.1)) < 0))) then some (.inl (s.1, (s.2.1, (s.2.2.1, ((IntKind.wrap .i64 ((IntKind.wrap .i64 (Int.fdiv (IntKind.wrap .u64 (IntKind.wrap .i64 (s.2.2.2.1 + s.2.2.2.2))) (2 ^ (Min.min (Int.toNat 1) (IntKind.bits .u64))))) + 1)), s.2.2.2.2))))) else
        some (.inl (s.1, (s.2.1, (s.2.2.1, (s.2.2.2.1, (IntKind.wrap .i64 (Int.fdiv (IntKind.wrap .u64 (IntKind.wrap .i64 (s.2.2.2.1 + s.2.2.2.2))) (2 ^ (Min.min (Int.toNat 1) (IntKind.bits .u64))))))))))) else
      some (.inr (s.1, (s.2.1, (s.2.2.1, s.2.2.2.1))))) (x.1, (x.2, (((List.length x.1) : Int), ((0 : Int), ((List.length x.1) : Int)))))).bind fun x1 =>
  (bif (decide ((x1.2.2.2 < x1.2.2.1))) then (((getI x1.1 x1.2.2.2)).bind fun x2 =>
      some (x1.2.2.2, ((u2H (x2, x1.2.1)) == 0))) else
    some (x1.2.2.2, false)).bind fun x2 =>
  some x2
def u4Y (x : (List Reg) × Int) : Option (Int × Bool) :=
  ((u0o x)).bind fun x1 =>
  some x1
def u5u (x : (List Reg) × Reg) : Option (List Reg) :=
  bif (room (List.length x.1) 32) then (((u4Y (x.1, x.2.1))).bind fun x1 =>
    bif (Bool.not x1.2) then (bif (((decide ((0 ≤ x1.1))) && (decide ((x1.1 ≤ ((List.length x.1) : Int))))) && (room ((List.length x.1) + 1) 32)) then some ((List.take (Int.toNat x1.1) x.1) ++ (x.2 :: (List.drop (Int.toNat x1.1) x.1))) else
      none) else
    ((getI x.1 x1.1)).bind fun x2 =>
    ((getI x.1 x1.1)).bind fun x3 =>
    ((u1G (x3.2.2, x.2.2.2))).bind fun x4 =>
    bif (decide ((x4 < 0))) then (((getI x.1 x1.1)).bind fun x5 =>
      ((getI x.1 x1.1)).bind fun x6 =>
      some (List.set x.1 (Int.toNat x1.1) x.2)) else
    some x.1) else
  none
def u2S (x : (List Node) × (List Entry) × (List Look) × Op) : Option ((List Node) × (List Entry) × (List Look) × Int) :=
  bif (x.2.2.2.2.2.2.1 == 1) then (((u4K (x.1, (x.2.1, x.2.2.2)))).bind fun x1 =>
    bif (x1.2.2 != 0) then some ([], ([], ([], x1.2.2))) else
    some (x1.1, (x1.2.1, (x.2.2.1, (0 : Int))))) else
  ((u3q (x.2.2.1, x.2.2.2.2.2.2.2.1))).bind fun x1 =>
  (bif (Bool.not x1.2) then (bif (((decide ((0 ≤ x1.1))) && (decide ((x1.1 ≤ ((List.length x.2.2.1) : Int))))) && (room ((List.length x.2.2.1) + 1) 40)) then some (x1.1, (x.1, (x.2.1, (((List.take (Int.toNat x1.1) x.2.2.1) ++ ((x.2.2.2.2.2.2.2.1, []) :: (List.drop (Int.toNat x1.1) x.2.2.1))), (x.2.2.2, ((([], []), []) : Shape)))))) else
      none) else
    some (x1.1, (x.1, (x.2.1, (x.2.2.1, (x.2.2.2, ((([], []), []) : Shape)))))) : Option (Int × ((List Node) × ((List Entry) × ((List Look) × (Op × Shape)))))).bind fun x2 =>
  ((getI x2.2.2.2.1 x2.1)).bind fun x3 =>
  ((getI x2.2.2.2.1 x2.1)).bind fun x4 =>
  ((u5u (x4.2, (x2.2.2.2.2.1.2.2.2.2.2.2.2.1, x2.2.2.2.2.1.2.2.2.2.2.2.2.2, x2.2.2.2.2.1.1)))).bind fun x5 =>
  ((getI x2.2.2.2.1 x2.1)).bind fun x6 =>
  ((getI x2.2.2.2.1 x2.1)).bind fun x7 =>
  some (x2.2.1, (x2.2.2.1, ((List.set x2.2.2.2.1 (Int.toNat x2.1) (x7.1, x5)), (0 : Int))))
def u4L (x : Tree) : Option ((List Node) × List Entry) :=
  bif (room (List.length x.1) 48) then (bif (room (List.length x.2) 168) then ((iter (σ := (Int × (Int × ((List Node) × ((List (Bool × Entry)) × Tree))))) (ρ := ((List Node) × ((List (Bool × Entry)) × Tree))) (fun s =>
          bif (decide ((s.2.1 < s.1))) then (((getI s.2.2.2.1 s.2.1)).bind fun x1 =>
            ((getI s.2.2.2.1 s.2.1)).bind fun x2 =>
            bif x2.1 then none else
            ((op_Own x2.2.1)).bind fun x3 =>
            ((getI s.2.2.2.1 s.2.1)).bind fun x4 =>
            ((getI s.2.2.2.1 s.2.1)).bind fun x5 =>
            bif x5.1 then none else
            some (.inl (s.1, ((IntKind.wrap .i64 (s.2.1 + 1)), (s.2.2.1, ((List.set s.2.2.2.1 (Int.toNat s.2.1) (true, x3, x5.2.2)), s.2.2.2.2)))))) else
          some (.inr s.2.2)) (((List.length x.2) : Int), ((0 : Int), (x.1, ((mkM x.2), ([], [])))))).bind fun x1 =>
      bif (allM x1.2.1) then some (x1.1, (unM x1.2.1)) else
      none) else
    none) else
  none
def u3s (x : Shape) : Option ((List Node) × (List Entry) × List Look) :=
  ((u4L x.1)).bind fun x1 =>
  bif (room (List.length x.2) 40) then ((iter (σ := (Int × (Int × ((List Node) × ((List Entry) × ((List (Bool × Look)) × Shape)))))) (ρ := ((List Node) × ((List Entry) × ((List (Bool × Look)) × Shape)))) (fun s =>
        bif (decide ((s.2.1 < s.1))) then (((getI s.2.2.2.2.1 s.2.1)).bind fun x2 =>
          ((getI s.2.2.2.2.1 s.2.1)).bind fun x3 =>
          bif x3.1 then none else
          bif (room (List.length x3.2.2) 32) then (((getI s.2.2.2.2.1 s.2.1)).bind fun x4 =>
            ((getI s.2.2.2.2.1 s.2.1)).bind fun x5 =>
            bif x5.1 then none else
            some (.inl (s.1, ((IntKind.wrap .i64 (s.2.1 + 1)), (s.2.2.1, (s.2.2.2.1, ((List.set s.2.2.2.2.1 (Int.toNat s.2.1) (true, x5.2.1, x3.2.2)), s.2.2.2.2.2))))))) else
          none) else
        some (.inr s.2.2)) (((List.length x.2) : Int), ((0 : Int), (x1.1, (x1.2, ((mkM x.2), ((([], []), []) : Shape))))))).bind fun x2 =>
    bif (allM x2.2.2.1) then some (x2.1, (x2.2.1, (unM x2.2.2.1))) else
    none) else
  none
def u2f (x : Shape × Op) : Option ((List Node) × (List Entry) × (List Look) × Int) :=
  (((u1a x.1)).bind fun x1 =>
    bif (Bool.not x1) then some true else
    ((u5W x.2)).bind fun x2 =>
    some (Bool.not x2)).bind fun x1 =>
  bif x1 then some ([], ([], ([], (1 : Int)))) else
  ((u3s x.1)).bind fun x2 =>
  ((u2S (x2.1, (x2.2.1, (x2.2.2, x.2))))).bind fun x3 =>
  some x3
def u1K (x : Tree × Op) : Option (Tree × Bool) :=
  ((u0P x.1)).bind fun x1 =>
  (iter (σ := ((List Op) × (Bool × ((List Op) × (Int × (Tree × (Op × Tree))))))) (ρ := (((List Op) × (Bool × (Tree × (Op × Tree)))) ⊕ (Bool × Tree))) (fun s =>
      bif (decide ((s.2.2.2.1 < ((List.length s.2.2.1) : Int)))) then (((getI s.2.2.1 s.2.2.2.1)).bind fun x2 =>
        bif ((u0k (x2.1, s.2.2.2.2.2.1.1)) == 0) then some (.inr (.inr (false, s.2.2.2.2.1))) else
        bif (bif (Bool.not s.2.1) then (decide ((0 < (u0k (x2.1, s.2.2.2.2.2.1.1))))) else false) then (bif (room (List.length (s.1 ++ [s.2.2.2.2.2.1])) 120) then (((getI s.2.2.1 s.2.2.2.1)).bind fun x3 =>
            bif (room (List.length ((s.1 ++ [s.2.2.2.2.2.1]) ++ [x3])) 120) then some (.inl (((s.1 ++ [s.2.2.2.2.2.1]) ++ [x3]), (true, (s.2.2.1, ((IntKind.wrap .i64 (s.2.2.2.1 + 1)), s.2.2.2.2))))) else
            none) else
          none) else
        ((getI s.2.2.1 s.2.2.2.1)).bind fun x3 =>
        bif (room (List.length (s.1 ++ [x3])) 120) then some (.inl ((s.1 ++ [x3]), (s.2.1, (s.2.2.1, ((IntKind.wrap .i64 (s.2.2.2.1 + 1)), s.2.2.2.2))))) else
        none) else
      some (.inr (.inl (s.1, (s.2.1, s.2.2.2.2))))) ([], (false, (x1, ((0 : Int), (x.1, (x.2, ([], [])))))))).bind fun x2 =>
  (match x2 with
  | .inl y => bif (Bool.not y.2.1) then (bif (room (List.length (y.1 ++ [y.2.2.2.1])) 120) then (((u0Y (y.1 ++ [y.2.2.2.1]))).bind fun x3 =>
        some (x3, true)) else
      none) else
    ((u0Y y.1)).bind fun x3 =>
    some (x3, true)
  | .inr y => some (y.2, y.1))
def u1h (x : (List Reg) × Int × Int × Stamp) : Option (List Reg) :=
  (iter (σ := ((List Reg) × (Int × ((List Reg) × (Bool × (Int × ((Int × Int) × Reg))))))) (ρ := ((List Reg) × (Bool × ((Int × Int) × Reg)))) (fun s =>
      bif (decide ((s.2.2.2.2.1 < ((List.length s.1) : Int)))) then (((getI s.1 s.2.2.2.2.1)).bind fun x1 =>
        bif (x1.1 == s.2.1) then (((getI s.1 s.2.2.2.2.1)).bind fun x2 =>
          (bif (decide (((u0k (x2.2.2, s.2.2.2.2.2.1)) < 0))) then (bif (room (List.length (s.2.2.1 ++ [s.2.2.2.2.2.2])) 32) then some (s.1, (s.2.1, ((s.2.2.1 ++ [s.2.2.2.2.2.2]), (true, s.2.2.2.2)))) else
              none) else
            ((getI s.1 s.2.2.2.2.1)).bind fun x3 =>
            bif (room (List.length (s.2.2.1 ++ [x3])) 32) then some (s.1, (s.2.1, ((s.2.2.1 ++ [x3]), (true, s.2.2.2.2)))) else
            none).bind fun x3 =>
          some (.inl (x3.1, (x3.2.1, (x3.2.2.1, (x3.2.2.2.1, ((IntKind.wrap .i64 (x3.2.2.2.2.1 + 1)), x3.2.2.2.2.2))))))) else
        (bif (Bool.not s.2.2.2.1) then (((getI s.1 s.2.2.2.2.1)).bind fun x2 =>
            some (decide ((s.2.1 < x2.1)))) else
          some false).bind fun x2 =>
        bif x2 then (bif (room (List.length (s.2.2.1 ++ [s.2.2.2.2.2.2])) 32) then (((getI s.1 s.2.2.2.2.1)).bind fun x3 =>
            bif (room (List.length ((s.2.2.1 ++ [s.2.2.2.2.2.2]) ++ [x3])) 32) then some (.inl (s.1, (s.2.1, (((s.2.2.1 ++ [s.2.2.2.2.2.2]) ++ [x3]), (true, ((IntKind.wrap .i64 (s.2.2.2.2.1 + 1)), s.2.2.2.2.2)))))) else
            none) else
          none) else
        ((getI s.1 s.2.2.2.2.1)).bind fun x3 =>
        bif (room (List.length (s.2.2.1 ++ [x3])) 32) then some (.inl (s.1, (s.2.1, ((s.2.2.1 ++ [x3]), (s.2.2.2.1, ((IntKind.wrap .i64 (s.2.2.2.2.1 + 1)), s.2.2.2.2.2)))))) else
        none) else
      some (.inr (s.2.2.1, (s.2.2.2.1, s.2.2.2.2.2)))) (x.1, (x.2.1, ([], (false, ((0 : Int), (x.2.2.2, x.2))))))).bind fun x1 =>
  bif (Bool.not x1.2.1) then (bif (room (List.length (x1.1 ++ [x1.2.2.2])) 32) then some (x1.1 ++ [x1.2.2.2]) else
    none) else
  some x1.1
def u1Z (x : Shape × Op) : Option (Shape × Bool) :=
  ((u0n x.1)).bind fun x1 =>
  bif (x.2.2.2.2.1 == 1) then (((u1K (x.1.1, x.2))).bind fun x2 =>
    ((u0N x2.1)).bind fun x3 =>
    some ((x3, x1.2), x2.2)) else
  (iter (σ := (Bool × ((List Look) × (Int × (Shape × (Op × (Shape × Shape))))))) (ρ := (Bool × ((List Look) × (Shape × (Op × (Shape × Shape)))))) (fun s =>
      bif (decide ((s.2.2.1 < ((List.length s.2.2.2.2.2.2.2) : Int)))) then (((getI s.2.2.2.2.2.2.2 s.2.2.1)).bind fun x2 =>
        (bif (bif (Bool.not s.1) then (decide ((0 < (u0k (x2.1, s.2.2.2.2.1.2.2.2.2.1))))) else false) then (((u1h ([], (s.2.2.2.2.1.2.2.2.2.2.2.2.1, (s.2.2.2.2.1.2.2.2.2.2.2.2.2, s.2.2.2.2.1.1)))) : Option (List Reg)).bind fun x3 =>
            bif (room (List.length (s.2.1 ++ [(s.2.2.2.2.1.2.2.2.2.1, x3)])) 40) then some (true, ((s.2.1 ++ [(s.2.2.2.2.1.2.2.2.2.1, x3)]), (s.2.2.1, ((u0k (x2.1, s.2.2.2.2.1.2.2.2.2.1)), (s.2.2.2.1, (s.2.2.2.2.1, (s.2.2.2.2.2.1, (s.2.2.2.2.2.2, x2)))))))) else
            none) else
          some (s.1, (s.2.1, (s.2.2.1, ((u0k (x2.1, s.2.2.2.2.1.2.2.2.2.1)), (s.2.2.2.1, (s.2.2.2.2.1, (s.2.2.2.2.2.1, (s.2.2.2.2.2.2, x2)))))))) : Option (Bool × ((List Look) × (Int × (Int × (Shape × (Op × (Shape × (Shape × Look))))))))).bind fun x3 =>
        bif (x3.2.2.2.1 == 0) then (((u1h (x3.2.2.2.2.2.2.2.2.2, (x3.2.2.2.2.2.1.2.2.2.2.2.2.2.1, (x3.2.2.2.2.2.1.2.2.2.2.2.2.2.2, x3.2.2.2.2.2.1.1))))).bind fun x4 =>
          bif (room (List.length (x3.2.1 ++ [(x3.2.2.2.2.2.2.2.2.1, x4)])) 40) then some (.inl (true, ((x3.2.1 ++ [(x3.2.2.2.2.2.2.2.2.1, x4)]), ((IntKind.wrap .i64 (x3.2.2.1 + 1)), (x3.2.2.2.2.1, (x3.2.2.2.2.2.1, (x3.2.2.2.2.2.2.1, x3.2.2.2.2.2.2.2.1))))))) else
          none) else
        bif (room (List.length (x3.2.1 ++ [x3.2.2.2.2.2.2.2.2])) 40) then some (.inl (x3.1, ((x3.2.1 ++ [x3.2.2.2.2.2.2.2.2]), ((IntKind.wrap .i64 (x3.2.2.1 + 1)), (x3.2.2.2.2.1, (x3.2.2.2.2.2.1, (x3.2.2.2.2.2.2.1, x3.2.2.2.2.2.2.2.1))))))) else
        none) else
      some (.inr (s.1, (s.2.1, s.2.2.2)))) (false, ([], ((0 : Int), (x.1, (x.2, (((([], []), []) : Shape), x1))))))).bind fun x2 =>
  bif (Bool.not x2.1) then (((u1h ([], (x2.2.2.2.1.2.2.2.2.2.2.2.1, (x2.2.2.2.1.2.2.2.2.2.2.2.2, x2.2.2.2.1.1)))) : Option (List Reg)).bind fun x3 =>
    bif (room (List.length (x2.2.1 ++ [(x2.2.2.2.1.2.2.2.2.1, x3)])) 40) then some ((x2.2.2.2.2.2.1, (x2.2.1 ++ [(x2.2.2.2.1.2.2.2.2.1, x3)])), true) else
    none) else
  some ((x2.2.2.2.2.2.1, x2.2.1), true)
def u06 (x : Unit) : Op :=
  (((1 : Int), (0 : Int)), (1 : Int), [0], (1 : Int), ((1 : Int), (0 : Int)), ((0 : Int), (0 : Int)), (ByteArray.mk ([107]).toArray), (0 : Int), (0 : Int))
def u2q (x : Tree × Stamp) : Option (List Node) :=
  (iter (σ := ((List Node) × ((List Node) × (Int × (Int × (Tree × (Int × Int))))))) (ρ := ((List Node) × (Tree × (Int × Int)))) (fun s =>
      bif (decide ((s.2.2.2.1 < s.2.2.1))) then (((getI s.2.1 s.2.2.2.1)).bind fun x1 =>
        bif ((x1.2.1.1 == s.2.2.2.2.2.1) && (x1.2.1.2 == s.2.2.2.2.2.2)) then (bif (room (List.length (s.1 ++ [x1])) 48) then some (.inl ((s.1 ++ [x1]), (s.2.1, (s.2.2.1, ((IntKind.wrap .i64 (s.2.2.2.1 + 1)), s.2.2.2.2))))) else
          none) else
        some (.inl (s.1, (s.2.1, (s.2.2.1, ((IntKind.wrap .i64 (s.2.2.2.1 + 1)), s.2.2.2.2)))))) else
      some (.inr (s.1, s.2.2.2.2))) ([], (x.1.1, (((List.length x.1.1) : Int), ((0 : Int), x))))).bind fun x1 =>
  ((u25 x1.1)).bind fun x2 =>
  some x2
def u3T (x : Tree × Stamp) : Option (Node × Bool) :=
  ((u2Q (x.1.1, x.2))).bind fun x1 =>
  bif (Bool.not x1.2) then some ((((0 : Int), (0 : Int)), ((0 : Int), (0 : Int)), (ByteArray.mk ([]).toArray)), false) else
  ((getI x.1.1 x1.1)).bind fun x2 =>
  some (x2, true)
def u6o (x : Tree × Stamp) : Option (List Stamp) :=
  (iter (σ := ((List (Int × Int)) × (Tree × ((Int × Int) × Node)))) (ρ := (List (Int × Int))) (fun s =>
      ((u3T (s.2.1, s.2.2.1))).bind fun x1 =>
      bif x1.2 then (bif (room (List.length (s.1 ++ [x1.1.2.1])) 16) then some (.inl ((s.1 ++ [x1.1.2.1]), (s.2.1, (x1.1.2.1, x1.1)))) else
        none) else
      some (.inr s.1)) ([], (x.1, (x.2, (((0 : Int), (0 : Int)), ((0 : Int), (0 : Int)), (ByteArray.mk ([]).toArray)))))).bind fun x1 =>
  some x1
def u31 (x : Tree × Stamp) : Option Bool :=
  ((u6o x)).bind fun x1 =>
  (bif ((x.2.1 == (u0i ()).1) && (x.2.2 == (u0i ()).2)) then some true else
    bif (decide ((0 < ((List.length x1) : Int)))) then (((getI x1 (IntKind.wrap .i64 (((List.length x1) : Int) - 1)))).bind fun x2 =>
      some ((x2.1 == (u0i ()).1) && (x2.2 == (u0i ()).2))) else
    some false).bind fun x2 =>
  some x2
def u3B (x : Node × Stamp) : Bool :=
  ((x.1.1.1 == x.2.1) && (x.1.1.2 == x.2.2))
def u1T (x : (List Node) × Stamp) : Option Int :=
  (iter (σ := ((List Node) × ((Int × Int) × (Int × Int)))) (ρ := (Unit ⊕ Int)) (fun s =>
      bif (decide ((s.2.2.2 < s.2.2.1))) then (((getI s.1 s.2.2.2)).bind fun x1 =>
        bif (u3B (x1, s.2.1)) then some (.inr (.inr s.2.2.2)) else
        some (.inl (s.1, (s.2.1, (s.2.2.1, (IntKind.wrap .i64 (s.2.2.2 + 1))))))) else
      some (.inr (.inl ()))) (x.1, (x.2, (((List.length x.1) : Int), (0 : Int))))).bind fun x1 =>
  (match x1 with
  | .inl y => some ((-1) : Int)
  | .inr y => some y)
def key_at (x : ByteArray × Int × Int) : Option Int :=
  bif (decide ((x.2.1 < ((ByteArray.size x.1) : Int)))) then (((getB x.1 x.2.1)).bind fun x1 =>
    some (IntKind.wrap .i64 x1)) else
  some x.2.2
def u3b (x : ByteArray × ByteArray) : Option (ByteArray × Int) :=
  (bif (Bool.not ((ByteArray.toList x.1) == (ByteArray.toList (ByteArray.mk ([]).toArray)))) then (((u3P x.1)).bind fun x1 =>
      bif (Bool.not x1) then some true else
      bif (Bool.not ((ByteArray.toList x.2) == (ByteArray.toList (ByteArray.mk ([]).toArray)))) then (((u3P x.2)).bind fun x2 =>
        bif (Bool.not x2) then some true else
        some (Bool.not (Go.Op.bytesLess (ByteArray.toList x.1) (ByteArray.toList x.2)))) else
      some false) else
    bif (Bool.not ((ByteArray.toList x.2) == (ByteArray.toList (ByteArray.mk ([]).toArray)))) then (((u3P x.2)).bind fun x1 =>
      bif (Bool.not x1) then some true else
      some (Bool.not (Go.Op.bytesLess (ByteArray.toList x.1) (ByteArray.toList x.2)))) else
    some false : Option Bool).bind fun x1 =>
  bif x1 then some ((ByteArray.mk ([]).toArray), (1 : Int)) else
  (iter (σ := (ByteArray × (ByteArray × ((List Int) × (Int × Bool))))) (ρ := (ByteArray × Int)) (fun s =>
      bif (s.2.2.2.1 == 64) then some (.inr ((ByteArray.mk ([]).toArray), (5 : Int))) else
      ((key_at (s.1, (s.2.2.2.1, (0 : Int))))).bind fun x2 =>
      (bif (Bool.not s.2.2.2.2) then (((key_at (s.2.1, (s.2.2.2.1, (256 : Int))))).bind fun x3 =>
          some (s.1, (s.2.1, (s.2.2.1, (s.2.2.2.1, (s.2.2.2.2, (x2, x3))))))) else
        some (s.1, (s.2.1, (s.2.2.1, (s.2.2.2.1, (s.2.2.2.2, (x2, (256 : Int)))))))).bind fun x3 =>
      bif (decide (((IntKind.wrap .i64 (x3.2.2.2.2.2.1 + 2)) ≤ x3.2.2.2.2.2.2))) then (bif (2 == 0) then none else
        bif (room (List.length (x3.2.2.1 ++ [(IntKind.wrap .u8 (IntKind.wrap .i64 (x3.2.2.2.2.2.1 + (IntKind.wrap .i64 (Int.tdiv (IntKind.wrap .i64 (x3.2.2.2.2.2.2 - x3.2.2.2.2.2.1)) 2)))))])) 1) then some (.inr ((ByteArray.mk ((List.map (fun n => (UInt8.ofNat (Int.toNat n))) (x3.2.2.1 ++ [(IntKind.wrap .u8 (IntKind.wrap .i64 (x3.2.2.2.2.2.1 + (IntKind.wrap .i64 (Int.tdiv (IntKind.wrap .i64 (x3.2.2.2.2.2.2 - x3.2.2.2.2.2.1)) 2)))))]))).toArray), (0 : Int))) else
        none) else
      bif (room (List.length (x3.2.2.1 ++ [(IntKind.wrap .u8 x3.2.2.2.2.2.1)])) 1) then some (.inl (x3.1, (x3.2.1, ((x3.2.2.1 ++ [(IntKind.wrap .u8 x3.2.2.2.2.2.1)]), ((IntKind.wrap .i64 (x3.2.2.2.1 + 1)), (bif x3.2.2.2.2.1 then true else (x3.2.2.2.2.2.2 == (IntKind.wrap .i64 (x3.2.2.2.2.2.1 + 1))))))))) else
      none) (x.1, (x.2, ([], ((0 : Int), ((ByteArray.toList x.2) == (ByteArray.toList (ByteArray.mk ([]).toArray)))))))).bind fun x2 =>
  some x2
def u4T (x : Shape × Stamp × Stamp) : Option (ByteArray × Int) :=
  ((u31 (x.1.1, x.2.1))).bind fun x1 =>
  bif (Bool.not x1) then some ((ByteArray.mk ([]).toArray), (3 : Int)) else
  ((u2q (x.1.1, x.2.1))).bind fun x2 =>
  (bif (Bool.not ((x.2.2.1 == (u0i ()).1) && (x.2.2.2 == (u0i ()).2))) then (((u1T (x2, x.2.2))).bind fun x3 =>
      some (x2, (x3, x))) else
    some (x2, (((List.length x2) : Int), x))).bind fun x3 =>
  bif (decide ((x3.2.1 < 0))) then some ((ByteArray.mk ([]).toArray), (3 : Int)) else
  (bif (decide ((0 < x3.2.1))) then (((getI x3.1 (IntKind.wrap .i64 (x3.2.1 - 1)))).bind fun x4 =>
      some (x3.1, (x3.2.1, (x4.2.2, ((ByteArray.mk ([]).toArray), x3.2.2))))) else
    some (x3.1, (x3.2.1, ((ByteArray.mk ([]).toArray), ((ByteArray.mk ([]).toArray), x3.2.2)))) : Option ((List Node) × (Int × (ByteArray × (ByteArray × (Shape × ((Int × Int) × (Int × Int)))))))).bind fun x4 =>
  (bif (decide ((x4.2.1 < ((List.length x4.1) : Int)))) then (((getI x4.1 x4.2.1)).bind fun x5 =>
      some (x4.2.2.1, (x5.2.2, x4.2.2.2.2))) else
    some x4.2.2).bind fun x5 =>
  bif (bif ((ByteArray.toList x5.1) == (ByteArray.toList x5.2.1)) then (Bool.not ((ByteArray.toList x5.1) == (ByteArray.toList (ByteArray.mk ([]).toArray)))) else false) then some ((ByteArray.mk ([]).toArray), (5 : Int)) else
  ((u3b (x5.1, x5.2.1))).bind fun x6 =>
  some x6
def u3r (x : Shape × Stamp × Stamp) : Option (ByteArray × Int) :=
  ((u1a x.1)).bind fun x1 =>
  bif (Bool.not x1) then some ((ByteArray.mk ([]).toArray), (1 : Int)) else
  ((u4T x)).bind fun x2 =>
  some x2
def u2t (x : Shape × Op) : Option (Shape × Int) :=
  (((u1a x.1)).bind fun x1 =>
    bif (Bool.not x1) then some true else
    ((u5W x.2)).bind fun x2 =>
    some (Bool.not x2)).bind fun x1 =>
  bif x1 then some (((([], []), []) : Shape), (1 : Int)) else
  ((u3s x.1)).bind fun x2 =>
  ((u2S (x2.1, (x2.2.1, (x2.2.2, x.2))))).bind fun x3 =>
  some (((x3.1, x3.2.1), x3.2.2.1), x3.2.2.2)
def u1N (x : Unit) : Option Bool :=
  ((u2t (((([], []), []) : Shape), (u06 ()))) : Option (Shape × Int)).bind fun x1 =>
  ((u3r (x1.1, (((0 : Int), (0 : Int)), ((0 : Int), (0 : Int)))))).bind fun x2 =>
  some (bif ((u0t x1.2) == 0) then (bif ((u0t x2.2) == 0) then (Bool.not ((Go.Op.bytesLess (ByteArray.toList x2.1) (ByteArray.toList (ByteArray.mk ([107]).toArray))) || ((ByteArray.toList x2.1) == (ByteArray.toList (ByteArray.mk ([107]).toArray))))) else false) else false)
def u0T (x : u0U) : Option Bool :=
  ((u1O x)).bind fun x1 =>
  bif x1 then some true else
  ((u0n x.1)).bind fun x2 =>
  (iter (σ := (Int × (u0U × Shape))) (ρ := ((u0U × Shape) ⊕ Bool)) (fun s =>
      bif (bif (decide ((s.1 < ((List.length s.2.1.2.1) : Int)))) then (decide ((s.1 < 12))) else false) then (((u1J s.2.2)).bind fun x3 =>
        ((u37 s.2.2)).bind fun x4 =>
        bif (bif (Bool.not (x3 == ((u0t x4) == 0))) then true else (bif (Bool.not x3) then ((u0t x4) != 1) else false)) then some (.inr (.inr false)) else
        ((u0n s.2.2)).bind fun x5 =>
        ((getI s.2.1.2.1 s.1)).bind fun x6 =>
        ((u0Q x6)).bind fun x7 =>
        ((u2f (x5, x7))).bind fun x8 =>
        (((u0D (x5, s.2.2))).bind fun x9 =>
          bif (Bool.not x9) then some true else
          ((getI s.2.1.2.1 s.1)).bind fun x10 =>
          ((u0I (x7, x10))).bind fun x11 =>
          some (Bool.not x11)).bind fun x9 =>
        bif x9 then some (.inr (.inr false)) else
        (bif (Bool.not x3) then some true else
          ((getI s.2.1.2.1 s.1)).bind fun x10 =>
          ((u1E x10)).bind fun x11 =>
          some (Bool.not x11)).bind fun x10 =>
        bif x10 then (bif ((u0t x8.2.2.2) != 1) then some (.inr (.inr false)) else
          some (.inl ((IntKind.wrap .i64 (s.1 + 1)), s.2))) else
        ((getI s.2.1.2.1 s.1)).bind fun x11 =>
        ((u1Z (s.2.2, x11))).bind fun x12 =>
        bif (Bool.not x12.2) then (bif ((u0t x8.2.2.2) != 4) then some (.inr (.inr false)) else
          some (.inl ((IntKind.wrap .i64 (s.1 + 1)), s.2))) else
        (bif ((u0t x8.2.2.2) != 0) then some true else
          ((u0D (((x8.1, x8.2.1), x8.2.2.1), x12.1))).bind fun x13 =>
          some (Bool.not x13)).bind fun x13 =>
        bif x13 then some (.inr (.inr false)) else
        bif (small (.pair (.pair (.list (.pair (.pair (.int .i64) (.int .i64)) (.pair (.pair (.int .i64) (.int .i64)) .str))) (.list (.pair (.pair (.pair (.int .i64) (.int .i64)) (.pair (.int .i64) (.pair (.list (.int .i64)) (.pair (.int .i64) (.pair (.pair (.int .i64) (.int .i64)) (.pair (.pair (.int .i64) (.int .i64)) (.pair .str (.pair (.int .i64) (.int .i64))))))))) (.pair .bool (.pair (.pair (.int .i64) (.int .i64)) (.pair .str .bool)))))) (.list (.pair (.pair (.int .i64) (.int .i64)) (.list (.pair (.int .i64) (.pair (.int .i64) (.pair (.int .i64) (.int .i64)))))))) ((x8.1, x8.2.1), x8.2.2.1)) then ((((u0D (x5, s.2.2))).bind fun x14 =>
            bif (Bool.not x14) then some true else
            ((getI s.2.1.2.1 s.1)).bind fun x15 =>
            ((u0I (x7, x15))).bind fun x16 =>
            some (Bool.not x16)).bind fun x14 =>
          bif x14 then some (.inr (.inr false)) else
          ((u0n x12.1)).bind fun x15 =>
          some (.inl ((IntKind.wrap .i64 (s.1 + 1)), (s.2.1, x15)))) else
        none) else
      some (.inr (.inl s.2))) ((0 : Int), (x, x2))).bind fun x3 =>
  (match x3 with
  | .inl y => ((u1N ())).bind fun x4 =>
    some x4
  | .inr y => some y)
end
end Go.Dv
