/- The functions that the laws reach, each over lists, numbers and pairs: printed by a tool out of the told code (seat.py), joined to the code in the text Code. -/
import Derived.Test.YtjjhppjdnbahjaaGreatDvI
set_option linter.unusedVariables false
set_option linter.unusedSimpArgs false
set_option maxRecDepth 100000
open Go (IntKind)
namespace Go.Dv
abbrev sI : Sh := .int .i64
abbrev sStamp : Sh := (.pair sI sI)
abbrev Stamp : Type := Int × Int
abbrev sNode : Sh := (.pair sStamp (.pair sStamp .str))
abbrev Node : Type := Stamp × Stamp × ByteArray
abbrev sOp : Sh := (.pair sStamp (.pair sI (.pair (.list sI) (.pair sI (.pair sStamp (.pair sStamp (.pair .str sStamp)))))))
abbrev Op : Type := Stamp × Int × (List Int) × Int × Stamp × Stamp × ByteArray × Stamp
abbrev sEntry : Sh := (.pair sOp (.pair .bool (.pair sStamp (.pair .str .bool))))
abbrev Entry : Type := Op × Bool × Stamp × ByteArray × Bool
abbrev sTree : Sh := (.pair (.list sNode) (.list sEntry))
abbrev Tree : Type := (List Node) × List Entry
abbrev sScript_arraslaw16 : Sh := (.pair sTree (.pair (.list sOp) (.list sStamp)))
abbrev Script_arraslaw16 : Type := Tree × (List Op) × List Stamp
abbrev Reg : Type := Int × Int × Stamp
abbrev srule_prop : Sh := (.pair sI (.pair sI (.pair sI .bool)))
abbrev rule_prop : Type := Int × Int × Int × Bool
noncomputable def cmp_Or_int (x : List Int) : Option Int :=
  (iter (σ := (Int × ((List Int) × (Int × Int)))) (ρ := (Int ⊕ Int)) (fun s =>
      bif (decide ((s.2.2.2 < s.2.2.1))) then (((getI s.2.1 s.2.2.2)).bind fun x1 =>
        bif (x1 != s.1) then some (.inr (.inr x1)) else
        some (.inl (s.1, (s.2.1, (s.2.2.1, (IntKind.wrap .i64 (s.2.2.2 + 1))))))) else
      some (.inr (.inl s.1))) ((0 : Int), (x, (((List.length x) : Int), (0 : Int))))).bind fun x1 =>
  (match x1 with
  | .inl y => some y
  | .inr y => some y)
noncomputable def cmp_isNaN_int (x : Int) : Bool :=
  (x != x)
noncomputable def cmp_Compare_int (x : Int × Int) : Int :=
  bif (cmp_isNaN_int x.1) then (bif (cmp_isNaN_int x.2) then (0 : Int) else
    ((-1) : Int)) else
  bif (cmp_isNaN_int x.2) then (1 : Int) else
  bif (decide ((x.1 < x.2))) then ((-1) : Int) else
  bif (decide ((x.2 < x.1))) then (1 : Int) else
  (0 : Int)
noncomputable def stamp_Cmp (x : Stamp × Stamp) : Option Int :=
  ((cmp_Or_int [(cmp_Compare_int (x.1.1, x.2.1)), (cmp_Compare_int (x.1.2, x.2.2))])).bind fun x1 =>
  some x1
noncomputable def strings_Compare (x : ByteArray × ByteArray) : Int :=
  (cmpStr x.1 x.2)
noncomputable def tree_Children_1 (x : Node × Node) : Option Int :=
  ((stamp_Cmp (x.1.1, x.2.1))).bind fun x1 =>
  ((cmp_Or_int [(strings_Compare (x.1.2.2, x.2.2.2)), x1])).bind fun x2 =>
  some x2
noncomputable def cf_slices_SortFunc_Node (x y : El sNode) : Int := (tree_Children_1 (x, y)).getD 0
noncomputable def slices_SortFunc_Node : List (El sNode) → Option (List (El sNode)) := sortF cf_slices_SortFunc_Node
noncomputable def tree_find_1 (x : Node × Stamp) : Option Int :=
  ((stamp_Cmp (x.1.1, x.2))).bind fun x1 =>
  some x1
noncomputable def slices_BinarySearchFunc_Node_Stamp (x : (List Node) × Stamp) : Option (Int × Bool) :=
  (iter (σ := ((List Node) × (Int × Reg))) (ρ := ((List Node) × Reg)) (fun s =>
      bif (decide ((s.2.2.1 < s.2.2.2.1))) then (bif (decide ((1 < 0))) then none else
        ((getI s.1 (IntKind.wrap .i64 (Int.fdiv (IntKind.wrap .u64 (IntKind.wrap .i64 (s.2.2.1 + s.2.2.2.1))) (2 ^ (Min.min (Int.toNat 1) (IntKind.bits .u64))))))).bind fun x1 =>
        ((tree_find_1 (x1, s.2.2.2.2))).bind fun x2 =>
        bif (decide ((x2 < 0))) then some (.inl (s.1, (s.2.1, ((IntKind.wrap .i64 ((IntKind.wrap .i64 (Int.fdiv (IntKind.wrap .u64 (IntKind.wrap .i64 (s.2.2.1 + s.2.2.2.1))) (2 ^ (Min.min (Int.toNat 1) (IntKind.bits .u64))))) + 1)), s.2.2.2)))) else
        some (.inl (s.1, (s.2.1, (s.2.2.1, ((IntKind.wrap .i64 (Int.fdiv (IntKind.wrap .u64 (IntKind.wrap .i64 (s.2.2.1 + s.2.2.2.1))) (2 ^ (Min.min (Int.toNat 1) (IntKind.bits .u64))))), s.2.2.2.2)))))) else
      some (.inr (s.1, (s.2.1, (s.2.2.1, s.2.2.2.2))))) (x.1, (((List.length x.1) : Int), ((0 : Int), (((List.length x.1) : Int), x.2))))).bind fun x1 =>
  (bif (decide ((x1.2.2.1 < x1.2.1))) then (((getI x1.1 x1.2.2.1)).bind fun x2 =>
      ((tree_find_1 (x2, x1.2.2.2))).bind fun x3 =>
      some (x1.2.2.1, (x3 == 0))) else
    some (x1.2.2.1, false)).bind fun x2 =>
  some x2
noncomputable def tree_find (x : (List Node) × Stamp) : Option (Int × Bool) :=
  ((slices_BinarySearchFunc_Node_Stamp x)).bind fun x1 =>
  some x1
noncomputable def arraslaw0_OpWeight (x : Op) : Int :=
  (IntKind.wrap .i64 ((IntKind.wrap .i64 (1 + ((List.length x.2.2.1) : Int))) + ((ByteArray.size x.2.2.2.2.2.2.1) : Int)))
noncomputable def arraslaw0_TreeWeight (x : Tree) : Option Int :=
  (iter (σ := (Int × (Int × Tree))) (ρ := (Int × Tree)) (fun s =>
      bif (bif (decide ((s.2.1 < ((List.length s.2.2.1) : Int)))) then (decide ((s.1 < 1048576))) else false) then (((getI s.2.2.1 s.2.1)).bind fun x1 =>
        some (.inl ((IntKind.wrap .i64 (s.1 + ((ByteArray.size x1.2.2) : Int))), ((IntKind.wrap .i64 (s.2.1 + 1)), s.2.2)))) else
      some (.inr (s.1, s.2.2))) ((IntKind.wrap .i64 (((List.length x.1) : Int) + ((List.length x.2) : Int))), ((0 : Int), x))).bind fun x1 =>
  (iter (σ := (Int × (Int × Tree))) (ρ := (Int × Tree)) (fun s =>
      bif (bif (decide ((s.2.1 < ((List.length s.2.2.2) : Int)))) then (decide ((s.1 < 1048576))) else false) then (((getI s.2.2.2 s.2.1)).bind fun x2 =>
        ((getI s.2.2.2 s.2.1)).bind fun x3 =>
        some (.inl ((IntKind.wrap .i64 ((IntKind.wrap .i64 (s.1 + (arraslaw0_OpWeight x2.1))) + ((ByteArray.size x3.2.2.2.1) : Int))), ((IntKind.wrap .i64 (s.2.1 + 1)), s.2.2)))) else
      some (.inr (s.1, s.2.2))) (x1.1, ((0 : Int), x1.2))).bind fun x2 =>
  some x2.1
noncomputable def arraslaw0_OpsWeight (x : List Op) : Option Int :=
  (iter (σ := ((List Op) × (Int × Int))) (ρ := Int) (fun s =>
      bif (bif (decide ((s.2.2 < ((List.length s.1) : Int)))) then (decide ((s.2.1 < 1048576))) else false) then (((getI s.1 s.2.2)).bind fun x1 =>
        some (.inl (s.1, ((IntKind.wrap .i64 (s.2.1 + (arraslaw0_OpWeight x1))), (IntKind.wrap .i64 (s.2.2 + 1)))))) else
      some (.inr s.2.1)) (x, (((List.length x) : Int), (0 : Int)))).bind fun x1 =>
  some x1
noncomputable def arraslaw16_heavy (x : Script_arraslaw16) : Option Bool :=
  (((arraslaw0_TreeWeight x.1)).bind fun x1 =>
    ((arraslaw0_OpsWeight x.2.1)).bind fun x2 =>
    bif (decide ((3000 < (IntKind.wrap .i64 (x1 + x2))))) then some true else
    bif (decide ((60 < ((List.length x.1.2) : Int)))) then some true else
    some (decide ((200 < ((List.length x.2.2) : Int))))).bind fun x1 =>
  some x1
noncomputable def arrasref0_CopyNodes (x : List Node) : Option (List Node) :=
  (iter (σ := ((List Node) × ((List Node) × Int))) (ρ := (List Node)) (fun s =>
      bif (decide ((s.2.2 < ((List.length s.1) : Int)))) then (((getI s.1 s.2.2)).bind fun x1 =>
        bif (room (List.length (s.2.1 ++ [x1])) 48) then some (.inl (s.1, ((s.2.1 ++ [x1]), (IntKind.wrap .i64 (s.2.2 + 1))))) else
        none) else
      some (.inr s.2.1)) (x, ([], (0 : Int)))).bind fun x1 =>
  some x1
noncomputable def arrasref0_CopyNumbers (x : List Int) : Option (List Int) :=
  (iter (σ := ((List Int) × ((List Int) × Int))) (ρ := (List Int)) (fun s =>
      bif (decide ((s.2.2 < ((List.length s.1) : Int)))) then (((getI s.1 s.2.2)).bind fun x1 =>
        bif (room (List.length (s.2.1 ++ [x1])) 8) then some (.inl (s.1, ((s.2.1 ++ [x1]), (IntKind.wrap .i64 (s.2.2 + 1))))) else
        none) else
      some (.inr s.2.1)) (x, ([], (0 : Int)))).bind fun x1 =>
  some x1
noncomputable def arrasref0_CopyOp (x : Op) : Option Op :=
  ((arrasref0_CopyNumbers x.2.2.1)).bind fun x1 =>
  some (x.1, x.2.1, x1, x.2.2.2)
noncomputable def arrasref0_CopyEntry (x : Entry) : Option Entry :=
  ((arrasref0_CopyOp x.1)).bind fun x1 =>
  some (x1, x.2)
noncomputable def arrasref0_CopyMoves (x : List Entry) : Option (List Entry) :=
  (iter (σ := ((List Entry) × ((List Entry) × Int))) (ρ := (List Entry)) (fun s =>
      bif (decide ((s.2.2 < ((List.length s.1) : Int)))) then (((getI s.1 s.2.2)).bind fun x1 =>
        ((arrasref0_CopyEntry x1)).bind fun x2 =>
        bif (room (List.length (s.2.1 ++ [x2])) 168) then some (.inl (s.1, ((s.2.1 ++ [x2]), (IntKind.wrap .i64 (s.2.2 + 1))))) else
        none) else
      some (.inr s.2.1)) (x, ([], (0 : Int)))).bind fun x1 =>
  some x1
noncomputable def arrasref0_CopyTree (x : Tree) : Option Tree :=
  ((arrasref0_CopyNodes x.1)).bind fun x1 =>
  ((arrasref0_CopyMoves x.2)).bind fun x2 =>
  some (x1, x2)
noncomputable def arrasref0_EqNodes (x : (List Node) × List Node) : Option Bool :=
  bif (((List.length x.1) : Int) != ((List.length x.2) : Int)) then some false else
  (iter (σ := ((List Node) × ((List Node) × Int))) (ρ := (Unit ⊕ Bool)) (fun s =>
      bif (decide ((s.2.2 < ((List.length s.1) : Int)))) then (((getI s.1 s.2.2)).bind fun x1 =>
        ((getI s.2.1 s.2.2)).bind fun x2 =>
        bif (Bool.not ((x1.1.1 == x2.1.1) && ((x1.1.2 == x2.1.2) && ((x1.2.1.1 == x2.2.1.1) && ((x1.2.1.2 == x2.2.1.2) && (x1.2.2 == x2.2.2)))))) then some (.inr (.inr false)) else
        some (.inl (s.1, (s.2.1, (IntKind.wrap .i64 (s.2.2 + 1)))))) else
      some (.inr (.inl ()))) (x.1, (x.2, (0 : Int)))).bind fun x1 =>
  (match x1 with
  | .inl y => some true
  | .inr y => some y)
noncomputable def arrasref0_EqNumbers (x : (List Int) × List Int) : Option Bool :=
  bif (((List.length x.1) : Int) != ((List.length x.2) : Int)) then some false else
  (iter (σ := ((List Int) × ((List Int) × Int))) (ρ := (Unit ⊕ Bool)) (fun s =>
      bif (decide ((s.2.2 < ((List.length s.1) : Int)))) then (((getI s.1 s.2.2)).bind fun x1 =>
        ((getI s.2.1 s.2.2)).bind fun x2 =>
        bif (x1 != x2) then some (.inr (.inr false)) else
        some (.inl (s.1, (s.2.1, (IntKind.wrap .i64 (s.2.2 + 1)))))) else
      some (.inr (.inl ()))) (x.1, (x.2, (0 : Int)))).bind fun x1 =>
  (match x1 with
  | .inl y => some true
  | .inr y => some y)
noncomputable def arrasref0_EqOp (x : Op × Op) : Option Bool :=
  (bif ((x.1.1.1 == x.2.1.1) && (x.1.1.2 == x.2.1.2)) then (bif (x.1.2.1 == x.2.2.1) then (((arrasref0_EqNumbers (x.1.2.2.1, x.2.2.2.1))).bind fun x1 =>
        bif x1 then (bif (x.1.2.2.2.1 == x.2.2.2.2.1) then (bif ((x.1.2.2.2.2.1.1 == x.2.2.2.2.2.1.1) && (x.1.2.2.2.2.1.2 == x.2.2.2.2.2.1.2)) then (bif ((x.1.2.2.2.2.2.1.1 == x.2.2.2.2.2.2.1.1) && (x.1.2.2.2.2.2.1.2 == x.2.2.2.2.2.2.1.2)) then (bif ((ByteArray.toList x.1.2.2.2.2.2.2.1) == (ByteArray.toList x.2.2.2.2.2.2.2.1)) then (bif (x.1.2.2.2.2.2.2.2.1 == x.2.2.2.2.2.2.2.2.1) then some (x.1.2.2.2.2.2.2.2.2 == x.2.2.2.2.2.2.2.2.2) else
                  some false) else
                some false) else
              some false) else
            some false) else
          some false) else
        some false) else
      some false) else
    some false).bind fun x1 =>
  some x1
noncomputable def arrasref0_EqEntry (x : Entry × Entry) : Option Bool :=
  (((arrasref0_EqOp (x.1.1, x.2.1))).bind fun x1 =>
    bif x1 then (bif (x.1.2.1 == x.2.2.1) then (bif ((x.1.2.2.1.1 == x.2.2.2.1.1) && (x.1.2.2.1.2 == x.2.2.2.1.2)) then (bif ((ByteArray.toList x.1.2.2.2.1) == (ByteArray.toList x.2.2.2.2.1)) then some (x.1.2.2.2.2 == x.2.2.2.2.2) else
          some false) else
        some false) else
      some false) else
    some false).bind fun x1 =>
  some x1
noncomputable def arrasref0_EqMoves (x : (List Entry) × List Entry) : Option Bool :=
  bif (((List.length x.1) : Int) != ((List.length x.2) : Int)) then some false else
  (iter (σ := ((List Entry) × ((List Entry) × Int))) (ρ := (Unit ⊕ Bool)) (fun s =>
      bif (decide ((s.2.2 < ((List.length s.1) : Int)))) then (((getI s.1 s.2.2)).bind fun x1 =>
        ((getI s.2.1 s.2.2)).bind fun x2 =>
        ((arrasref0_EqEntry (x1, x2))).bind fun x3 =>
        bif (Bool.not x3) then some (.inr (.inr false)) else
        some (.inl (s.1, (s.2.1, (IntKind.wrap .i64 (s.2.2 + 1)))))) else
      some (.inr (.inl ()))) (x.1, (x.2, (0 : Int)))).bind fun x1 =>
  (match x1 with
  | .inl y => some true
  | .inr y => some y)
noncomputable def arrasref0_EqTree (x : Tree × Tree) : Option Bool :=
  (((arrasref0_EqNodes (x.1.1, x.2.1))).bind fun x1 =>
    bif x1 then (((arrasref0_EqMoves (x.1.2, x.2.2))).bind fun x2 =>
      some x2) else
    some false).bind fun x1 =>
  some x1
noncomputable def arrasref0_Num (x : Int × Int) : Bool :=
  (bif (decide ((0 ≤ x.1))) then (decide ((x.1 ≤ x.2))) else false)
noncomputable def arrasref6_Stamp (x : Stamp) : Bool :=
  (bif (decide ((1 ≤ x.1))) then (bif (decide ((x.1 ≤ 1099511627776))) then (arrasref0_Num (x.2, (15 : Int))) else false) else false)
noncomputable def arrasref6_Vector (x : List Int) : Option Bool :=
  (iter (σ := ((List Int) × Int)) (ρ := ((List Int) ⊕ Bool)) (fun s =>
      bif (decide ((s.2 < ((List.length s.1) : Int)))) then (((getI s.1 s.2)).bind fun x1 =>
        bif (Bool.not (arrasref0_Num (x1, (1099511627776 : Int)))) then some (.inr (.inr false)) else
        some (.inl (s.1, (IntKind.wrap .i64 (s.2 + 1))))) else
      some (.inr (.inl s.1))) (x, (0 : Int))).bind fun x1 =>
  (match x1 with
  | .inl y => some (bif (decide ((1 ≤ ((List.length y) : Int)))) then (decide ((((List.length y) : Int) ≤ 16))) else false)
  | .inr y => some y)
noncomputable def arrasref6_Root (x : Unit) : Stamp :=
  ((0 : Int), (0 : Int))
noncomputable def arrasref6_Trash (x : Unit) : Stamp :=
  ((0 : Int), (1 : Int))
noncomputable def arrasref6_Place (x : Stamp) : Bool :=
  (bif (arrasref6_Stamp x) then true else (bif ((x.1 == (arrasref6_Root ()).1) && (x.2 == (arrasref6_Root ()).2)) then true else ((x.1 == (arrasref6_Trash ()).1) && (x.2 == (arrasref6_Trash ()).2))))
noncomputable def arrasref8_Key (x : ByteArray) : Option Bool :=
  (bif (decide ((1 ≤ ((ByteArray.size x) : Int)))) then (bif (decide ((((ByteArray.size x) : Int) ≤ 64))) then (((getB x (IntKind.wrap .i64 (((ByteArray.size x) : Int) - 1)))).bind fun x1 =>
        some (x1 != 0)) else
      some false) else
    some false).bind fun x1 =>
  some x1
noncomputable def arrasref8_value (x : Int) : Option (Int × Int × Int × Bool) :=
  bif (x == 0) then some ((0 : Int), ((2 : Int), ((0 : Int), true))) else
  (bif (x == 1) then some (x, true) else
    some (x, (x == 2))).bind fun x1 =>
  bif x1.2 then some ((0 : Int), ((1 : Int), ((0 : Int), true))) else
  (bif (x1.1 == 3) then some (x1.1, true) else
    (bif (x1.1 == 4) then some (x1.1, true) else
      (bif (x1.1 == 6) then some (x1.1, true) else
        (bif (x1.1 == 8) then some (x1.1, true) else
          some (x1.1, (x1.1 == 11))).bind fun x2 =>
        some x2).bind fun x2 =>
      some x2).bind fun x2 =>
    some x2).bind fun x2 =>
  bif x2.2 then some (((-1) : Int), ((1099511627776 : Int), (((-1) : Int), true))) else
  (bif (x2.1 == 5) then some (x2.1, true) else
    some (x2.1, (x2.1 == 7))).bind fun x3 =>
  bif x3.2 then some ((0 : Int), ((1099511627776 : Int), ((0 : Int), true))) else
  bif (x3.1 == 9) then some ((0 : Int), ((1048576 : Int), ((0 : Int), true))) else
  bif (x3.1 == 10) then some ((0 : Int), ((1048576 : Int), ((1 : Int), true))) else
  (bif (x3.1 == 12) then some (x3.1, true) else
    (bif (x3.1 == 13) then some (x3.1, true) else
      some (x3.1, (x3.1 == 14))).bind fun x4 =>
    some x4).bind fun x4 =>
  bif x4.2 then some ((0 : Int), ((1073741824 : Int), ((0 : Int), true))) else
  bif (x4.1 == 15) then some ((0 : Int), ((4 : Int), ((0 : Int), true))) else
  bif (x4.1 == 16) then some ((0 : Int), ((3 : Int), ((0 : Int), true))) else
  bif (x4.1 == 17) then some ((0 : Int), ((16777215 : Int), ((0 : Int), true))) else
  bif (x4.1 == 18) then some ((64 : Int), ((64000 : Int), ((1024 : Int), true))) else
  some ((0 : Int), ((0 : Int), ((0 : Int), false)))
noncomputable def arrasref8_Check (x : Int × Int) : Option Int :=
  ((arrasref8_value x.1)).bind fun x1 =>
  bif (Bool.not x1.2.2.2) then some (3 : Int) else
  bif (bif (decide ((x.2 < x1.1))) then true else (decide ((x1.2.1 < x.2)))) then some (9 : Int) else
  some (0 : Int)
noncomputable def arrasref10_Op (x : Op) : Option Bool :=
  (bif (Bool.not (arrasref6_Stamp x.1)) then some true else
    ((arrasref6_Vector x.2.2.1)).bind fun x1 =>
    bif (Bool.not x1) then some true else
    bif (decide ((((List.length x.2.2.1) : Int) ≤ x.1.2))) then some true else
    bif (decide ((x.2.1 < 1))) then some true else
    bif (decide ((1099511627776 < x.2.1))) then some true else
    ((getI x.2.2.1 x.1.2)).bind fun x2 =>
    bif (x.2.1 != (IntKind.wrap .i64 (x2 + 1))) then some true else
    some (Bool.not (arrasref6_Stamp x.2.2.2.2.1))).bind fun x1 =>
  bif x1 then some false else
  bif (x.2.2.2.1 == 1) then ((((arrasref0_EqOp ((x.1, x.2.1, x.2.2.1, x.2.2.2.1, x.2.2.2.2.1, x.2.2.2.2.2.1, x.2.2.2.2.2.2.1, (0 : Int), (0 : Int)), x))).bind fun x2 =>
      bif x2 then (bif (arrasref6_Place x.2.2.2.2.2.1) then (((arrasref8_Key x.2.2.2.2.2.2.1)).bind fun x3 =>
          some x3) else
        some false) else
      some false).bind fun x2 =>
    some x2) else
  bif (x.2.2.2.1 == 2) then ((((arrasref0_EqOp ((x.1, x.2.1, x.2.2.1, x.2.2.2.1, x.2.2.2.2.1, ((0 : Int), (0 : Int)), (ByteArray.mk ([]).toArray), x.2.2.2.2.2.2.2), x)) : Option Bool).bind fun x2 =>
      bif x2 then (((arrasref8_Check x.2.2.2.2.2.2.2)).bind fun x3 =>
        some (x3 == 0)) else
      some false : Option Bool).bind fun x2 =>
    some x2) else
  some false
noncomputable def arrasref16_Move (x : Op) : Option Bool :=
  (bif (x.2.2.2.1 == 1) then (((arrasref10_Op x)).bind fun x1 =>
      some x1) else
    some false).bind fun x1 =>
  some x1
noncomputable def arrasref16_Moves (x : Tree) : Option (List Op) :=
  (iter (σ := ((List Op) × (Int × Tree))) (ρ := ((List Op) × Tree)) (fun s =>
      bif (decide ((s.2.1 < ((List.length s.2.2.2) : Int)))) then (((getI s.2.2.2 s.2.1)).bind fun x1 =>
        bif (room (List.length (s.1 ++ [x1.1])) 120) then some (.inl ((s.1 ++ [x1.1]), ((IntKind.wrap .i64 (s.2.1 + 1)), s.2.2))) else
        none) else
      some (.inr (s.1, s.2.2))) ([], ((0 : Int), x))).bind fun x1 =>
  some x1.1
noncomputable def arrasref6_Cmp (x : Stamp × Stamp) : Int :=
  bif (bif (decide ((x.1.1 < x.2.1))) then true else (bif (x.1.1 == x.2.1) then (decide ((x.1.2 < x.2.2))) else false)) then ((-1) : Int) else
  bif (Bool.not ((x.1.1 == x.2.1) && (x.1.2 == x.2.2))) then (1 : Int) else
  (0 : Int)
noncomputable def arrasref16_Find (x : (List Node) × Stamp) : Option Int :=
  (iter (σ := ((List Node) × (Int × (Int × Int)))) (ρ := ((Int × Int) ⊕ Int)) (fun s =>
      bif (decide ((s.2.1 < ((List.length s.1) : Int)))) then (((getI s.1 s.2.1)).bind fun x1 =>
        bif ((x1.1.1 == s.2.2.1) && (x1.1.2 == s.2.2.2)) then some (.inr (.inr s.2.1)) else
        some (.inl (s.1, ((IntKind.wrap .i64 (s.2.1 + 1)), s.2.2)))) else
      some (.inr (.inl s.2.2))) (x.1, ((0 : Int), x.2))).bind fun x1 =>
  (match x1 with
  | .inl y => some ((-1) : Int)
  | .inr y => some y)
noncomputable def arrasref16_over (x : (List Node) × Stamp × Stamp) : Option Bool :=
  (iter (σ := ((List Node) × (Int × ((Int × Int) × (Int × Int))))) (ρ := (((Int × Int) × (Int × Int)) ⊕ Bool)) (fun s =>
      bif (decide ((s.2.1 ≤ ((List.length s.1) : Int)))) then (bif ((s.2.2.2.1 == s.2.2.1.1) && (s.2.2.2.2 == s.2.2.1.2)) then some (.inr (.inr true)) else
        ((arrasref16_Find (s.1, s.2.2.2))).bind fun x1 =>
        bif (decide ((x1 < 0))) then some (.inr (.inr false)) else
        ((getI s.1 x1)).bind fun x2 =>
        some (.inl (s.1, ((IntKind.wrap .i64 (s.2.1 + 1)), (s.2.2.1, x2.2.1))))) else
      some (.inr (.inl s.2.2))) (x.1, ((0 : Int), x.2))).bind fun x1 =>
  (match x1 with
  | .inl y => some true
  | .inr y => some y)
noncomputable def arrasref16_done (x : (List Node) × Op) : Option ((List Node) × Entry) :=
  ((arrasref0_CopyOp x.2)).bind fun x1 =>
  ((arrasref16_Find (x.1, x.2.2.2.2.2.1))).bind fun x2 =>
  (bif (decide ((0 ≤ x2))) then (((getI x.1 x2)).bind fun x3 =>
      ((getI x.1 x2)).bind fun x4 =>
      ((getI x.1 x2)).bind fun x5 =>
      ((getI x.1 x2)).bind fun x6 =>
      some (x.1, (x2, (x.2, (((((0 : Int), (0 : Int)), (0 : Int), [], (0 : Int), ((0 : Int), (0 : Int)), ((0 : Int), (0 : Int)), (ByteArray.mk ([]).toArray), (0 : Int), (0 : Int)), false, ((0 : Int), (0 : Int)), (ByteArray.mk ([]).toArray), false), (x1, true, x4.2.1, x6.2.2, false)))))) else
    some (x.1, (x2, (x.2, (((((0 : Int), (0 : Int)), (0 : Int), [], (0 : Int), ((0 : Int), (0 : Int)), ((0 : Int), (0 : Int)), (ByteArray.mk ([]).toArray), (0 : Int), (0 : Int)), false, ((0 : Int), (0 : Int)), (ByteArray.mk ([]).toArray), false), (x1, false, ((0 : Int), (0 : Int)), (ByteArray.mk ([]).toArray), false))))) : Option ((List Node) × (Int × (Op × (Entry × Entry))))).bind fun x3 =>
  ((arrasref16_over (x3.1, (x3.2.2.1.2.2.2.2.1, x3.2.2.1.2.2.2.2.2.1)))).bind fun x4 =>
  bif x4 then some (x3.1, (x3.2.2.2.2.1, x3.2.2.2.2.2.1, x3.2.2.2.2.2.2.1, x3.2.2.2.2.2.2.2.1, true)) else
  bif (decide ((0 ≤ x3.2.1))) then (((arrasref0_CopyNodes x3.1)).bind fun x5 =>
    ((getI x5 x3.2.1)).bind fun x6 =>
    ((getI x5 x3.2.1)).bind fun x7 =>
    some ((List.set x5 (Int.toNat x3.2.1) (x3.2.2.1.2.2.2.2.1, x3.2.2.1.2.2.2.2.2.1, x3.2.2.1.2.2.2.2.2.2.1)), x3.2.2.2.2)) else
  (iter (σ := ((List Node) × ((List Node) × (Bool × (Int × (Op × (Entry × (Entry × Node)))))))) (ρ := ((List Node) × (Bool × (Op × (Entry × (Entry × Node)))))) (fun s =>
      bif (decide ((s.2.2.2.1 < ((List.length s.1) : Int)))) then ((bif (Bool.not s.2.2.1) then (((getI s.1 s.2.2.2.1)).bind fun x5 =>
            ((getI s.1 s.2.2.2.1)).bind fun x6 =>
            some (decide ((0 < (arrasref6_Cmp (x6.1, s.2.2.2.2.1.2.2.2.2.1)))))) else
          some false).bind fun x5 =>
        bif x5 then (bif (room (List.length (s.2.1 ++ [s.2.2.2.2.2.2.2])) 48) then (((getI s.1 s.2.2.2.1)).bind fun x6 =>
            ((getI s.1 s.2.2.2.1)).bind fun x7 =>
            bif (room (List.length ((s.2.1 ++ [s.2.2.2.2.2.2.2]) ++ [x7])) 48) then some (.inl (s.1, (((s.2.1 ++ [s.2.2.2.2.2.2.2]) ++ [x7]), (true, ((IntKind.wrap .i64 (s.2.2.2.1 + 1)), s.2.2.2.2))))) else
            none) else
          none) else
        ((getI s.1 s.2.2.2.1)).bind fun x6 =>
        ((getI s.1 s.2.2.2.1)).bind fun x7 =>
        bif (room (List.length (s.2.1 ++ [x7])) 48) then some (.inl (s.1, ((s.2.1 ++ [x7]), (s.2.2.1, ((IntKind.wrap .i64 (s.2.2.2.1 + 1)), s.2.2.2.2))))) else
        none) else
      some (.inr (s.2.1, (s.2.2.1, s.2.2.2.2)))) (x3.1, ([], (false, ((0 : Int), (x3.2.2.1, (x3.2.2.2.1, (x3.2.2.2.2, (x3.2.2.1.2.2.2.2.1, x3.2.2.1.2.2.2.2.2.1, x3.2.2.1.2.2.2.2.2.2.1))))))))).bind fun x5 =>
  bif (Bool.not x5.2.1) then (bif (room (List.length (x5.1 ++ [x5.2.2.2.2.2])) 48) then some ((x5.1 ++ [x5.2.2.2.2.2]), x5.2.2.2.2.1) else
    none) else
  some (x5.1, x5.2.2.2.2.1)
noncomputable def arrasref16_Made (x : List Op) : Option ((List Node) × List Entry) :=
  (iter (σ := ((List Op) × (Int × Tree))) (ρ := Tree) (fun s =>
      bif (decide ((s.2.1 < ((List.length s.1) : Int)))) then (((getI s.1 s.2.1)).bind fun x1 =>
        ((arrasref16_done (s.2.2.1, x1))).bind fun x2 =>
        bif (room (List.length (s.2.2.2 ++ [x2.2])) 168) then some (.inl (s.1, ((IntKind.wrap .i64 (s.2.1 + 1)), (x2.1, (s.2.2.2 ++ [x2.2]))))) else
        none) else
      some (.inr s.2.2)) (x, ((0 : Int), ([], [])))).bind fun x1 =>
  some x1
noncomputable def arrasref16_Tree (x : Tree) : Option Bool :=
  ((arrasref16_Moves x)).bind fun x1 =>
  (iter (σ := ((List Op) × (Int × Tree))) (ρ := (((List Op) × Tree) ⊕ Bool)) (fun s =>
      bif (decide ((s.2.1 < ((List.length s.1) : Int)))) then ((((getI s.1 s.2.1)).bind fun x2 =>
          ((arrasref16_Move x2)).bind fun x3 =>
          bif (Bool.not x3) then some true else
          bif (decide ((0 < s.2.1))) then (((getI s.1 (IntKind.wrap .i64 (s.2.1 - 1)))).bind fun x4 =>
            ((getI s.1 s.2.1)).bind fun x5 =>
            some (decide ((0 ≤ (arrasref6_Cmp (x4.1, x5.1)))))) else
          some false).bind fun x2 =>
        bif x2 then some (.inr (.inr false)) else
        some (.inl (s.1, ((IntKind.wrap .i64 (s.2.1 + 1)), s.2.2)))) else
      some (.inr (.inl (s.1, s.2.2)))) (x1, ((0 : Int), x))).bind fun x2 =>
  (match x2 with
  | .inl y => ((arrasref16_Made y.1)).bind fun x3 =>
    ((arrasref0_EqTree (y.2, x3))).bind fun x4 =>
    some x4
  | .inr y => some y)
noncomputable def arraslaw16_num (x : Int) : Int :=
  x
noncomputable def stamp_Is (x : Stamp) : Bool :=
  (bif (decide ((1 ≤ x.1))) then (bif (decide ((x.1 ≤ 1099511627776))) then (bif (decide ((0 ≤ x.2))) then (decide ((x.2 < 16))) else false) else false) else false)
noncomputable def have_Is (x : List Int) : Option Bool :=
  (iter (σ := ((List Int) × Int)) (ρ := Bool) (fun s =>
      bif (s.2 == ((List.length s.1) : Int)) then some (.inr (bif (decide ((1 ≤ s.2))) then (decide ((s.2 ≤ 16))) else false)) else
      (((getI s.1 s.2)).bind fun x1 =>
        bif (decide ((0 ≤ x1))) then (((getI s.1 s.2)).bind fun x2 =>
          some (decide ((x2 ≤ 1099511627776)))) else
        some false).bind fun x1 =>
      bif x1 then some (.inl (s.1, (IntKind.wrap .i64 (s.2 + 1)))) else
      some (.inr false)) (x, (0 : Int))).bind fun x1 =>
  some x1
noncomputable def stamp_Root (x : Unit) : Stamp :=
  ((0 : Int), (0 : Int))
noncomputable def stamp_Trash (x : Unit) : Stamp :=
  ((0 : Int), (1 : Int))
noncomputable def stamp_Place (x : Stamp) : Bool :=
  (bif (stamp_Is x) then true else (bif ((x.1 == (stamp_Root ()).1) && (x.2 == (stamp_Root ()).2)) then true else ((x.1 == (stamp_Trash ()).1) && (x.2 == (stamp_Trash ()).2))))
noncomputable def key_Is (x : ByteArray) : Option Bool :=
  (bif (decide ((1 ≤ ((ByteArray.size x) : Int)))) then (bif (decide ((((ByteArray.size x) : Int) ≤ 64))) then (((getB x (IntKind.wrap .i64 (((ByteArray.size x) : Int) - 1)))).bind fun x1 =>
        some (x1 != 0)) else
      some false) else
    some false).bind fun x1 =>
  some x1
noncomputable def prop_ruleOf (x : Int) : Option rule_prop :=
  bif (x == 0) then some ((0 : Int), (2 : Int), (0 : Int), false) else
  (bif (x == 1) then some (x, (true, ((0 : Int), (0 : Int), (0 : Int), false))) else
    some (x, ((x == 2), ((0 : Int), (0 : Int), (0 : Int), false)))).bind fun x1 =>
  bif x1.2.1 then some ((0 : Int), (1 : Int), (0 : Int), false) else
  (bif (x1.1 == 3) then some (x1.1, (true, x1.2.2)) else
    (bif (x1.1 == 4) then some (x1.1, (true, x1.2.2)) else
      (bif (x1.1 == 6) then some (x1.1, (true, x1.2.2)) else
        (bif (x1.1 == 8) then some (x1.1, (true, x1.2.2)) else
          some (x1.1, ((x1.1 == 11), x1.2.2))).bind fun x2 =>
        some x2).bind fun x2 =>
      some x2).bind fun x2 =>
    some x2).bind fun x2 =>
  bif x2.2.1 then some (((-1) : Int), (1099511627776 : Int), ((-1) : Int), false) else
  (bif (x2.1 == 5) then some (x2.1, (true, x2.2.2)) else
    some (x2.1, ((x2.1 == 7), x2.2.2))).bind fun x3 =>
  bif x3.2.1 then some ((0 : Int), (1099511627776 : Int), (0 : Int), false) else
  bif (x3.1 == 9) then some ((0 : Int), (1048576 : Int), (0 : Int), false) else
  bif (x3.1 == 10) then some ((0 : Int), (1048576 : Int), (1 : Int), false) else
  bif (x3.1 == 15) then some ((0 : Int), (4 : Int), (0 : Int), false) else
  bif (x3.1 == 16) then some ((0 : Int), (3 : Int), (0 : Int), false) else
  bif (x3.1 == 17) then some ((0 : Int), (16777215 : Int), (0 : Int), true) else
  bif (x3.1 == 18) then some ((64 : Int), (64000 : Int), (1024 : Int), true) else
  some ((0 : Int), (1073741824 : Int), (0 : Int), false)
noncomputable def prop_Is (x : Int) : Bool :=
  (bif (decide ((0 ≤ x))) then (decide ((x < 19))) else false)
noncomputable def prop_May (x : Int × Int) : Option Bool :=
  (bif (prop_Is x.1) then (((prop_ruleOf x.1)).bind fun x1 =>
      bif (decide ((x1.1 ≤ x.2))) then (((prop_ruleOf x.1)).bind fun x2 =>
        some (decide ((x.2 ≤ x2.2.1)))) else
      some false) else
    some false).bind fun x1 =>
  some x1
noncomputable def op_kind (x : Op) : Option Bool :=
  bif (x.2.2.2.1 == 1) then ((bif (stamp_Place x.2.2.2.2.2.1) then (((key_Is x.2.2.2.2.2.2.1)).bind fun x1 =>
        bif x1 then (bif (x.2.2.2.2.2.2.2.1 == 0) then some (x.2.2.2.2.2.2.2.2 == 0) else
          some false) else
        some false) else
      some false).bind fun x1 =>
    some x1) else
  bif (x.2.2.2.1 == 2) then ((((prop_May x.2.2.2.2.2.2.2)).bind fun x1 =>
      bif x1 then (bif ((x.2.2.2.2.2.1.1 == (stamp_Root ()).1) && (x.2.2.2.2.2.1.2 == (stamp_Root ()).2)) then some ((ByteArray.toList x.2.2.2.2.2.2.1) == (ByteArray.toList (ByteArray.mk ([]).toArray))) else
        some false) else
      some false : Option Bool).bind fun x1 =>
    some x1) else
  some false
noncomputable def op_May (x : Op) : Option Bool :=
  (bif (Bool.not (stamp_Is x.1)) then some true else
    ((have_Is x.2.2.1)).bind fun x1 =>
    bif (Bool.not x1) then some true else
    bif (decide ((((List.length x.2.2.1) : Int) ≤ x.1.2))) then some true else
    some (Bool.not (stamp_Is x.2.2.2.2.1))).bind fun x1 =>
  bif x1 then some false else
  (((getI x.2.2.1 x.1.2)).bind fun x2 =>
    bif (x.2.1 == (IntKind.wrap .i64 (x2 + 1))) then (bif (decide ((x.2.1 ≤ 1099511627776))) then (((op_kind x)).bind fun x3 =>
        some x3) else
      some false) else
    some false).bind fun x2 =>
  some x2
noncomputable def tree_move (x : Op) : Option Bool :=
  (((op_May x)).bind fun x1 =>
    bif x1 then some (x.2.2.2.1 == 1) else
    some false).bind fun x1 =>
  some x1
noncomputable def op_Less (x : Op × Op) : Option Bool :=
  ((stamp_Cmp (x.1.1, x.2.1))).bind fun x1 =>
  some (decide ((x1 < 0)))
noncomputable def slices_Equal_int (x : (List Int) × List Int) : Option Bool :=
  bif (((List.length x.1) : Int) != ((List.length x.2) : Int)) then some false else
  (iter (σ := ((List Int) × ((List Int) × (Int × Int)))) (ρ := (Unit ⊕ Bool)) (fun s =>
      bif (decide ((s.2.2.2 < s.2.2.1))) then (((getI s.1 s.2.2.2)).bind fun x1 =>
        ((getI s.2.1 s.2.2.2)).bind fun x2 =>
        bif (x1 != x2) then some (.inr (.inr false)) else
        some (.inl (s.1, (s.2.1, (s.2.2.1, (IntKind.wrap .i64 (s.2.2.2 + 1))))))) else
      some (.inr (.inl ()))) (x.1, (x.2, (((List.length x.1) : Int), (0 : Int))))).bind fun x1 =>
  (match x1 with
  | .inl y => some true
  | .inr y => some y)
noncomputable def op_Same (x : Op × Op) : Option Bool :=
  (bif ((x.1.1.1 == x.2.1.1) && (x.1.1.2 == x.2.1.2)) then (bif (x.1.2.1 == x.2.2.1) then (((slices_Equal_int (x.1.2.2.1, x.2.2.2.1))).bind fun x1 =>
        bif x1 then (bif (x.1.2.2.2.1 == x.2.2.2.2.1) then (bif ((x.1.2.2.2.2.1.1 == x.2.2.2.2.2.1.1) && (x.1.2.2.2.2.1.2 == x.2.2.2.2.2.1.2)) then (bif ((x.1.2.2.2.2.2.1.1 == x.2.2.2.2.2.2.1.1) && (x.1.2.2.2.2.2.1.2 == x.2.2.2.2.2.2.1.2)) then (bif ((ByteArray.toList x.1.2.2.2.2.2.2.1) == (ByteArray.toList x.2.2.2.2.2.2.2.1)) then (bif (x.1.2.2.2.2.2.2.2.1 == x.2.2.2.2.2.2.2.2.1) then some (x.1.2.2.2.2.2.2.2.2 == x.2.2.2.2.2.2.2.2.2) else
                  some false) else
                some false) else
              some false) else
            some false) else
          some false) else
        some false) else
      some false) else
    some false).bind fun x1 =>
  some x1
noncomputable def tree_same (x : Entry × Entry) : Option Bool :=
  (((op_Same (x.1.1, x.2.1))).bind fun x1 =>
    bif x1 then (bif (x.1.2.1 == x.2.2.1) then (bif ((x.1.2.2.1.1 == x.2.2.2.1.1) && (x.1.2.2.1.2 == x.2.2.2.1.2)) then (bif ((ByteArray.toList x.1.2.2.2.1) == (ByteArray.toList x.2.2.2.2.1)) then some (x.1.2.2.2.2 == x.2.2.2.2.2) else
          some false) else
        some false) else
      some false) else
    some false).bind fun x1 =>
  some x1
noncomputable def op_Own (x : Op) : Option (Stamp × Int × (List Int) × Int × Stamp × Stamp × ByteArray × Stamp) :=
  bif (room (List.length x.2.2.1) 8) then some x else
  none
noncomputable def tree_work_circle (x : (List Node) × Stamp × Stamp) : Option Bool :=
  (iter (σ := ((List Node) × ((Int × Int) × (Int × Int)))) (ρ := Bool) (fun s =>
      bif ((s.2.2.1 == s.2.1.1) && (s.2.2.2 == s.2.1.2)) then some (.inr true) else
      ((tree_find (s.1, s.2.2))).bind fun x1 =>
      bif x1.2 then (((getI s.1 x1.1)).bind fun x2 =>
        some (.inl (s.1, (s.2.1, x2.2.1)))) else
      some (.inr false)) x).bind fun x1 =>
  some x1
noncomputable def tree_work_do (x : Op × List Node) : Option (Stamp × Int × (List Int) × (Int × Stamp × Stamp × ByteArray × Stamp) × (Bool × Stamp × ByteArray × Bool) × List Node) :=
  ((op_Own x.1)).bind fun x1 =>
  ((tree_work_circle (x.2, (x.1.2.2.2.2.1, x.1.2.2.2.2.2.1)))).bind fun x2 =>
  ((tree_find (x.2, x.1.2.2.2.2.1))).bind fun x3 =>
  (bif x3.2 then (((getI x.2 x3.1)).bind fun x4 =>
      ((getI x.2 x3.1)).bind fun x5 =>
      ((getI x.2 x3.1)).bind fun x6 =>
      ((getI x.2 x3.1)).bind fun x7 =>
      some (x3.1, (x3.2, (x.2, (x.1, (((((0 : Int), (0 : Int)), (0 : Int), [], (0 : Int), ((0 : Int), (0 : Int)), ((0 : Int), (0 : Int)), (ByteArray.mk ([]).toArray), (0 : Int), (0 : Int)), false, ((0 : Int), (0 : Int)), (ByteArray.mk ([]).toArray), false), (x1.1, (x1.2.1, (x1.2.2.1, (x1.2.2.2, (true, x5.2.1, x7.2.2, x2))))))))))) else
    some (x3.1, (x3.2, (x.2, (x.1, (((((0 : Int), (0 : Int)), (0 : Int), [], (0 : Int), ((0 : Int), (0 : Int)), ((0 : Int), (0 : Int)), (ByteArray.mk ([]).toArray), (0 : Int), (0 : Int)), false, ((0 : Int), (0 : Int)), (ByteArray.mk ([]).toArray), false), (x1.1, (x1.2.1, (x1.2.2.1, (x1.2.2.2, (false, ((0 : Int), (0 : Int)), (ByteArray.mk ([]).toArray), x2)))))))))) : Option (Int × (Bool × ((List Node) × (Op × (Entry × ((Int × Int) × (Int × ((List Int) × ((Int × ((Int × Int) × ((Int × Int) × (ByteArray × (Int × Int))))) × (Bool × ((Int × Int) × (ByteArray × Bool))))))))))))).bind fun x4 =>
  bif x4.2.2.2.2.2.2.2.2.2.2.2.2 then some (x4.2.2.2.2.2.1, (x4.2.2.2.2.2.2.1, (x4.2.2.2.2.2.2.2.1, (x4.2.2.2.2.2.2.2.2.1, (x4.2.2.2.2.2.2.2.2.2, x4.2.2.1))))) else
  bif x4.2.1 then (((getI x4.2.2.1 x4.1)).bind fun x5 =>
    ((getI x4.2.2.1 x4.1)).bind fun x6 =>
    some (x4.2.2.2.2.2.1, (x4.2.2.2.2.2.2.1, (x4.2.2.2.2.2.2.2.1, (x4.2.2.2.2.2.2.2.2.1, (x4.2.2.2.2.2.2.2.2.2, (List.set x4.2.2.1 (Int.toNat x4.1) (x4.2.2.2.1.2.2.2.2.1, x4.2.2.2.1.2.2.2.2.2.1, x4.2.2.2.1.2.2.2.2.2.2.1)))))))) else
  bif (((decide ((0 ≤ x4.1))) && (decide ((x4.1 ≤ ((List.length x4.2.2.1) : Int))))) && (room ((List.length x4.2.2.1) + 1) 48)) then some (x4.2.2.2.2.2.1, (x4.2.2.2.2.2.2.1, (x4.2.2.2.2.2.2.2.1, (x4.2.2.2.2.2.2.2.2.1, (x4.2.2.2.2.2.2.2.2.2, ((List.take (Int.toNat x4.1) x4.2.2.1) ++ ((x4.2.2.2.1.2.2.2.2.1, x4.2.2.2.1.2.2.2.2.2.1, x4.2.2.2.1.2.2.2.2.2.2.1) :: (List.drop (Int.toNat x4.1) x4.2.2.1)))))))) else
  none
noncomputable def slices_Equal_Node (x : (List Node) × List Node) : Option Bool :=
  bif (((List.length x.1) : Int) != ((List.length x.2) : Int)) then some false else
  (iter (σ := ((List Node) × ((List Node) × (Int × Int)))) (ρ := (Unit ⊕ Bool)) (fun s =>
      bif (decide ((s.2.2.2 < s.2.2.1))) then (((getI s.1 s.2.2.2)).bind fun x1 =>
        ((getI s.2.1 s.2.2.2)).bind fun x2 =>
        bif (Bool.not ((x1.1.1 == x2.1.1) && ((x1.1.2 == x2.1.2) && ((x1.2.1.1 == x2.2.1.1) && ((x1.2.1.2 == x2.2.1.2) && (x1.2.2 == x2.2.2)))))) then some (.inr (.inr false)) else
        some (.inl (s.1, (s.2.1, (s.2.2.1, (IntKind.wrap .i64 (s.2.2.2 + 1))))))) else
      some (.inr (.inl ()))) (x.1, (x.2, (((List.length x.1) : Int), (0 : Int))))).bind fun x1 =>
  (match x1 with
  | .inl y => some true
  | .inr y => some y)
noncomputable def tree_May (x : Tree) : Option Bool :=
  (iter (σ := ((List Entry) × (Int × (Int × (Tree × (List Node)))))) (ρ := ((Tree × (List Node)) ⊕ Bool)) (fun s =>
      bif (decide ((s.2.2.1 < s.2.1))) then (((getI s.1 s.2.2.1)).bind fun x1 =>
        ((tree_move x1.1)).bind fun x2 =>
        bif (Bool.not x2) then some (.inr (.inr false)) else
        bif (decide ((0 < s.2.2.1))) then (((getI s.2.2.2.1.2 (IntKind.wrap .i64 (s.2.2.1 - 1)))).bind fun x3 =>
          ((op_Less (x3.1, x1.1))).bind fun x4 =>
          bif (Bool.not x4) then some (.inr (.inr false)) else
          ((tree_work_do (x1.1, s.2.2.2.2))).bind fun x5 =>
          ((tree_same (((x5.1, x5.2.1, x5.2.2.1, x5.2.2.2.1), x5.2.2.2.2.1), x1))).bind fun x6 =>
          bif (Bool.not x6) then some (.inr (.inr false)) else
          some (.inl (s.1, (s.2.1, ((IntKind.wrap .i64 (s.2.2.1 + 1)), (s.2.2.2.1, x5.2.2.2.2.2)))))) else
        ((tree_work_do (x1.1, s.2.2.2.2))).bind fun x3 =>
        ((tree_same (((x3.1, x3.2.1, x3.2.2.1, x3.2.2.2.1), x3.2.2.2.2.1), x1))).bind fun x4 =>
        bif (Bool.not x4) then some (.inr (.inr false)) else
        some (.inl (s.1, (s.2.1, ((IntKind.wrap .i64 (s.2.2.1 + 1)), (s.2.2.2.1, x3.2.2.2.2.2)))))) else
      some (.inr (.inl s.2.2.2))) (x.2, (((List.length x.2) : Int), ((0 : Int), (x, []))))).bind fun x1 =>
  (match x1 with
  | .inl y => ((slices_Equal_Node (y.2, y.1.1))).bind fun x2 =>
    some x2
  | .inr y => some y)
noncomputable def tree_Check (x : Tree) : Option Int :=
  ((tree_May x)).bind fun x1 =>
  bif (Bool.not x1) then some (1 : Int) else
  some (0 : Int)
noncomputable def tree_work_undo (x : Entry × List Node) : Option (List Node) :=
  ((tree_find (x.2, x.1.1.2.2.2.2.1))).bind fun x1 =>
  bif x.1.2.2.2.2 then some x.2 else
  bif x.1.2.1 then (((getI x.2 x1.1)).bind fun x2 =>
    ((getI x.2 x1.1)).bind fun x3 =>
    ((getI (List.set x.2 (Int.toNat x1.1) (x3.1, x.1.2.2.1, x3.2.2)) x1.1)).bind fun x4 =>
    ((getI (List.set x.2 (Int.toNat x1.1) (x3.1, x.1.2.2.1, x3.2.2)) x1.1)).bind fun x5 =>
    some (List.set (List.set x.2 (Int.toNat x1.1) (x3.1, x.1.2.2.1, x3.2.2)) (Int.toNat x1.1) (x5.1, x5.2.1, x.1.2.2.2.1))) else
  bif ((((decide ((0 ≤ x1.1))) && (decide ((x1.1 ≤ (IntKind.wrap .i64 (x1.1 + 1)))))) && (decide (((IntKind.wrap .i64 (x1.1 + 1)) ≤ ((List.length x.2) : Int))))) && (room (List.length x.2) 48)) then some ((List.take (Int.toNat x1.1) x.2) ++ (List.drop (Int.toNat (IntKind.wrap .i64 (x1.1 + 1))) x.2)) else
  none
noncomputable def tree_Put (x : (List Node) × (List Entry) × Op) : Option ((List Node) × (List Entry) × Int) :=
  (iter (σ := (Int × ((List Entry) × (Op × (Tree × (List Node)))))) (ρ := (Int × Tree)) (fun s =>
      (bif (decide ((0 < s.1))) then (((getI s.2.1 (IntKind.wrap .i64 (s.1 - 1)))).bind fun x1 =>
          ((getI s.2.1 (IntKind.wrap .i64 (s.1 - 1)))).bind fun x2 =>
          ((op_Less (s.2.2.1, x2.1))).bind fun x3 =>
          some x3) else
        some false).bind fun x1 =>
      bif x1 then (((getI s.2.1 (IntKind.wrap .i64 (s.1 - 1)))).bind fun x2 =>
        ((getI s.2.1 (IntKind.wrap .i64 (s.1 - 1)))).bind fun x3 =>
        ((tree_work_undo (x3, s.2.2.2.2))).bind fun x4 =>
        some (.inl ((IntKind.wrap .i64 (s.1 - 1)), (s.2.1, (s.2.2.1, (s.2.2.2.1, x4)))))) else
      bif ((decide ((0 ≤ s.1))) && (decide ((s.1 ≤ ((List.length s.2.1) : Int))))) then ((bif (decide ((0 < s.1))) then (((getI s.2.1 (IntKind.wrap .i64 (s.1 - 1)))).bind fun x2 =>
            ((getI s.2.1 (IntKind.wrap .i64 (s.1 - 1)))).bind fun x3 =>
            some ((x3.1.1.1 == s.2.2.1.1.1) && (x3.1.1.2 == s.2.2.1.1.2))) else
          some false).bind fun x2 =>
        bif x2 then ((iter (σ := ((List Entry) × (Int × (Int × ((List Entry) × (Op × (Tree × (List Node)))))))) (ρ := ((List Entry) × (Op × (Tree × (List Node))))) (fun s1 =>
              bif (decide ((s1.2.2.1 < s1.2.1))) then (((getI s1.1 s1.2.2.1)).bind fun x3 =>
                ((tree_work_do (x3.1, s1.2.2.2.2.2.2))).bind fun x4 =>
                some (.inl (s1.1, (s1.2.1, ((IntKind.wrap .i64 (s1.2.2.1 + 1)), (s1.2.2.2.1, (s1.2.2.2.2.1, (s1.2.2.2.2.2.1, x4.2.2.2.2.2)))))))) else
              some (.inr s1.2.2.2)) ((List.drop (Int.toNat s.1) s.2.1), (((List.length (List.drop (Int.toNat s.1) s.2.1)) : Int), ((0 : Int), s.2)))).bind fun x3 =>
          some (.inr ((4 : Int), ([], [])))) else
        bif ((decide ((0 ≤ s.1))) && (decide ((s.1 ≤ ((List.length s.2.1) : Int))))) then (bif (room (List.length (List.take (Int.toNat s.1) s.2.1)) 168) then (((tree_work_do (s.2.2.1, s.2.2.2.2))).bind fun x3 =>
            bif (room (List.length ((List.take (Int.toNat s.1) s.2.1) ++ [((x3.1, x3.2.1, x3.2.2.1, x3.2.2.2.1), x3.2.2.2.2.1)])) 168) then ((iter (σ := ((List Entry) × ((List Entry) × (Int × (Int × ((List Entry) × (Op × (Tree × (List Node))))))))) (ρ := ((List Entry) × ((List Entry) × (Op × (Tree × (List Node)))))) (fun s1 =>
                  bif (decide ((s1.2.2.2.1 < s1.2.2.1))) then (((getI s1.2.1 s1.2.2.2.1)).bind fun x4 =>
                    ((tree_work_do (x4.1, s1.2.2.2.2.2.2.2))).bind fun x5 =>
                    bif (room (List.length (s1.1 ++ [((x5.1, x5.2.1, x5.2.2.1, x5.2.2.2.1), x5.2.2.2.2.1)])) 168) then some (.inl ((s1.1 ++ [((x5.1, x5.2.1, x5.2.2.1, x5.2.2.2.1), x5.2.2.2.2.1)]), (s1.2.1, (s1.2.2.1, ((IntKind.wrap .i64 (s1.2.2.2.1 + 1)), (s1.2.2.2.2.1, (s1.2.2.2.2.2.1, (s1.2.2.2.2.2.2.1, x5.2.2.2.2.2)))))))) else
                    none) else
                  some (.inr (s1.1, s1.2.2.2.2))) (((List.take (Int.toNat s.1) s.2.1) ++ [((x3.1, x3.2.1, x3.2.2.1, x3.2.2.2.1), x3.2.2.2.2.1)]), ((List.drop (Int.toNat s.1) s.2.1), (((List.length (List.drop (Int.toNat s.1) s.2.1)) : Int), ((0 : Int), (s.2.1, (s.2.2.1, (s.2.2.2.1, x3.2.2.2.2.2)))))))).bind fun x4 =>
              some (.inr ((0 : Int), (x4.2.2.2.2, x4.1)))) else
            none) else
          none) else
        none) else
      none) (((List.length x.2.1) : Int), (x.2.1, (x.2.2, (([], []), x.1))))).bind fun x1 =>
  some (x1.2.1, (x1.2.2, x1.1))
noncomputable def tree_Own (x : Tree) : Option ((List Node) × List Entry) :=
  bif (room (List.length x.1) 48) then (bif (room (List.length x.2) 168) then ((iter (σ := (Int × (Int × ((List Node) × ((List (Bool × Entry)) × Tree))))) (ρ := ((List Node) × ((List (Bool × Entry)) × Tree))) (fun s =>
          bif (decide ((s.2.1 < s.1))) then (((getI s.2.2.2.1 s.2.1)).bind fun x1 =>
            ((getI s.2.2.2.1 s.2.1)).bind fun x2 =>
            bif x2.1 then none else
            ((op_Own x2.2.1)).bind fun x3 =>
            ((getI s.2.2.2.1 s.2.1)).bind fun x4 =>
            ((getI s.2.2.2.1 s.2.1)).bind fun x5 =>
            bif x5.1 then none else
            some (.inl (s.1, ((IntKind.wrap .i64 (s.2.1 + 1)), (s.2.2.1, ((List.set s.2.2.2.1 (Int.toNat s.2.1) (true, x3, x5.2.2)), s.2.2.2.2)))))) else
          some (.inr s.2.2)) (((List.length x.2) : Int), ((0 : Int), (x.1, ((mkM x.2), ([], [])))))).bind fun x1 =>
      bif (allM x1.2.1) then some (x1.1, (unM x1.2.1)) else
      none) else
    none) else
  none
noncomputable def tree_Apply (x : Tree × Op) : Option ((List Node) × (List Entry) × Int) :=
  (((tree_May x.1)).bind fun x1 =>
    bif (Bool.not x1) then some true else
    ((tree_move x.2)).bind fun x2 =>
    some (Bool.not x2)).bind fun x1 =>
  bif x1 then some ([], ([], (1 : Int))) else
  ((tree_Own x.1)).bind fun x2 =>
  ((tree_Put (x2.1, (x2.2, x.2)))).bind fun x3 =>
  some x3
noncomputable def arrasref16_Apply (x : Tree × Op) : Option (Tree × Bool) :=
  ((arrasref16_Moves x.1)).bind fun x1 =>
  (iter (σ := ((List Op) × (Bool × ((List Op) × (Int × (Tree × (Op × Tree))))))) (ρ := (((List Op) × (Bool × (Tree × (Op × Tree)))) ⊕ (Bool × Tree))) (fun s =>
      bif (decide ((s.2.2.2.1 < ((List.length s.2.2.1) : Int)))) then (((getI s.2.2.1 s.2.2.2.1)).bind fun x2 =>
        bif ((arrasref6_Cmp (x2.1, s.2.2.2.2.2.1.1)) == 0) then some (.inr (.inr (false, s.2.2.2.2.1))) else
        bif (bif (Bool.not s.2.1) then (decide ((0 < (arrasref6_Cmp (x2.1, s.2.2.2.2.2.1.1))))) else false) then (bif (room (List.length (s.1 ++ [s.2.2.2.2.2.1])) 120) then (((getI s.2.2.1 s.2.2.2.1)).bind fun x3 =>
            bif (room (List.length ((s.1 ++ [s.2.2.2.2.2.1]) ++ [x3])) 120) then some (.inl (((s.1 ++ [s.2.2.2.2.2.1]) ++ [x3]), (true, (s.2.2.1, ((IntKind.wrap .i64 (s.2.2.2.1 + 1)), s.2.2.2.2))))) else
            none) else
          none) else
        ((getI s.2.2.1 s.2.2.2.1)).bind fun x3 =>
        bif (room (List.length (s.1 ++ [x3])) 120) then some (.inl ((s.1 ++ [x3]), (s.2.1, (s.2.2.1, ((IntKind.wrap .i64 (s.2.2.2.1 + 1)), s.2.2.2.2))))) else
        none) else
      some (.inr (.inl (s.1, (s.2.1, s.2.2.2.2))))) ([], (false, (x1, ((0 : Int), (x.1, (x.2, ([], [])))))))).bind fun x2 =>
  (match x2 with
  | .inl y => bif (Bool.not y.2.1) then (bif (room (List.length (y.1 ++ [y.2.2.2.1])) 120) then (((arrasref16_Made (y.1 ++ [y.2.2.2.1]))).bind fun x3 =>
        some (x3, true)) else
      none) else
    ((arrasref16_Made y.1)).bind fun x3 =>
    some (x3, true)
  | .inr y => some (y.2, y.1))
noncomputable def arraslaw10_O (x : Unit) : Op :=
  (((1 : Int), (0 : Int)), (1 : Int), [0], (1 : Int), ((1 : Int), (0 : Int)), ((0 : Int), (0 : Int)), (ByteArray.mk ([107]).toArray), (0 : Int), (0 : Int))
noncomputable def tree_Children (x : Tree × Stamp) : Option (List Node) :=
  (iter (σ := ((List Node) × ((List Node) × (Int × (Int × (Tree × (Int × Int))))))) (ρ := ((List Node) × (Tree × (Int × Int)))) (fun s =>
      bif (decide ((s.2.2.2.1 < s.2.2.1))) then (((getI s.2.1 s.2.2.2.1)).bind fun x1 =>
        bif ((x1.2.1.1 == s.2.2.2.2.2.1) && (x1.2.1.2 == s.2.2.2.2.2.2)) then (bif (room (List.length (s.1 ++ [x1])) 48) then some (.inl ((s.1 ++ [x1]), (s.2.1, (s.2.2.1, ((IntKind.wrap .i64 (s.2.2.2.1 + 1)), s.2.2.2.2))))) else
          none) else
        some (.inl (s.1, (s.2.1, (s.2.2.1, ((IntKind.wrap .i64 (s.2.2.2.1 + 1)), s.2.2.2.2)))))) else
      some (.inr (s.1, s.2.2.2.2))) ([], (x.1.1, (((List.length x.1.1) : Int), ((0 : Int), x))))).bind fun x1 =>
  ((slices_SortFunc_Node x1.1)).bind fun x2 =>
  some x2
noncomputable def tree_Kids (x : Tree × Stamp) : Option ((List Stamp) × Int) :=
  ((tree_May x.1)).bind fun x1 =>
  bif (Bool.not x1) then some ([], (1 : Int)) else
  ((tree_Children x)).bind fun x2 =>
  (iter (σ := ((List (Int × Int)) × ((List Node) × (Int × (Int × (Tree × (Int × Int))))))) (ρ := ((List (Int × Int)) × (Tree × (Int × Int)))) (fun s =>
      bif (decide ((s.2.2.2.1 < s.2.2.1))) then (((getI s.2.1 s.2.2.2.1)).bind fun x3 =>
        bif (room (List.length (s.1 ++ [x3.1])) 16) then some (.inl ((s.1 ++ [x3.1]), (s.2.1, (s.2.2.1, ((IntKind.wrap .i64 (s.2.2.2.1 + 1)), s.2.2.2.2))))) else
        none) else
      some (.inr (s.1, s.2.2.2.2))) ([], (x2, (((List.length x2) : Int), ((0 : Int), x))))).bind fun x3 =>
  some (x3.1, (0 : Int))
noncomputable def tree_Apply_v (x : Tree × Op) : Option (Tree × Int) :=
  (((tree_May x.1)).bind fun x1 =>
    bif (Bool.not x1) then some true else
    ((tree_move x.2)).bind fun x2 =>
    some (Bool.not x2)).bind fun x1 =>
  bif x1 then some (([], []), (1 : Int)) else
  ((tree_Own x.1)).bind fun x2 =>
  ((tree_Put (x2.1, (x2.2, x.2)))).bind fun x3 =>
  some ((x3.1, x3.2.1), x3.2.2)
noncomputable def arraslaw16_wakes (x : Unit) : Option Bool :=
  ((tree_Apply_v (([], []), (arraslaw10_O ()))) : Option (Tree × Int)).bind fun x1 =>
  ((tree_Kids (x1.1, ((0 : Int), (0 : Int))))).bind fun x2 =>
  (bif ((arraslaw16_num x1.2) == 0) then (bif ((arraslaw16_num x2.2) == 0) then (bif (((List.length x2.1) : Int) == 1) then (((getI x2.1 0)).bind fun x3 =>
          some ((x3.1 == 1) && (x3.2 == 0))) else
        some false) else
      some false) else
    some false).bind fun x3 =>
  some x3
noncomputable def arraslaw16_TreeApplies (x : Script_arraslaw16) : Option Bool :=
  ((arraslaw16_heavy x)).bind fun x1 =>
  bif x1 then some true else
  ((arrasref0_CopyTree x.1)).bind fun x2 =>
  (iter (σ := (Int × (Script_arraslaw16 × Tree))) (ρ := ((Script_arraslaw16 × Tree) ⊕ Bool)) (fun s =>
      bif (bif (decide ((s.1 < ((List.length s.2.1.2.1) : Int)))) then (decide ((s.1 < 15))) else false) then (((arrasref16_Tree s.2.2)).bind fun x3 =>
        ((tree_Check s.2.2)).bind fun x4 =>
        bif (bif (Bool.not (x3 == ((arraslaw16_num x4) == 0))) then true else (bif (Bool.not x3) then ((arraslaw16_num x4) != 1) else false)) then some (.inr (.inr false)) else
        ((arrasref0_CopyTree s.2.2)).bind fun x5 =>
        ((getI s.2.1.2.1 s.1)).bind fun x6 =>
        ((arrasref0_CopyOp x6)).bind fun x7 =>
        ((tree_Apply (x5, x7))).bind fun x8 =>
        (((arrasref0_EqTree (x5, s.2.2))).bind fun x9 =>
          bif (Bool.not x9) then some true else
          ((getI s.2.1.2.1 s.1)).bind fun x10 =>
          ((arrasref0_EqOp (x7, x10))).bind fun x11 =>
          some (Bool.not x11)).bind fun x9 =>
        bif x9 then some (.inr (.inr false)) else
        (bif (Bool.not x3) then some true else
          ((getI s.2.1.2.1 s.1)).bind fun x10 =>
          ((arrasref16_Move x10)).bind fun x11 =>
          some (Bool.not x11)).bind fun x10 =>
        bif x10 then (bif ((arraslaw16_num x8.2.2) != 1) then some (.inr (.inr false)) else
          some (.inl ((IntKind.wrap .i64 (s.1 + 1)), s.2))) else
        ((getI s.2.1.2.1 s.1)).bind fun x11 =>
        ((arrasref16_Apply (s.2.2, x11))).bind fun x12 =>
        bif (Bool.not x12.2) then (bif ((arraslaw16_num x8.2.2) != 4) then some (.inr (.inr false)) else
          some (.inl ((IntKind.wrap .i64 (s.1 + 1)), s.2))) else
        (bif ((arraslaw16_num x8.2.2) != 0) then some true else
          ((arrasref0_EqTree ((x8.1, x8.2.1), x12.1))).bind fun x13 =>
          some (Bool.not x13)).bind fun x13 =>
        bif x13 then some (.inr (.inr false)) else
        bif (small (.pair (.list (.pair (.pair (.int .i64) (.int .i64)) (.pair (.pair (.int .i64) (.int .i64)) .str))) (.list (.pair (.pair (.pair (.int .i64) (.int .i64)) (.pair (.int .i64) (.pair (.list (.int .i64)) (.pair (.int .i64) (.pair (.pair (.int .i64) (.int .i64)) (.pair (.pair (.int .i64) (.int .i64)) (.pair .str (.pair (.int .i64) (.int .i64))))))))) (.pair .bool (.pair (.pair (.int .i64) (.int .i64)) (.pair .str .bool)))))) (x8.1, x8.2.1)) then ((((arrasref0_EqTree (x5, s.2.2))).bind fun x14 =>
            bif (Bool.not x14) then some true else
            ((getI s.2.1.2.1 s.1)).bind fun x15 =>
            ((arrasref0_EqOp (x7, x15))).bind fun x16 =>
            some (Bool.not x16)).bind fun x14 =>
          bif x14 then some (.inr (.inr false)) else
          ((arrasref0_CopyTree x12.1)).bind fun x15 =>
          some (.inl ((IntKind.wrap .i64 (s.1 + 1)), (s.2.1, x15)))) else
        none) else
      some (.inr (.inl s.2))) ((0 : Int), (x, x2))).bind fun x3 =>
  (match x3 with
  | .inl y => ((arraslaw16_wakes ())).bind fun x4 =>
    some x4
  | .inr y => some y)
end Go.Dv
