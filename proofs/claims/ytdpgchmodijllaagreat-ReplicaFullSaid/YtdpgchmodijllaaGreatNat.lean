/- The functions that the laws reach, each over lists, numbers and pairs: printed by a tool out of the told code (seat.py), joined to the code in the text Code. -/
import Derived.Test.YtdpgchmodijllaaGreatDvI
set_option linter.unusedVariables false
set_option linter.unusedSimpArgs false
set_option maxRecDepth 100000
open Go (IntKind)
namespace Go.Dv
abbrev sI : Sh := .int .i64
abbrev sStamp : Sh := (.pair sI sI)
abbrev Stamp : Type := Int × Int
abbrev sOp : Sh := (.pair sStamp (.pair sI (.pair (.list sI) (.pair sI (.pair sStamp (.pair sStamp (.pair .str sStamp)))))))
abbrev Op : Type := Stamp × Int × (List Int) × Int × Stamp × Stamp × ByteArray × Stamp
abbrev sNode : Sh := (.pair sStamp (.pair sStamp .str))
abbrev Node : Type := Stamp × Stamp × ByteArray
abbrev sEntry : Sh := (.pair sOp (.pair .bool (.pair sStamp (.pair .str .bool))))
abbrev Entry : Type := Op × Bool × Stamp × ByteArray × Bool
abbrev sTree : Sh := (.pair (.list sNode) (.list sEntry))
abbrev Tree : Type := (List Node) × List Entry
abbrev sReg : Sh := (.pair sI (.pair sI sStamp))
abbrev Reg : Type := Int × Int × Stamp
abbrev sLook : Sh := (.pair sStamp (.list sReg))
abbrev Look : Type := Stamp × List Reg
abbrev sShape : Sh := (.pair sTree (.list sLook))
abbrev Shape : Type := Tree × List Look
abbrev sState : Sh := (.pair sI (.pair sI (.pair (.list sI) (.pair (.list sOp) (.pair (.list sOp) (.pair sShape (.pair sI sStamp)))))))
abbrev State : Type := Int × Int × (List Int) × (List Op) × (List Op) × Shape × Int × Stamp
abbrev Frame : Type := Int × Int × Int × (List Int) × List Op
abbrev taker_arrasref10 : Type := (List Int) × Stamp
abbrev srule_prop : Sh := (.pair sI (.pair sI (.pair sI .bool)))
abbrev rule_prop : Type := Int × Int × Int × Bool
abbrev Item : Type := Int × Reg
noncomputable def cmp_Or_int (x : List Int) : Option Int :=
  (iter (σ := (Int × taker_arrasref10)) (ρ := (Int ⊕ Int)) (fun s =>
      bif (decide ((s.2.2.2 < s.2.2.1))) then (((getI s.2.1 s.2.2.2)).bind fun x1 =>
        bif (x1 != s.1) then some (.inr (.inr x1)) else
        some (.inl (s.1, (s.2.1, (s.2.2.1, (IntKind.wrap .i64 (s.2.2.2 + 1))))))) else
      some (.inr (.inl s.1))) ((0 : Int), (x, (((List.length x) : Int), (0 : Int))))).bind fun x1 =>
  (match x1 with
  | .inl y => some y
  | .inr y => some y)
noncomputable def cmp_isNaN_int (x : Int) : Bool :=
  (x != x)
noncomputable def cmp_Compare_int (x : Int × Int) : Int :=
  bif (cmp_isNaN_int x.1) then (bif (cmp_isNaN_int x.2) then (0 : Int) else
    ((-1) : Int)) else
  bif (cmp_isNaN_int x.2) then (1 : Int) else
  bif (decide ((x.1 < x.2))) then ((-1) : Int) else
  bif (decide ((x.2 < x.1))) then (1 : Int) else
  (0 : Int)
noncomputable def stamp_Cmp (x : Stamp × Stamp) : Option Int :=
  ((cmp_Or_int [(cmp_Compare_int (x.1.1, x.2.1)), (cmp_Compare_int (x.1.2, x.2.2))])).bind fun x1 =>
  some x1
noncomputable def strings_Compare (x : ByteArray × ByteArray) : Int :=
  (cmpStr x.1 x.2)
noncomputable def tree_Children_1 (x : Node × Node) : Option Int :=
  ((stamp_Cmp (x.1.1, x.2.1))).bind fun x1 =>
  ((cmp_Or_int [(strings_Compare (x.1.2.2, x.2.2.2)), x1])).bind fun x2 =>
  some x2
noncomputable def cf_slices_SortFunc_Node (x y : El sNode) : Int := (tree_Children_1 (x, y)).getD 0
noncomputable def slices_SortFunc_Node : List (El sNode) → Option (List (El sNode)) := sortF cf_slices_SortFunc_Node
noncomputable def tree_find_1 (x : Node × Stamp) : Option Int :=
  ((stamp_Cmp (x.1.1, x.2))).bind fun x1 =>
  some x1
noncomputable def slices_BinarySearchFunc_Node_Stamp (x : (List Node) × Stamp) : Option (Int × Bool) :=
  (iter (σ := ((List Node) × Item)) (ρ := ((List Node) × Reg)) (fun s =>
      bif (decide ((s.2.2.1 < s.2.2.2.1))) then (bif (decide ((1 < 0))) then none else
        ((getI s.1 (IntKind.wrap .i64 (Int.fdiv (IntKind.wrap .u64 (IntKind.wrap .i64 (s.2.2.1 + s.2.2.2.1))) (2 ^ (Min.min (Int.toNat 1) (IntKind.bits .u64))))))).bind fun x1 =>
        ((tree_find_1 (x1, s.2.2.2.2))).bind fun x2 =>
        bif (decide ((x2 < 0))) then some (.inl (s.1, (s.2.1, ((IntKind.wrap .i64 ((IntKind.wrap .i64 (Int.fdiv (IntKind.wrap .u64 (IntKind.wrap .i64 (s.2.2.1 + s.2.2.2.1))) (2 ^ (Min.min (Int.toNat 1) (IntKind.bits .u64))))) + 1)), s.2.2.2)))) else
        some (.inl (s.1, (s.2.1, (s.2.2.1, ((IntKind.wrap .i64 (Int.fdiv (IntKind.wrap .u64 (IntKind.wrap .i64 (s.2.2.1 + s.2.2.2.1))) (2 ^ (Min.min (Int.toNat 1) (IntKind.bits .u64))))), s.2.2.2.2)))))) else
      some (.inr (s.1, (s.2.1, (s.2.2.1, s.2.2.2.2))))) (x.1, (((List.length x.1) : Int), ((0 : Int), (((List.length x.1) : Int), x.2))))).bind fun x1 =>
  (bif (decide ((x1.2.2.1 < x1.2.1))) then (((getI x1.1 x1.2.2.1)).bind fun x2 =>
      ((tree_find_1 (x2, x1.2.2.2))).bind fun x3 =>
      some (x1.2.2.1, (x3 == 0))) else
    some (x1.2.2.1, false)).bind fun x2 =>
  some x2
noncomputable def tree_find (x : (List Node) × Stamp) : Option (Int × Bool) :=
  ((slices_BinarySearchFunc_Node_Stamp x)).bind fun x1 =>
  some x1
noncomputable def tree_Children (x : Tree × Stamp) : Option (List Node) :=
  (iter (σ := ((List Node) × ((List Node) × (Int × (Int × (Tree × (Int × Int))))))) (ρ := ((List Node) × (Tree × (Int × Int)))) (fun s =>
      bif (decide ((s.2.2.2.1 < s.2.2.1))) then (((getI s.2.1 s.2.2.2.1)).bind fun x1 =>
        bif ((x1.2.1.1 == s.2.2.2.2.2.1) && (x1.2.1.2 == s.2.2.2.2.2.2)) then (bif (room (List.length (s.1 ++ [x1])) 48) then some (.inl ((s.1 ++ [x1]), (s.2.1, (s.2.2.1, ((IntKind.wrap .i64 (s.2.2.2.1 + 1)), s.2.2.2.2))))) else
          none) else
        some (.inl (s.1, (s.2.1, (s.2.2.1, ((IntKind.wrap .i64 (s.2.2.2.1 + 1)), s.2.2.2.2)))))) else
      some (.inr (s.1, s.2.2.2.2))) ([], (x.1.1, (((List.length x.1.1) : Int), ((0 : Int), x))))).bind fun x1 =>
  ((slices_SortFunc_Node x1.1)).bind fun x2 =>
  some x2
noncomputable def tree_Node (x : Tree × Stamp) : Option (Node × Bool) :=
  ((tree_find (x.1.1, x.2))).bind fun x1 =>
  bif (Bool.not x1.2) then some ((((0 : Int), (0 : Int)), ((0 : Int), (0 : Int)), (ByteArray.mk ([]).toArray)), false) else
  ((getI x.1.1 x1.1)).bind fun x2 =>
  some (x2, true)
noncomputable def stamp_Trash (x : Unit) : Stamp :=
  ((0 : Int), (1 : Int))
noncomputable def stamp_Root (x : Unit) : Stamp :=
  ((0 : Int), (0 : Int))
noncomputable def tree_Up (x : Tree × Stamp) : Option (List Stamp) :=
  (iter (σ := ((List (Int × Int)) × (Tree × ((Int × Int) × Node)))) (ρ := (List (Int × Int))) (fun s =>
      ((tree_Node (s.2.1, s.2.2.1))).bind fun x1 =>
      bif x1.2 then (bif (room (List.length (s.1 ++ [x1.1.2.1])) 16) then some (.inl ((s.1 ++ [x1.1.2.1]), (s.2.1, (x1.1.2.1, x1.1)))) else
        none) else
      some (.inr s.1)) ([], (x.1, (x.2, (((0 : Int), (0 : Int)), ((0 : Int), (0 : Int)), (ByteArray.mk ([]).toArray)))))).bind fun x1 =>
  some x1
noncomputable def tree_Lives (x : Tree × Stamp) : Option Bool :=
  ((tree_Up x)).bind fun x1 =>
  (bif ((x.2.1 == (stamp_Root ()).1) && (x.2.2 == (stamp_Root ()).2)) then some true else
    bif (decide ((0 < ((List.length x1) : Int)))) then (((getI x1 (IntKind.wrap .i64 (((List.length x1) : Int) - 1)))).bind fun x2 =>
      some ((x2.1 == (stamp_Root ()).1) && (x2.2 == (stamp_Root ()).2))) else
    some false).bind fun x2 =>
  some x2
noncomputable def tree_work_circle (x : (List Node) × Stamp × Stamp) : Option Bool :=
  (iter (σ := ((List Node) × ((Int × Int) × (Int × Int)))) (ρ := Bool) (fun s =>
      bif ((s.2.2.1 == s.2.1.1) && (s.2.2.2 == s.2.1.2)) then some (.inr true) else
      ((tree_find (s.1, s.2.2))).bind fun x1 =>
      bif x1.2 then (((getI s.1 x1.1)).bind fun x2 =>
        some (.inl (s.1, (s.2.1, x2.2.1)))) else
      some (.inr false)) x).bind fun x1 =>
  some x1
noncomputable def tree_Circles (x : Tree × Op) : Option Bool :=
  ((tree_work_circle (x.1.1, (x.2.2.2.2.2.1, x.2.2.2.2.2.2.1)))).bind fun x1 =>
  some x1
noncomputable def shape_living (x : Tree) : Option Int :=
  (iter (σ := (Int × ((List Node) × (Int × (Int × Tree))))) (ρ := (Int × Tree)) (fun s =>
      bif (decide ((s.2.2.2.1 < s.2.2.1))) then (((getI s.2.1 s.2.2.2.1)).bind fun x1 =>
        ((tree_Lives (s.2.2.2.2, x1.1))).bind fun x2 =>
        bif x2 then some (.inl ((IntKind.wrap .i64 (s.1 + 1)), (s.2.1, (s.2.2.1, ((IntKind.wrap .i64 (s.2.2.2.1 + 1)), s.2.2.2.2))))) else
        some (.inl (s.1, (s.2.1, (s.2.2.1, ((IntKind.wrap .i64 (s.2.2.2.1 + 1)), s.2.2.2.2)))))) else
      some (.inr (s.1, s.2.2.2.2))) ((0 : Int), (x.1, (((List.length x.1) : Int), ((0 : Int), x))))).bind fun x1 =>
  some x1.1
noncomputable def shape_tall_b (F : Tree × Stamp → Option Int) (x : Tree × Stamp) : Option Int :=
  ((tree_Children x)).bind fun x1 =>
  (iter (σ := (Int × ((List Node) × (Int × (Int × (Tree × (Int × Int))))))) (ρ := (Int × (Tree × (Int × Int)))) (fun s =>
      bif (decide ((s.2.2.2.1 < s.2.2.1))) then (((getI s.2.1 s.2.2.2.1)).bind fun x2 =>
        ((F (s.2.2.2.2.1, x2.1))).bind fun x3 =>
        some (.inl ((if (s.1 < x3) then x3 else s.1), (s.2.1, (s.2.2.1, ((IntKind.wrap .i64 (s.2.2.2.1 + 1)), s.2.2.2.2)))))) else
      some (.inr (s.1, s.2.2.2.2))) ((0 : Int), (x1, (((List.length x1) : Int), ((0 : Int), x))))).bind fun x2 =>
  some (IntKind.wrap .i64 (x2.1 + 1))
noncomputable def shape_tall : Tree × Stamp → Option Int := fixO shape_tall_b
noncomputable def shape_moves (x : Tree × Op) : Option Int :=
  ((tree_Node (x.1, x.2.2.2.2.2.1))).bind fun x1 =>
  ((tree_Lives (x.1, x.2.2.2.2.2.2.1))).bind fun x2 =>
  bif (bif (Bool.not ((x.2.2.2.2.2.2.1.1 == (stamp_Trash ()).1) && (x.2.2.2.2.2.2.1.2 == (stamp_Trash ()).2))) then (Bool.not x2) else false) then some (3 : Int) else
  (bif x1.2 then (((tree_Circles x)).bind fun x3 =>
      bif x3 then some true else
      ((tree_Lives (x.1, x.2.2.2.2.2.1))).bind fun x4 =>
      some (Bool.not x4)) else
    some false).bind fun x3 =>
  (bif x3 then some (x1.2, (x2, (true, (x.1, (x.2, x1.1))))) else
    some (x1.2, (x2, ((bif (Bool.not x1.2) then ((x.2.2.2.2.2.2.1.1 == (stamp_Trash ()).1) && (x.2.2.2.2.2.2.1.2 == (stamp_Trash ()).2)) else false), (x.1, (x.2, x1.1)))))).bind fun x4 =>
  bif x4.2.2.1 then some (6 : Int) else
  (bif (Bool.not x4.1) then (((shape_living x4.2.2.2.1)).bind fun x5 =>
      some (decide ((48 ≤ x5)))) else
    some false).bind fun x5 =>
  bif x5 then some (5 : Int) else
  (bif x4.2.1 then (((tree_Up (x4.2.2.2.1, x4.2.2.2.2.1.2.2.2.2.2.1))).bind fun x6 =>
      ((shape_tall (x4.2.2.2.1, x4.2.2.2.2.1.2.2.2.2.1))).bind fun x7 =>
      some (decide ((13 < (IntKind.wrap .i64 ((IntKind.wrap .i64 (((List.length x6) : Int) + 1)) + x7)))))) else
    some false).bind fun x6 =>
  bif x6 then some (2 : Int) else
  some (0 : Int)
noncomputable def shape_Lets (x : Shape × Op) : Option Int :=
  bif (x.2.2.2.2.1 == 1) then (((shape_moves (x.1.1, x.2))).bind fun x1 =>
    some x1) else
  ((tree_Node (x.1.1, x.2.2.2.2.2.1))).bind fun x1 =>
  bif (Bool.not x1.2) then some (3 : Int) else
  some (0 : Int)
end Go.Dv
/- The functions that the laws reach, each over lists, numbers and pairs: printed by a tool out of the told code (seat.py), joined to the code in the text Code. -/
set_option linter.unusedVariables false
set_option linter.unusedSimpArgs false
set_option maxRecDepth 100000
open Go (IntKind)
namespace Go.Dv.B
abbrev sI : Sh := .int .i64
abbrev sStamp : Sh := (.pair sI sI)
abbrev Stamp : Type := Int × Int
abbrev sOp : Sh := (.pair sStamp (.pair sI (.pair (.list sI) (.pair sI (.pair sStamp (.pair sStamp (.pair .str sStamp)))))))
abbrev Op : Type := Stamp × Int × (List Int) × Int × Stamp × Stamp × ByteArray × Stamp
abbrev sNode : Sh := (.pair sStamp (.pair sStamp .str))
abbrev Node : Type := Stamp × Stamp × ByteArray
abbrev sEntry : Sh := (.pair sOp (.pair .bool (.pair sStamp (.pair .str .bool))))
abbrev Entry : Type := Op × Bool × Stamp × ByteArray × Bool
abbrev sTree : Sh := (.pair (.list sNode) (.list sEntry))
abbrev Tree : Type := (List Node) × List Entry
abbrev sReg : Sh := (.pair sI (.pair sI sStamp))
abbrev Reg : Type := Int × Int × Stamp
abbrev sLook : Sh := (.pair sStamp (.list sReg))
abbrev Look : Type := Stamp × List Reg
abbrev sShape : Sh := (.pair sTree (.list sLook))
abbrev Shape : Type := Tree × List Look
abbrev sState : Sh := (.pair sI (.pair sI (.pair (.list sI) (.pair (.list sOp) (.pair (.list sOp) (.pair sShape (.pair sI sStamp)))))))
abbrev State : Type := Int × Int × (List Int) × (List Op) × (List Op) × Shape × Int × Stamp
abbrev Frame : Type := Int × Int × Int × (List Int) × List Op
abbrev taker_arrasref10 : Type := (List Int) × Stamp
abbrev srule_prop : Sh := (.pair sI (.pair sI (.pair sI .bool)))
abbrev rule_prop : Type := Int × Int × Int × Bool
abbrev Item : Type := Int × Reg
noncomputable def have_Is (x : List Int) : Option Bool :=
  (iter (σ := ((List Int) × Int)) (ρ := Bool) (fun s =>
      bif (s.2 == ((List.length s.1) : Int)) then some (.inr (bif (decide ((1 ≤ s.2))) then (decide ((s.2 ≤ 16))) else false)) else
      (((getI s.1 s.2)).bind fun x1 =>
        bif (decide ((0 ≤ x1))) then (((getI s.1 s.2)).bind fun x2 =>
          some (decide ((x2 ≤ 1099511627776)))) else
        some false).bind fun x1 =>
      bif x1 then some (.inl (s.1, (IntKind.wrap .i64 (s.2 + 1)))) else
      some (.inr false)) (x, (0 : Int))).bind fun x1 =>
  some x1
noncomputable def replica_empty (x : Int × Int) : Option (Int × Int × (List Int) × (List Op) × (List Op) × (List Node) × (List Entry) × (List Look) × Int × Stamp) :=
  bif (((decide ((0 ≤ x.2))) && (decide ((x.2 ≤ x.2)))) && (room (Int.toNat x.2) 8)) then some (x.1, ((0 : Int), ((List.replicate (Int.toNat x.2) 0), ([], ([], ([], ([], ([], ((0 : Int), (0 : Int), (0 : Int)))))))))) else
  none
noncomputable def stamp_Is (x : Stamp) : Bool :=
  (bif (decide ((1 ≤ x.1))) then (bif (decide ((x.1 ≤ 1099511627776))) then (bif (decide ((0 ≤ x.2))) then (decide ((x.2 < 16))) else false) else false) else false)
noncomputable def stamp_Root (x : Unit) : Stamp :=
  ((0 : Int), (0 : Int))
noncomputable def stamp_Trash (x : Unit) : Stamp :=
  ((0 : Int), (1 : Int))
noncomputable def stamp_Place (x : Stamp) : Bool :=
  (bif (stamp_Is x) then true else (bif ((x.1 == (stamp_Root ()).1) && (x.2 == (stamp_Root ()).2)) then true else ((x.1 == (stamp_Trash ()).1) && (x.2 == (stamp_Trash ()).2))))
noncomputable def key_Is (x : ByteArray) : Option Bool :=
  (bif (decide ((1 ≤ ((ByteArray.size x) : Int)))) then (bif (decide ((((ByteArray.size x) : Int) ≤ 64))) then (((getB x (IntKind.wrap .i64 (((ByteArray.size x) : Int) - 1)))).bind fun x1 =>
        some (x1 != 0)) else
      some false) else
    some false).bind fun x1 =>
  some x1
noncomputable def prop_Is (x : Int) : Bool :=
  (bif (decide ((0 ≤ x))) then (decide ((x < 19))) else false)
noncomputable def prop_ruleOf (x : Int) : Option rule_prop :=
  bif (x == 0) then some ((0 : Int), (2 : Int), (0 : Int), false) else
  (bif (x == 1) then some (x, (true, ((0 : Int), (0 : Int), (0 : Int), false))) else
    some (x, ((x == 2), ((0 : Int), (0 : Int), (0 : Int), false)))).bind fun x1 =>
  bif x1.2.1 then some ((0 : Int), (1 : Int), (0 : Int), false) else
  (bif (x1.1 == 3) then some (x1.1, (true, x1.2.2)) else
    (bif (x1.1 == 4) then some (x1.1, (true, x1.2.2)) else
      (bif (x1.1 == 6) then some (x1.1, (true, x1.2.2)) else
        (bif (x1.1 == 8) then some (x1.1, (true, x1.2.2)) else
          some (x1.1, ((x1.1 == 11), x1.2.2))).bind fun x2 =>
        some x2).bind fun x2 =>
      some x2).bind fun x2 =>
    some x2).bind fun x2 =>
  bif x2.2.1 then some (((-1) : Int), (1099511627776 : Int), ((-1) : Int), false) else
  (bif (x2.1 == 5) then some (x2.1, (true, x2.2.2)) else
    some (x2.1, ((x2.1 == 7), x2.2.2))).bind fun x3 =>
  bif x3.2.1 then some ((0 : Int), (1099511627776 : Int), (0 : Int), false) else
  bif (x3.1 == 9) then some ((0 : Int), (1048576 : Int), (0 : Int), false) else
  bif (x3.1 == 10) then some ((0 : Int), (1048576 : Int), (1 : Int), false) else
  bif (x3.1 == 15) then some ((0 : Int), (4 : Int), (0 : Int), false) else
  bif (x3.1 == 16) then some ((0 : Int), (3 : Int), (0 : Int), false) else
  bif (x3.1 == 17) then some ((0 : Int), (16777215 : Int), (0 : Int), true) else
  bif (x3.1 == 18) then some ((64 : Int), (64000 : Int), (1024 : Int), true) else
  some ((0 : Int), (1073741824 : Int), (0 : Int), false)
noncomputable def prop_May (x : Int × Int) : Option Bool :=
  (bif (prop_Is x.1) then (((prop_ruleOf x.1)).bind fun x1 =>
      bif (decide ((x1.1 ≤ x.2))) then (((prop_ruleOf x.1)).bind fun x2 =>
        some (decide ((x.2 ≤ x2.2.1)))) else
      some false) else
    some false).bind fun x1 =>
  some x1
noncomputable def op_kind (x : Op) : Option Bool :=
  bif (x.2.2.2.1 == 1) then ((bif (stamp_Place x.2.2.2.2.2.1) then (((key_Is x.2.2.2.2.2.2.1)).bind fun x1 =>
        bif x1 then (bif (x.2.2.2.2.2.2.2.1 == 0) then some (x.2.2.2.2.2.2.2.2 == 0) else
          some false) else
        some false) else
      some false).bind fun x1 =>
    some x1) else
  bif (x.2.2.2.1 == 2) then ((((prop_May x.2.2.2.2.2.2.2)).bind fun x1 =>
      bif x1 then (bif ((x.2.2.2.2.2.1.1 == (stamp_Root ()).1) && (x.2.2.2.2.2.1.2 == (stamp_Root ()).2)) then some ((ByteArray.toList x.2.2.2.2.2.2.1) == (ByteArray.toList (ByteArray.mk ([]).toArray))) else
        some false) else
      some false : Option Bool).bind fun x1 =>
    some x1) else
  some false
noncomputable def op_May (x : Op) : Option Bool :=
  (bif (Bool.not (stamp_Is x.1)) then some true else
    ((have_Is x.2.2.1)).bind fun x1 =>
    bif (Bool.not x1) then some true else
    bif (decide ((((List.length x.2.2.1) : Int) ≤ x.1.2))) then some true else
    some (Bool.not (stamp_Is x.2.2.2.2.1))).bind fun x1 =>
  bif x1 then some false else
  (((getI x.2.2.1 x.1.2)).bind fun x2 =>
    bif (x.2.1 == (IntKind.wrap .i64 (x2 + 1))) then (bif (decide ((x.2.1 ≤ 1099511627776))) then (((op_kind x)).bind fun x3 =>
        some x3) else
      some false) else
    some false).bind fun x2 =>
  some x2
noncomputable def have_Over (x : (List Int) × List Int) : Option Bool :=
  (iter (σ := ((List Int) × taker_arrasref10)) (ρ := (Unit ⊕ Bool)) (fun s =>
      bif (decide ((s.2.2.2 < s.2.2.1))) then (((getI s.2.1 s.2.2.2)).bind fun x1 =>
        ((getI s.1 s.2.2.2)).bind fun x2 =>
        bif (decide ((x2 < x1))) then some (.inr (.inr false)) else
        some (.inl (s.1, (s.2.1, (s.2.2.1, (IntKind.wrap .i64 (s.2.2.2 + 1))))))) else
      some (.inr (.inl ()))) (x.1, (x.2, (((List.length x.1) : Int), (0 : Int))))).bind fun x1 =>
  (match x1 with
  | .inl y => some true
  | .inr y => some y)
noncomputable def hold_IsReady (x : (List Int) × Op) : Option Bool :=
  (((getI x.1 x.2.1.2)).bind fun x1 =>
    bif (x1 == (IntKind.wrap .i64 (x.2.2.1 - 1))) then (((have_Over (x.1, x.2.2.2.1))).bind fun x2 =>
      some x2) else
    some false).bind fun x1 =>
  some x1
noncomputable def op_Own (x : Op) : Option Op :=
  bif (room (List.length x.2.2.1) 8) then some x else
  none
noncomputable def replica_put_1 (x : Entry × Op) : Bool :=
  ((x.1.1.1.1 == x.2.1.1) && (x.1.1.1.2 == x.2.1.2))
noncomputable def slices_IndexFunc_Entry (x : (List Entry) × Op) : Option Int :=
  (iter (σ := ((List Entry) × (Op × (Int × Int)))) (ρ := (Unit ⊕ Int)) (fun s =>
      bif (decide ((s.2.2.2 < s.2.2.1))) then (((getI s.1 s.2.2.2)).bind fun x1 =>
        bif (replica_put_1 (x1, s.2.1)) then some (.inr (.inr s.2.2.2)) else
        some (.inl (s.1, (s.2.1, (s.2.2.1, (IntKind.wrap .i64 (s.2.2.2 + 1))))))) else
      some (.inr (.inl ()))) (x.1, (x.2, (((List.length x.1) : Int), (0 : Int))))).bind fun x1 =>
  (match x1 with
  | .inl y => some ((-1) : Int)
  | .inr y => some y)
noncomputable def slices_ContainsFunc_Entry (x : (List Entry) × Op) : Option Bool :=
  ((slices_IndexFunc_Entry x)).bind fun x1 =>
  some (decide ((0 ≤ x1)))
noncomputable def cmp_Or_int (x : List Int) : Option Int :=
  (iter (σ := (Int × taker_arrasref10)) (ρ := (Int ⊕ Int)) (fun s =>
      bif (decide ((s.2.2.2 < s.2.2.1))) then (((getI s.2.1 s.2.2.2)).bind fun x1 =>
        bif (x1 != s.1) then some (.inr (.inr x1)) else
        some (.inl (s.1, (s.2.1, (s.2.2.1, (IntKind.wrap .i64 (s.2.2.2 + 1))))))) else
      some (.inr (.inl s.1))) ((0 : Int), (x, (((List.length x) : Int), (0 : Int))))).bind fun x1 =>
  (match x1 with
  | .inl y => some y
  | .inr y => some y)
noncomputable def cmp_isNaN_int (x : Int) : Bool :=
  (x != x)
noncomputable def cmp_Compare_int (x : Int × Int) : Int :=
  bif (cmp_isNaN_int x.1) then (bif (cmp_isNaN_int x.2) then (0 : Int) else
    ((-1) : Int)) else
  bif (cmp_isNaN_int x.2) then (1 : Int) else
  bif (decide ((x.1 < x.2))) then ((-1) : Int) else
  bif (decide ((x.2 < x.1))) then (1 : Int) else
  (0 : Int)
noncomputable def stamp_Cmp (x : Stamp × Stamp) : Option Int :=
  ((cmp_Or_int [(cmp_Compare_int (x.1.1, x.2.1)), (cmp_Compare_int (x.1.2, x.2.2))])).bind fun x1 =>
  some x1
noncomputable def op_Less (x : Op × Op) : Option Bool :=
  ((stamp_Cmp (x.1.1, x.2.1))).bind fun x1 =>
  some (decide ((x1 < 0)))
noncomputable def tree_find_1 (x : Node × Stamp) : Option Int :=
  ((stamp_Cmp (x.1.1, x.2))).bind fun x1 =>
  some x1
noncomputable def slices_BinarySearchFunc_Node_Stamp (x : (List Node) × Stamp) : Option (Int × Bool) :=
  (iter (σ := ((List Node) × Item)) (ρ := ((List Node) × Reg)) (fun s =>
      bif (decide ((s.2.2.1 < s.2.2.2.1))) then (bif (decide ((1 < 0))) then none else
        ((getI s.1 (IntKind.wrap .i64 (Int.fdiv (IntKind.wrap .u64 (IntKind.wrap .i64 (s.2.2.1 + s.2.2.2.1))) (2 ^ (Min.min (Int.toNat 1) (IntKind.bits .u64))))))).bind fun x1 =>
        ((tree_find_1 (x1, s.2.2.2.2))).bind fun x2 =>
        bif (decide ((x2 < 0))) then some (.inl (s.1, (s.2.1, ((IntKind.wrap .i64 ((IntKind.wrap .i64 (Int.fdiv (IntKind.wrap .u64 (IntKind.wrap .i64 (s.2.2.1 + s.2.2.2.1))) (2 ^ (Min.min (Int.toNat 1) (IntKind.bits .u64))))) + 1)), s.2.2.2)))) else
        some (.inl (s.1, (s.2.1, (s.2.2.1, ((IntKind.wrap .i64 (Int.fdiv (IntKind.wrap .u64 (IntKind.wrap .i64 (s.2.2.1 + s.2.2.2.1))) (2 ^ (Min.min (Int.toNat 1) (IntKind.bits .u64))))), s.2.2.2.2)))))) else
      some (.inr (s.1, (s.2.1, (s.2.2.1, s.2.2.2.2))))) (x.1, (((List.length x.1) : Int), ((0 : Int), (((List.length x.1) : Int), x.2))))).bind fun x1 =>
  (bif (decide ((x1.2.2.1 < x1.2.1))) then (((getI x1.1 x1.2.2.1)).bind fun x2 =>
      ((tree_find_1 (x2, x1.2.2.2))).bind fun x3 =>
      some (x1.2.2.1, (x3 == 0))) else
    some (x1.2.2.1, false)).bind fun x2 =>
  some x2
noncomputable def tree_find (x : (List Node) × Stamp) : Option (Int × Bool) :=
  ((slices_BinarySearchFunc_Node_Stamp x)).bind fun x1 =>
  some x1
noncomputable def tree_work_undo (x : Entry × List Node) : Option (List Node) :=
  ((tree_find (x.2, x.1.1.2.2.2.2.1))).bind fun x1 =>
  bif x.1.2.2.2.2 then some x.2 else
  bif x.1.2.1 then (((getI x.2 x1.1)).bind fun x2 =>
    ((getI x.2 x1.1)).bind fun x3 =>
    ((getI (List.set x.2 (Int.toNat x1.1) (x3.1, x.1.2.2.1, x3.2.2)) x1.1)).bind fun x4 =>
    ((getI (List.set x.2 (Int.toNat x1.1) (x3.1, x.1.2.2.1, x3.2.2)) x1.1)).bind fun x5 =>
    some (List.set (List.set x.2 (Int.toNat x1.1) (x3.1, x.1.2.2.1, x3.2.2)) (Int.toNat x1.1) (x5.1, x5.2.1, x.1.2.2.2.1))) else
  bif ((((decide ((0 ≤ x1.1))) && (decide ((x1.1 ≤ (IntKind.wrap .i64 (x1.1 + 1)))))) && (decide (((IntKind.wrap .i64 (x1.1 + 1)) ≤ ((List.length x.2) : Int))))) && (room (List.length x.2) 48)) then some ((List.take (Int.toNat x1.1) x.2) ++ (List.drop (Int.toNat (IntKind.wrap .i64 (x1.1 + 1))) x.2)) else
  none
noncomputable def tree_work_circle (x : (List Node) × Stamp × Stamp) : Option Bool :=
  (iter (σ := ((List Node) × ((Int × Int) × (Int × Int)))) (ρ := Bool) (fun s =>
      bif ((s.2.2.1 == s.2.1.1) && (s.2.2.2 == s.2.1.2)) then some (.inr true) else
      ((tree_find (s.1, s.2.2))).bind fun x1 =>
      bif x1.2 then (((getI s.1 x1.1)).bind fun x2 =>
        some (.inl (s.1, (s.2.1, x2.2.1)))) else
      some (.inr false)) x).bind fun x1 =>
  some x1
noncomputable def tree_work_do (x : Op × List Node) : Option (Entry × List Node) :=
  ((op_Own x.1)).bind fun x1 =>
  ((tree_work_circle (x.2, (x.1.2.2.2.2.1, x.1.2.2.2.2.2.1)))).bind fun x2 =>
  ((tree_find (x.2, x.1.2.2.2.2.1))).bind fun x3 =>
  (bif x3.2 then (((getI x.2 x3.1)).bind fun x4 =>
      ((getI x.2 x3.1)).bind fun x5 =>
      ((getI x.2 x3.1)).bind fun x6 =>
      ((getI x.2 x3.1)).bind fun x7 =>
      some (x3.1, (x3.2, (x.2, (x.1, (((((0 : Int), (0 : Int)), (0 : Int), [], (0 : Int), ((0 : Int), (0 : Int)), ((0 : Int), (0 : Int)), (ByteArray.mk ([]).toArray), (0 : Int), (0 : Int)), false, ((0 : Int), (0 : Int)), (ByteArray.mk ([]).toArray), false), (x1, true, x5.2.1, x7.2.2, x2))))))) else
    some (x3.1, (x3.2, (x.2, (x.1, (((((0 : Int), (0 : Int)), (0 : Int), [], (0 : Int), ((0 : Int), (0 : Int)), ((0 : Int), (0 : Int)), (ByteArray.mk ([]).toArray), (0 : Int), (0 : Int)), false, ((0 : Int), (0 : Int)), (ByteArray.mk ([]).toArray), false), (x1, false, ((0 : Int), (0 : Int)), (ByteArray.mk ([]).toArray), x2)))))) : Option (Int × (Bool × ((List Node) × (Op × (Entry × Entry)))))).bind fun x4 =>
  bif x4.2.2.2.2.2.2.2.2.2 then some (x4.2.2.2.2.2, x4.2.2.1) else
  bif x4.2.1 then (((getI x4.2.2.1 x4.1)).bind fun x5 =>
    ((getI x4.2.2.1 x4.1)).bind fun x6 =>
    some (x4.2.2.2.2.2, (List.set x4.2.2.1 (Int.toNat x4.1) (x4.2.2.2.1.2.2.2.2.1, x4.2.2.2.1.2.2.2.2.2.1, x4.2.2.2.1.2.2.2.2.2.2.1)))) else
  bif (((decide ((0 ≤ x4.1))) && (decide ((x4.1 ≤ ((List.length x4.2.2.1) : Int))))) && (room ((List.length x4.2.2.1) + 1) 48)) then some (x4.2.2.2.2.2, ((List.take (Int.toNat x4.1) x4.2.2.1) ++ ((x4.2.2.2.1.2.2.2.2.1, x4.2.2.2.1.2.2.2.2.2.1, x4.2.2.2.1.2.2.2.2.2.2.1) :: (List.drop (Int.toNat x4.1) x4.2.2.1)))) else
  none
noncomputable def tree_Put (x : (List Node) × (List Entry) × Op) : Option ((List Node) × (List Entry) × Int) :=
  (iter (σ := (Int × ((List Entry) × (Op × (Tree × (List Node)))))) (ρ := (Int × Tree)) (fun s =>
      (bif (decide ((0 < s.1))) then (((getI s.2.1 (IntKind.wrap .i64 (s.1 - 1)))).bind fun x1 =>
          ((getI s.2.1 (IntKind.wrap .i64 (s.1 - 1)))).bind fun x2 =>
          ((op_Less (s.2.2.1, x2.1))).bind fun x3 =>
          some x3) else
        some false).bind fun x1 =>
      bif x1 then (((getI s.2.1 (IntKind.wrap .i64 (s.1 - 1)))).bind fun x2 =>
        ((getI s.2.1 (IntKind.wrap .i64 (s.1 - 1)))).bind fun x3 =>
        ((tree_work_undo (x3, s.2.2.2.2))).bind fun x4 =>
        some (.inl ((IntKind.wrap .i64 (s.1 - 1)), (s.2.1, (s.2.2.1, (s.2.2.2.1, x4)))))) else
      bif ((decide ((0 ≤ s.1))) && (decide ((s.1 ≤ ((List.length s.2.1) : Int))))) then ((bif (decide ((0 < s.1))) then (((getI s.2.1 (IntKind.wrap .i64 (s.1 - 1)))).bind fun x2 =>
            ((getI s.2.1 (IntKind.wrap .i64 (s.1 - 1)))).bind fun x3 =>
            some ((x3.1.1.1 == s.2.2.1.1.1) && (x3.1.1.2 == s.2.2.1.1.2))) else
          some false).bind fun x2 =>
        bif x2 then ((iter (σ := ((List Entry) × (Int × (Int × ((List Entry) × (Op × (Tree × (List Node)))))))) (ρ := ((List Entry) × (Op × (Tree × (List Node))))) (fun s1 =>
              bif (decide ((s1.2.2.1 < s1.2.1))) then (((getI s1.1 s1.2.2.1)).bind fun x3 =>
                ((tree_work_do (x3.1, s1.2.2.2.2.2.2))).bind fun x4 =>
                some (.inl (s1.1, (s1.2.1, ((IntKind.wrap .i64 (s1.2.2.1 + 1)), (s1.2.2.2.1, (s1.2.2.2.2.1, (s1.2.2.2.2.2.1, x4.2)))))))) else
              some (.inr s1.2.2.2)) ((List.drop (Int.toNat s.1) s.2.1), (((List.length (List.drop (Int.toNat s.1) s.2.1)) : Int), ((0 : Int), s.2)))).bind fun x3 =>
          some (.inr ((4 : Int), ([], [])))) else
        bif ((decide ((0 ≤ s.1))) && (decide ((s.1 ≤ ((List.length s.2.1) : Int))))) then (bif (room (List.length (List.take (Int.toNat s.1) s.2.1)) 168) then (((tree_work_do (s.2.2.1, s.2.2.2.2))).bind fun x3 =>
            bif (room (List.length ((List.take (Int.toNat s.1) s.2.1) ++ [x3.1])) 168) then ((iter (σ := ((List Entry) × ((List Entry) × (Int × (Int × ((List Entry) × (Op × (Tree × (List Node))))))))) (ρ := ((List Entry) × ((List Entry) × (Op × (Tree × (List Node)))))) (fun s1 =>
                  bif (decide ((s1.2.2.2.1 < s1.2.2.1))) then (((getI s1.2.1 s1.2.2.2.1)).bind fun x4 =>
                    ((tree_work_do (x4.1, s1.2.2.2.2.2.2.2))).bind fun x5 =>
                    bif (room (List.length (s1.1 ++ [x5.1])) 168) then some (.inl ((s1.1 ++ [x5.1]), (s1.2.1, (s1.2.2.1, ((IntKind.wrap .i64 (s1.2.2.2.1 + 1)), (s1.2.2.2.2.1, (s1.2.2.2.2.2.1, (s1.2.2.2.2.2.2.1, x5.2)))))))) else
                    none) else
                  some (.inr (s1.1, s1.2.2.2.2))) (((List.take (Int.toNat s.1) s.2.1) ++ [x3.1]), ((List.drop (Int.toNat s.1) s.2.1), (((List.length (List.drop (Int.toNat s.1) s.2.1)) : Int), ((0 : Int), (s.2.1, (s.2.2.1, (s.2.2.2.1, x3.2)))))))).bind fun x4 =>
              some (.inr ((0 : Int), (x4.2.2.2.2, x4.1)))) else
            none) else
          none) else
        none) else
      none) (((List.length x.2.1) : Int), (x.2.1, (x.2.2, (([], []), x.1))))).bind fun x1 =>
  some (x1.2.1, (x1.2.2, x1.1))
noncomputable def shape_find_1 (x : Look × Stamp) : Option Int :=
  ((stamp_Cmp (x.1.1, x.2))).bind fun x1 =>
  some x1
noncomputable def slices_BinarySearchFunc_Look_Stamp (x : (List Look) × Stamp) : Option (Int × Bool) :=
  (iter (σ := ((List Look) × Item)) (ρ := ((List Look) × Reg)) (fun s =>
      bif (decide ((s.2.2.1 < s.2.2.2.1))) then (bif (decide ((1 < 0))) then none else
        ((getI s.1 (IntKind.wrap .i64 (Int.fdiv (IntKind.wrap .u64 (IntKind.wrap .i64 (s.2.2.1 + s.2.2.2.1))) (2 ^ (Min.min (Int.toNat 1) (IntKind.bits .u64))))))).bind fun x1 =>
        ((shape_find_1 (x1, s.2.2.2.2))).bind fun x2 =>
        bif (decide ((x2 < 0))) then some (.inl (s.1, (s.2.1, ((IntKind.wrap .i64 ((IntKind.wrap .i64 (Int.fdiv (IntKind.wrap .u64 (IntKind.wrap .i64 (s.2.2.1 + s.2.2.2.1))) (2 ^ (Min.min (Int.toNat 1) (IntKind.bits .u64))))) + 1)), s.2.2.2)))) else
        some (.inl (s.1, (s.2.1, (s.2.2.1, ((IntKind.wrap .i64 (Int.fdiv (IntKind.wrap .u64 (IntKind.wrap .i64 (s.2.2.1 + s.2.2.2.1))) (2 ^ (Min.min (Int.toNat 1) (IntKind.bits .u64))))), s.2.2.2.2)))))) else
      some (.inr (s.1, (s.2.1, (s.2.2.1, s.2.2.2.2))))) (x.1, (((List.length x.1) : Int), ((0 : Int), (((List.length x.1) : Int), x.2))))).bind fun x1 =>
  (bif (decide ((x1.2.2.1 < x1.2.1))) then (((getI x1.1 x1.2.2.1)).bind fun x2 =>
      ((shape_find_1 (x2, x1.2.2.2))).bind fun x3 =>
      some (x1.2.2.1, (x3 == 0))) else
    some (x1.2.2.1, false)).bind fun x2 =>
  some x2
noncomputable def shape_find (x : (List Look) × Stamp) : Option (Int × Bool) :=
  ((slices_BinarySearchFunc_Look_Stamp x)).bind fun x1 =>
  some x1
noncomputable def reg_find_1 (x : Reg × Int) : Int :=
  (cmp_Compare_int (x.1.1, x.2))
noncomputable def slices_BinarySearchFunc_Reg_int (x : (List Reg) × Int) : Option (Int × Bool) :=
  (iter (σ := ((List Reg) × Reg)) (ρ := ((List Reg) × (Int × (Int × Int)))) (fun s =>
      bif (decide ((s.2.2.2.1 < s.2.2.2.2))) then (bif (decide ((1 < 0))) then none else
        ((getI s.1 (IntKind.wrap .i64 (Int.fdiv (IntKind.wrap .u64 (IntKind.wrap .i64 (s.2.2.2.1 + s.2.2.2.2))) (2 ^ (Min.min (Int.toNat 1) (IntKind.bits .u64))))))).bind fun x1 =>
        bif (decide (((reg_find_1 (x1, s.2.1)) < 0))) then some (.inl (s.1, (s.2.1, (s.2.2.1, ((IntKind.wrap .i64 ((IntKind.wrap .i64 (Int.fdiv (IntKind.wrap .u64 (IntKind.wrap .i64 (s.2.2.2.1 + s.2.2.2.2))) (2 ^ (Min.min (Int.toNat 1) (IntKind.bits .u64))))) + 1)), s.2.2.2.2))))) else
        some (.inl (s.1, (s.2.1, (s.2.2.1, (s.2.2.2.1, (IntKind.wrap .i64 (Int.fdiv (IntKind.wrap .u64 (IntKind.wrap .i64 (s.2.2.2.1 + s.2.2.2.2))) (2 ^ (Min.min (Int.toNat 1) (IntKind.bits .u64))))))))))) else
      some (.inr (s.1, (s.2.1, (s.2.2.1, s.2.2.2.1))))) (x.1, (x.2, (((List.length x.1) : Int), ((0 : Int), ((List.length x.1) : Int)))))).bind fun x1 =>
  (bif (decide ((x1.2.2.2 < x1.2.2.1))) then (((getI x1.1 x1.2.2.2)).bind fun x2 =>
      some (x1.2.2.2, ((reg_find_1 (x2, x1.2.1)) == 0))) else
    some (x1.2.2.2, false)).bind fun x2 =>
  some x2
noncomputable def reg_find (x : (List Reg) × Int) : Option (Int × Bool) :=
  ((slices_BinarySearchFunc_Reg_int x)).bind fun x1 =>
  some x1
noncomputable def reg_Put (x : (List Reg) × Reg) : Option (List Reg) :=
  bif (room (List.length x.1) 32) then (((reg_find (x.1, x.2.1))).bind fun x1 =>
    bif (Bool.not x1.2) then (bif (((decide ((0 ≤ x1.1))) && (decide ((x1.1 ≤ ((List.length x.1) : Int))))) && (room ((List.length x.1) + 1) 32)) then some ((List.take (Int.toNat x1.1) x.1) ++ (x.2 :: (List.drop (Int.toNat x1.1) x.1))) else
      none) else
    ((getI x.1 x1.1)).bind fun x2 =>
    ((getI x.1 x1.1)).bind fun x3 =>
    ((stamp_Cmp (x3.2.2, x.2.2.2))).bind fun x4 =>
    bif (decide ((x4 < 0))) then (((getI x.1 x1.1)).bind fun x5 =>
      ((getI x.1 x1.1)).bind fun x6 =>
      some (List.set x.1 (Int.toNat x1.1) x.2)) else
    some x.1) else
  none
noncomputable def shape_Put (x : (List Node) × (List Entry) × (List Look) × Op) : Option ((List Node) × (List Entry) × (List Look) × Int) :=
  bif (x.2.2.2.2.2.2.1 == 1) then (((tree_Put (x.1, (x.2.1, x.2.2.2)))).bind fun x1 =>
    bif (x1.2.2 != 0) then some ([], ([], ([], x1.2.2))) else
    some (x1.1, (x1.2.1, (x.2.2.1, (0 : Int))))) else
  ((shape_find (x.2.2.1, x.2.2.2.2.2.2.2.1))).bind fun x1 =>
  (bif (Bool.not x1.2) then (bif (((decide ((0 ≤ x1.1))) && (decide ((x1.1 ≤ ((List.length x.2.2.1) : Int))))) && (room ((List.length x.2.2.1) + 1) 40)) then some (x1.1, (x.1, (x.2.1, (((List.take (Int.toNat x1.1) x.2.2.1) ++ ((x.2.2.2.2.2.2.2.1, []) :: (List.drop (Int.toNat x1.1) x.2.2.1))), (x.2.2.2, (([], []), [])))))) else
      none) else
    some (x1.1, (x.1, (x.2.1, (x.2.2.1, (x.2.2.2, (([], []), [])))))) : Option (Int × ((List Node) × ((List Entry) × ((List Look) × (Op × Shape)))))).bind fun x2 =>
  ((getI x2.2.2.2.1 x2.1)).bind fun x3 =>
  ((getI x2.2.2.2.1 x2.1)).bind fun x4 =>
  ((reg_Put (x4.2, (x2.2.2.2.2.1.2.2.2.2.2.2.2.1, x2.2.2.2.2.1.2.2.2.2.2.2.2.2, x2.2.2.2.2.1.1)))).bind fun x5 =>
  ((getI x2.2.2.2.1 x2.1)).bind fun x6 =>
  ((getI x2.2.2.2.1 x2.1)).bind fun x7 =>
  some (x2.2.1, (x2.2.2.1, ((List.set x2.2.2.2.1 (Int.toNat x2.1) (x7.1, x5)), (0 : Int))))
noncomputable def replica_put (x : (List Node) × (List Entry) × (List Look) × Op) : Option ((List Node) × (List Entry) × List Look) :=
  (bif (x.2.2.2.2.2.2.1 == 1) then (((slices_ContainsFunc_Entry (x.2.1, x.2.2.2))).bind fun x1 =>
      some x1) else
    some false).bind fun x1 =>
  bif x1 then some (x.1, (x.2.1, x.2.2.1)) else
  ((shape_Put x)).bind fun x2 =>
  some (x2.1, (x2.2.1, x2.2.2.1))
noncomputable def replica_apply (x : Op × Int × Int × (List Int) × (List Op) × (List Op) × (List Node) × (List Entry) × (List Look) × Int × Stamp) : Option (Int × Int × (List Int) × (List Op) × (List Op) × (List Node) × (List Entry) × (List Look) × Int × Stamp) :=
  ((op_Own x.1)).bind fun x1 =>
  bif (room (List.length (x.2.2.2.2.1 ++ [x1])) 120) then (((replica_put (x.2.2.2.2.2.2.1, (x.2.2.2.2.2.2.2.1, (x.2.2.2.2.2.2.2.2.1, x.1))))).bind fun x2 =>
    some (x.2.1, ((if (x.2.2.1 < x.1.1.1) then x.1.1.1 else x.2.2.1), (x.2.2.2.1, ((x.2.2.2.2.1 ++ [x1]), (x.2.2.2.2.2.1, (x2.1, (x2.2.1, (x2.2.2, x.2.2.2.2.2.2.2.2.2))))))))) else
  none
noncomputable def replica_built (x : Int × Int × List Op) : Option (State × Bool) :=
  ((replica_empty (x.1, x.2.1))).bind fun x1 =>
  (iter (σ := (Int × ((List Op) × (Int × (Int × (Int × ((List Int) × ((List Op) × ((List Op) × ((List Node) × ((List Entry) × ((List Look) × ((Int × (Int × Int)) × Op))))))))))))) (ρ := (Bool × (Int × (Int × ((List Int) × ((List Op) × ((List Op) × ((List Node) × ((List Entry) × ((List Look) × (Int × (Int × Int)))))))))))) (fun s =>
      bif (s.2.2.1 == ((List.length s.2.1) : Int)) then some (.inr (true, (s.2.2.2.1, (s.2.2.2.2.1, (s.2.2.2.2.2.1, (s.2.2.2.2.2.2.1, (s.2.2.2.2.2.2.2.1, (s.2.2.2.2.2.2.2.2.1, (s.2.2.2.2.2.2.2.2.2.1, (s.2.2.2.2.2.2.2.2.2.2.1, s.2.2.2.2.2.2.2.2.2.2.2.1)))))))))) else
      ((getI s.2.1 s.2.2.1)).bind fun x2 =>
      (((op_May x2)).bind fun x3 =>
        bif (Bool.not x3) then some true else
        bif (((List.length x2.2.2.1) : Int) != s.1) then some true else
        ((hold_IsReady (s.2.2.2.2.2.1, x2))).bind fun x4 =>
        some (Bool.not x4)).bind fun x3 =>
      bif x3 then some (.inr (false, (s.2.2.2.1, (s.2.2.2.2.1, (s.2.2.2.2.2.1, (s.2.2.2.2.2.2.1, (s.2.2.2.2.2.2.2.1, (s.2.2.2.2.2.2.2.2.1, (s.2.2.2.2.2.2.2.2.2.1, (s.2.2.2.2.2.2.2.2.2.2.1, s.2.2.2.2.2.2.2.2.2.2.2.1)))))))))) else
      ((getI s.2.2.2.2.2.1 x2.1.2)).bind fun x4 =>
      ((getI s.2.2.2.2.2.1 x2.1.2)).bind fun x5 =>
      ((replica_apply (x2, (s.2.2.2.1, (s.2.2.2.2.1, ((List.set s.2.2.2.2.2.1 (Int.toNat x2.1.2) x2.2.1), (s.2.2.2.2.2.2.1, (s.2.2.2.2.2.2.2.1, (s.2.2.2.2.2.2.2.2.1, (s.2.2.2.2.2.2.2.2.2.1, (s.2.2.2.2.2.2.2.2.2.2.1, s.2.2.2.2.2.2.2.2.2.2.2.1))))))))))).bind fun x6 =>
      some (.inl (s.1, (s.2.1, ((IntKind.wrap .i64 (s.2.2.1 + 1)), (x6.1, (x6.2.1, (x6.2.2.1, (x6.2.2.2.1, (x6.2.2.2.2.1, (x6.2.2.2.2.2.1, (x6.2.2.2.2.2.2.1, (x6.2.2.2.2.2.2.2.1, (x6.2.2.2.2.2.2.2.2, x2)))))))))))))) (x.2.1, (x.2.2, ((0 : Int), (x1.1, (x1.2.1, (x1.2.2.1, (x1.2.2.2.1, (x1.2.2.2.2.1, (x1.2.2.2.2.2.1, (x1.2.2.2.2.2.2.1, (x1.2.2.2.2.2.2.2.1, (x1.2.2.2.2.2.2.2.2, (((0 : Int), (0 : Int)), (0 : Int), [], (0 : Int), ((0 : Int), (0 : Int)), ((0 : Int), (0 : Int)), (ByteArray.mk ([]).toArray), (0 : Int), (0 : Int))))))))))))))).bind fun x2 =>
  some ((x2.2.1, x2.2.2.1, x2.2.2.2.1, x2.2.2.2.2.1, x2.2.2.2.2.2.1, ((x2.2.2.2.2.2.2.1, x2.2.2.2.2.2.2.2.1), x2.2.2.2.2.2.2.2.2.1), x2.2.2.2.2.2.2.2.2.2), x2.1)
noncomputable def slices_Equal_int (x : (List Int) × List Int) : Option Bool :=
  bif (((List.length x.1) : Int) != ((List.length x.2) : Int)) then some false else
  (iter (σ := ((List Int) × taker_arrasref10)) (ρ := (Unit ⊕ Bool)) (fun s =>
      bif (decide ((s.2.2.2 < s.2.2.1))) then (((getI s.1 s.2.2.2)).bind fun x1 =>
        ((getI s.2.1 s.2.2.2)).bind fun x2 =>
        bif (x1 != x2) then some (.inr (.inr false)) else
        some (.inl (s.1, (s.2.1, (s.2.2.1, (IntKind.wrap .i64 (s.2.2.2 + 1))))))) else
      some (.inr (.inl ()))) (x.1, (x.2, (((List.length x.1) : Int), (0 : Int))))).bind fun x1 =>
  (match x1 with
  | .inl y => some true
  | .inr y => some y)
noncomputable def slices_Equal_Node (x : (List Node) × List Node) : Option Bool :=
  bif (((List.length x.1) : Int) != ((List.length x.2) : Int)) then some false else
  (iter (σ := ((List Node) × ((List Node) × (Int × Int)))) (ρ := (Unit ⊕ Bool)) (fun s =>
      bif (decide ((s.2.2.2 < s.2.2.1))) then (((getI s.1 s.2.2.2)).bind fun x1 =>
        ((getI s.2.1 s.2.2.2)).bind fun x2 =>
        bif (Bool.not ((x1.1.1 == x2.1.1) && ((x1.1.2 == x2.1.2) && ((x1.2.1.1 == x2.2.1.1) && ((x1.2.1.2 == x2.2.1.2) && (x1.2.2 == x2.2.2)))))) then some (.inr (.inr false)) else
        some (.inl (s.1, (s.2.1, (s.2.2.1, (IntKind.wrap .i64 (s.2.2.2 + 1))))))) else
      some (.inr (.inl ()))) (x.1, (x.2, (((List.length x.1) : Int), (0 : Int))))).bind fun x1 =>
  (match x1 with
  | .inl y => some true
  | .inr y => some y)
noncomputable def op_Same (x : Op × Op) : Option Bool :=
  (bif ((x.1.1.1 == x.2.1.1) && (x.1.1.2 == x.2.1.2)) then (bif (x.1.2.1 == x.2.2.1) then (((slices_Equal_int (x.1.2.2.1, x.2.2.2.1))).bind fun x1 =>
        bif x1 then (bif (x.1.2.2.2.1 == x.2.2.2.2.1) then (bif ((x.1.2.2.2.2.1.1 == x.2.2.2.2.2.1.1) && (x.1.2.2.2.2.1.2 == x.2.2.2.2.2.1.2)) then (bif ((x.1.2.2.2.2.2.1.1 == x.2.2.2.2.2.2.1.1) && (x.1.2.2.2.2.2.1.2 == x.2.2.2.2.2.2.1.2)) then (bif ((ByteArray.toList x.1.2.2.2.2.2.2.1) == (ByteArray.toList x.2.2.2.2.2.2.2.1)) then (bif (x.1.2.2.2.2.2.2.2.1 == x.2.2.2.2.2.2.2.2.1) then some (x.1.2.2.2.2.2.2.2.2 == x.2.2.2.2.2.2.2.2.2) else
                  some false) else
                some false) else
              some false) else
            some false) else
          some false) else
        some false) else
      some false) else
    some false).bind fun x1 =>
  some x1
noncomputable def replica_sameEntry (x : Entry × Entry) : Option Bool :=
  (((op_Same (x.1.1, x.2.1))).bind fun x1 =>
    bif x1 then (bif (x.1.2.1 == x.2.2.1) then (bif ((x.1.2.2.1.1 == x.2.2.2.1.1) && (x.1.2.2.1.2 == x.2.2.2.1.2)) then (bif ((ByteArray.toList x.1.2.2.2.1) == (ByteArray.toList x.2.2.2.2.1)) then some (x.1.2.2.2.2 == x.2.2.2.2.2) else
          some false) else
        some false) else
      some false) else
    some false).bind fun x1 =>
  some x1
noncomputable def slices_EqualFunc_Entry_Entry_Entry (x : (List Entry) × List Entry) : Option Bool :=
  bif (((List.length x.1) : Int) != ((List.length x.2) : Int)) then some false else
  (iter (σ := ((List Entry) × ((List Entry) × (Int × Int)))) (ρ := (Unit ⊕ Bool)) (fun s =>
      bif (decide ((s.2.2.2 < s.2.2.1))) then (((getI s.2.1 s.2.2.2)).bind fun x1 =>
        ((getI s.1 s.2.2.2)).bind fun x2 =>
        ((replica_sameEntry (x1, x2))).bind fun x3 =>
        bif (Bool.not x3) then some (.inr (.inr false)) else
        some (.inl (s.1, (s.2.1, (s.2.2.1, (IntKind.wrap .i64 (s.2.2.2 + 1))))))) else
      some (.inr (.inl ()))) (x.2, (x.1, (((List.length x.1) : Int), (0 : Int))))).bind fun x1 =>
  (match x1 with
  | .inl y => some true
  | .inr y => some y)
noncomputable def slices_Equal_Reg (x : (List Reg) × List Reg) : Option Bool :=
  bif (((List.length x.1) : Int) != ((List.length x.2) : Int)) then some false else
  (iter (σ := ((List Reg) × ((List Reg) × (Int × Int)))) (ρ := (Unit ⊕ Bool)) (fun s =>
      bif (decide ((s.2.2.2 < s.2.2.1))) then (((getI s.1 s.2.2.2)).bind fun x1 =>
        ((getI s.2.1 s.2.2.2)).bind fun x2 =>
        bif (Bool.not ((x1.1 == x2.1) && ((x1.2.1 == x2.2.1) && ((x1.2.2.1 == x2.2.2.1) && (x1.2.2.2 == x2.2.2.2))))) then some (.inr (.inr false)) else
        some (.inl (s.1, (s.2.1, (s.2.2.1, (IntKind.wrap .i64 (s.2.2.2 + 1))))))) else
      some (.inr (.inl ()))) (x.1, (x.2, (((List.length x.1) : Int), (0 : Int))))).bind fun x1 =>
  (match x1 with
  | .inl y => some true
  | .inr y => some y)
noncomputable def replica_sameLook (x : Look × Look) : Option Bool :=
  (bif ((x.1.1.1 == x.2.1.1) && (x.1.1.2 == x.2.1.2)) then (((slices_Equal_Reg (x.1.2, x.2.2))).bind fun x1 =>
      some x1) else
    some false).bind fun x1 =>
  some x1
noncomputable def slices_EqualFunc_Look_Look_Look (x : (List Look) × List Look) : Option Bool :=
  bif (((List.length x.1) : Int) != ((List.length x.2) : Int)) then some false else
  (iter (σ := ((List Look) × ((List Look) × (Int × Int)))) (ρ := (Unit ⊕ Bool)) (fun s =>
      bif (decide ((s.2.2.2 < s.2.2.1))) then (((getI s.2.1 s.2.2.2)).bind fun x1 =>
        ((getI s.1 s.2.2.2)).bind fun x2 =>
        ((replica_sameLook (x1, x2))).bind fun x3 =>
        bif (Bool.not x3) then some (.inr (.inr false)) else
        some (.inl (s.1, (s.2.1, (s.2.2.1, (IntKind.wrap .i64 (s.2.2.2 + 1))))))) else
      some (.inr (.inl ()))) (x.2, (x.1, (((List.length x.1) : Int), (0 : Int))))).bind fun x1 =>
  (match x1 with
  | .inl y => some true
  | .inr y => some y)
noncomputable def replica_sameShape (x : Shape × Shape) : Option Bool :=
  (((slices_Equal_Node (x.1.1.1, x.2.1.1))).bind fun x1 =>
    bif x1 then (((slices_EqualFunc_Entry_Entry_Entry (x.1.1.2, x.2.1.2))).bind fun x2 =>
      bif x2 then (((slices_EqualFunc_Look_Look_Look (x.1.2, x.2.2))).bind fun x3 =>
        some x3) else
      some false) else
    some false).bind fun x1 =>
  some x1
noncomputable def hold_fits (x : (List Int) × Op) : Option Bool :=
  (((op_May x.2)).bind fun x1 =>
    bif x1 then some (((List.length x.2.2.2.1) : Int) == ((List.length x.1) : Int)) else
    some false).bind fun x1 =>
  some x1
noncomputable def hold_twin (x : Op × Op) : Bool :=
  (bif (x.1.1.2 == x.2.1.2) then (x.1.2.1 == x.2.2.1) else false)
noncomputable def hold_May_1 (x : Op × Op) : Bool :=
  (hold_twin x)
noncomputable def slices_IndexFunc_Op (x : (List Op) × Op) : Option Int :=
  (iter (σ := ((List Op) × (Op × (Int × Int)))) (ρ := (Unit ⊕ Int)) (fun s =>
      bif (decide ((s.2.2.2 < s.2.2.1))) then (((getI s.1 s.2.2.2)).bind fun x1 =>
        bif (hold_May_1 (x1, s.2.1)) then some (.inr (.inr s.2.2.2)) else
        some (.inl (s.1, (s.2.1, (s.2.2.1, (IntKind.wrap .i64 (s.2.2.2 + 1))))))) else
      some (.inr (.inl ()))) (x.1, (x.2, (((List.length x.1) : Int), (0 : Int))))).bind fun x1 =>
  (match x1 with
  | .inl y => some ((-1) : Int)
  | .inr y => some y)
noncomputable def slices_ContainsFunc_Op (x : (List Op) × Op) : Option Bool :=
  ((slices_IndexFunc_Op x)).bind fun x1 =>
  some (decide ((0 ≤ x1)))
noncomputable def hold_May (x : (List Int) × List Op) : Option Bool :=
  (iter (σ := ((List Int) × ((List Op) × (Int × Op)))) (ρ := (Op ⊕ Bool)) (fun s =>
      bif (s.2.2.1 == ((List.length s.2.1) : Int)) then some (.inr (.inr (decide ((s.2.2.1 ≤ 16))))) else
      ((getI s.2.1 s.2.2.1)).bind fun x1 =>
      (((hold_fits (s.1, x1))).bind fun x2 =>
        bif (Bool.not x2) then some true else
        ((getI s.1 x1.1.2)).bind fun x3 =>
        bif (decide ((x1.2.1 ≤ x3))) then some true else
        ((hold_IsReady (s.1, x1))).bind fun x4 =>
        bif x4 then some true else
        bif (decide ((0 < s.2.2.1))) then (((getI s.2.1 (IntKind.wrap .i64 (s.2.2.1 - 1)))).bind fun x5 =>
          ((op_Less (x5, x1))).bind fun x6 =>
          some (Bool.not x6)) else
        some false).bind fun x2 =>
      bif x2 then some (.inr (.inl x1)) else
      bif ((decide ((0 ≤ s.2.2.1))) && (decide ((s.2.2.1 ≤ ((List.length s.2.1) : Int))))) then (((slices_ContainsFunc_Op ((List.take (Int.toNat s.2.2.1) s.2.1), x1))).bind fun x3 =>
        bif (Bool.not x3) then some (.inl (s.1, (s.2.1, ((IntKind.wrap .i64 (s.2.2.1 + 1)), x1)))) else
        some (.inr (.inr false))) else
      none) (x.1, (x.2, ((0 : Int), (((0 : Int), (0 : Int)), (0 : Int), [], (0 : Int), ((0 : Int), (0 : Int)), ((0 : Int), (0 : Int)), (ByteArray.mk ([]).toArray), (0 : Int), (0 : Int)))))).bind fun x1 =>
  (match x1 with
  | .inl y => some false
  | .inr y => some y)
noncomputable def replica_May (x : State) : Option Bool :=
  (((have_Is x.2.2.1)).bind fun x1 =>
    bif (Bool.not x1) then some true else
    bif (decide ((x.1 < 0))) then some true else
    bif (decide ((((List.length x.2.2.1) : Int) ≤ x.1))) then some true else
    bif (decide ((x.2.2.2.2.2.2.1 < 0))) then some true else
    bif (decide ((4 < x.2.2.2.2.2.2.1))) then some true else
    bif (decide ((x.2.2.2.2.2.2.2.1 < 0))) then some true else
    bif (decide ((((List.length x.2.2.1) : Int) ≤ x.2.2.2.2.2.2.2.1))) then some true else
    bif (decide ((x.2.2.2.2.2.2.2.2 < 0))) then some true else
    some (decide ((1099511627776 < x.2.2.2.2.2.2.2.2)))).bind fun x1 =>
  bif x1 then some false else
  ((replica_built (x.1, (((List.length x.2.2.1) : Int), x.2.2.2.1)))).bind fun x2 =>
  (bif x2.2 then (((slices_Equal_int (x2.1.2.2.1, x.2.2.1))).bind fun x3 =>
      bif x3 then (bif (x2.1.2.1 == x.2.1) then (((replica_sameShape (x2.1.2.2.2.2.2.1, x.2.2.2.2.2.1))).bind fun x4 =>
          bif x4 then (((hold_May (x.2.2.1, x.2.2.2.2.1))).bind fun x5 =>
            some x5) else
          some false) else
        some false) else
      some false) else
    some false).bind fun x3 =>
  some x3
end Go.Dv.B
