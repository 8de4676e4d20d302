/- The functions that the laws reach, each over lists, numbers and pairs: printed by a tool out of the told code (seat.py), joined to the code in the text Code. -/
import Derived.Test.YtlfkabehppdohaaGreatDvI
set_option linter.unusedVariables false
set_option linter.unusedSimpArgs false
set_option maxRecDepth 100000
open Go (IntKind)
namespace Go.Dv
abbrev sI : Sh := .int .i64
abbrev sStamp : Sh := (.pair sI sI)
abbrev Stamp : Type := Int × Int
abbrev sNode : Sh := (.pair sStamp (.pair sStamp .str))
abbrev Node : Type := Stamp × Stamp × ByteArray
abbrev sOp : Sh := (.pair sStamp (.pair sI (.pair (.list sI) (.pair sI (.pair sStamp (.pair sStamp (.pair .str sStamp)))))))
abbrev Op : Type := Stamp × Int × (List Int) × Int × Stamp × Stamp × ByteArray × Stamp
abbrev sEntry : Sh := (.pair sOp (.pair .bool (.pair sStamp (.pair .str .bool))))
abbrev Entry : Type := Op × Bool × Stamp × ByteArray × Bool
abbrev sTree : Sh := (.pair (.list sNode) (.list sEntry))
abbrev Tree : Type := (List Node) × List Entry
abbrev sReg : Sh := (.pair sI (.pair sI sStamp))
abbrev Reg : Type := Int × Int × Stamp
abbrev sLook : Sh := (.pair sStamp (.list sReg))
abbrev Look : Type := Stamp × List Reg
abbrev sShape : Sh := (.pair sTree (.list sLook))
abbrev Shape : Type := Tree × List Look
abbrev Script_arraslaw17 : Type := Shape × (List Op) × List Stamp
abbrev sStyle : Sh := (.uno (.list sI))
abbrev Style : Type := List Int
abbrev sBox : Sh := (.tree (.pair sStamp sStyle))
abbrev Box : Type := Rose (Stamp × Style)
abbrev srule_prop : Sh := (.pair sI (.pair sI (.pair sI .bool)))
abbrev rule_prop : Type := Int × Int × Int × Bool
noncomputable def cmp_Or_int (x : List Int) : Option Int :=
  (iter (σ := (Int × ((List Int) × (Int × Int)))) (ρ := (Int ⊕ Int)) (fun s =>
      bif (decide ((s.2.2.2 < s.2.2.1))) then (((getI s.2.1 s.2.2.2)).bind fun x1 =>
        bif (x1 != s.1) then some (.inr (.inr x1)) else
        some (.inl (s.1, (s.2.1, (s.2.2.1, (IntKind.wrap .i64 (s.2.2.2 + 1))))))) else
      some (.inr (.inl s.1))) ((0 : Int), (x, (((List.length x) : Int), (0 : Int))))).bind fun x1 =>
  (match x1 with
  | .inl y => some y
  | .inr y => some y)
noncomputable def cmp_isNaN_int (x : Int) : Bool :=
  (x != x)
noncomputable def cmp_Compare_int (x : Int × Int) : Int :=
  bif (cmp_isNaN_int x.1) then (bif (cmp_isNaN_int x.2) then (0 : Int) else
    ((-1) : Int)) else
  bif (cmp_isNaN_int x.2) then (1 : Int) else
  bif (decide ((x.1 < x.2))) then ((-1) : Int) else
  bif (decide ((x.2 < x.1))) then (1 : Int) else
  (0 : Int)
noncomputable def stamp_Cmp (x : Stamp × Stamp) : Option Int :=
  ((cmp_Or_int [(cmp_Compare_int (x.1.1, x.2.1)), (cmp_Compare_int (x.1.2, x.2.2))])).bind fun x1 =>
  some x1
noncomputable def strings_Compare (x : ByteArray × ByteArray) : Int :=
  (cmpStr x.1 x.2)
noncomputable def tree_Children_1 (x : Node × Node) : Option Int :=
  ((stamp_Cmp (x.1.1, x.2.1))).bind fun x1 =>
  ((cmp_Or_int [(strings_Compare (x.1.2.2, x.2.2.2)), x1])).bind fun x2 =>
  some x2
noncomputable def cf_slices_SortFunc_Node (x y : El sNode) : Int := (tree_Children_1 (x, y)).getD 0
noncomputable def slices_SortFunc_Node : List (El sNode) → Option (List (El sNode)) := sortF cf_slices_SortFunc_Node
noncomputable def tree_find_1 (x : Node × Stamp) : Option Int :=
  ((stamp_Cmp (x.1.1, x.2))).bind fun x1 =>
  some x1
noncomputable def slices_BinarySearchFunc_Node_Stamp (x : (List Node) × Stamp) : Option (Int × Bool) :=
  (iter (σ := ((List Node) × (Int × Reg))) (ρ := ((List Node) × Reg)) (fun s =>
      bif (decide ((s.2.2.1 < s.2.2.2.1))) then (bif (decide ((1 < 0))) then none else
        ((getI s.1 (IntKind.wrap .i64 (Int.fdiv (IntKind.wrap .u64 (IntKind.wrap .i64 (s.2.2.1 + s.2.2.2.1))) (2 ^ (Min.min (Int.toNat 1) (IntKind.bits .u64))))))).bind fun x1 =>
        ((tree_find_1 (x1, s.2.2.2.2))).bind fun x2 =>
        bif (decide ((x2 < 0))) then some (.inl (s.1, (s.2.1, ((IntKind.wrap .i64 ((IntKind.wrap .i64 (Int.fdiv (IntKind.wrap .u64 (IntKind.wrap .i64 (s.2.2.1 + s.2.2.2.1))) (2 ^ (Min.min (Int.toNat 1) (IntKind.bits .u64))))) + 1)), s.2.2.2)))) else
        some (.inl (s.1, (s.2.1, (s.2.2.1, ((IntKind.wrap .i64 (Int.fdiv (IntKind.wrap .u64 (IntKind.wrap .i64 (s.2.2.1 + s.2.2.2.1))) (2 ^ (Min.min (Int.toNat 1) (IntKind.bits .u64))))), s.2.2.2.2)))))) else
      some (.inr (s.1, (s.2.1, (s.2.2.1, s.2.2.2.2))))) (x.1, (((List.length x.1) : Int), ((0 : Int), (((List.length x.1) : Int), x.2))))).bind fun x1 =>
  (bif (decide ((x1.2.2.1 < x1.2.1))) then (((getI x1.1 x1.2.2.1)).bind fun x2 =>
      ((tree_find_1 (x2, x1.2.2.2))).bind fun x3 =>
      some (x1.2.2.1, (x3 == 0))) else
    some (x1.2.2.1, false)).bind fun x2 =>
  some x2
noncomputable def tree_find (x : (List Node) × Stamp) : Option (Int × Bool) :=
  ((slices_BinarySearchFunc_Node_Stamp x)).bind fun x1 =>
  some x1
noncomputable def shape_find_1 (x : Look × Stamp) : Option Int :=
  ((stamp_Cmp (x.1.1, x.2))).bind fun x1 =>
  some x1
noncomputable def slices_BinarySearchFunc_Look_Stamp (x : (List Look) × Stamp) : Option (Int × Bool) :=
  (iter (σ := ((List Look) × (Int × Reg))) (ρ := ((List Look) × Reg)) (fun s =>
      bif (decide ((s.2.2.1 < s.2.2.2.1))) then (bif (decide ((1 < 0))) then none else
        ((getI s.1 (IntKind.wrap .i64 (Int.fdiv (IntKind.wrap .u64 (IntKind.wrap .i64 (s.2.2.1 + s.2.2.2.1))) (2 ^ (Min.min (Int.toNat 1) (IntKind.bits .u64))))))).bind fun x1 =>
        ((shape_find_1 (x1, s.2.2.2.2))).bind fun x2 =>
        bif (decide ((x2 < 0))) then some (.inl (s.1, (s.2.1, ((IntKind.wrap .i64 ((IntKind.wrap .i64 (Int.fdiv (IntKind.wrap .u64 (IntKind.wrap .i64 (s.2.2.1 + s.2.2.2.1))) (2 ^ (Min.min (Int.toNat 1) (IntKind.bits .u64))))) + 1)), s.2.2.2)))) else
        some (.inl (s.1, (s.2.1, (s.2.2.1, ((IntKind.wrap .i64 (Int.fdiv (IntKind.wrap .u64 (IntKind.wrap .i64 (s.2.2.1 + s.2.2.2.1))) (2 ^ (Min.min (Int.toNat 1) (IntKind.bits .u64))))), s.2.2.2.2)))))) else
      some (.inr (s.1, (s.2.1, (s.2.2.1, s.2.2.2.2))))) (x.1, (((List.length x.1) : Int), ((0 : Int), (((List.length x.1) : Int), x.2))))).bind fun x1 =>
  (bif (decide ((x1.2.2.1 < x1.2.1))) then (((getI x1.1 x1.2.2.1)).bind fun x2 =>
      ((shape_find_1 (x2, x1.2.2.2))).bind fun x3 =>
      some (x1.2.2.1, (x3 == 0))) else
    some (x1.2.2.1, false)).bind fun x2 =>
  some x2
noncomputable def shape_find (x : (List Look) × Stamp) : Option (Int × Bool) :=
  ((slices_BinarySearchFunc_Look_Stamp x)).bind fun x1 =>
  some x1
noncomputable def arrasref8_value (x : Int) : Option (Int × Int × Int × Bool) :=
  bif (x == 0) then some ((0 : Int), ((2 : Int), ((0 : Int), true))) else
  (bif (x == 1) then some (x, true) else
    some (x, (x == 2))).bind fun x1 =>
  bif x1.2 then some ((0 : Int), ((1 : Int), ((0 : Int), true))) else
  (bif (x1.1 == 3) then some (x1.1, true) else
    (bif (x1.1 == 4) then some (x1.1, true) else
      (bif (x1.1 == 6) then some (x1.1, true) else
        (bif (x1.1 == 8) then some (x1.1, true) else
          some (x1.1, (x1.1 == 11))).bind fun x2 =>
        some x2).bind fun x2 =>
      some x2).bind fun x2 =>
    some x2).bind fun x2 =>
  bif x2.2 then some (((-1) : Int), ((1099511627776 : Int), (((-1) : Int), true))) else
  (bif (x2.1 == 5) then some (x2.1, true) else
    some (x2.1, (x2.1 == 7))).bind fun x3 =>
  bif x3.2 then some ((0 : Int), ((1099511627776 : Int), ((0 : Int), true))) else
  bif (x3.1 == 9) then some ((0 : Int), ((1048576 : Int), ((0 : Int), true))) else
  bif (x3.1 == 10) then some ((0 : Int), ((1048576 : Int), ((1 : Int), true))) else
  (bif (x3.1 == 12) then some (x3.1, true) else
    (bif (x3.1 == 13) then some (x3.1, true) else
      some (x3.1, (x3.1 == 14))).bind fun x4 =>
    some x4).bind fun x4 =>
  bif x4.2 then some ((0 : Int), ((1073741824 : Int), ((0 : Int), true))) else
  bif (x4.1 == 15) then some ((0 : Int), ((4 : Int), ((0 : Int), true))) else
  bif (x4.1 == 16) then some ((0 : Int), ((3 : Int), ((0 : Int), true))) else
  bif (x4.1 == 17) then some ((0 : Int), ((16777215 : Int), ((0 : Int), true))) else
  bif (x4.1 == 18) then some ((64 : Int), ((64000 : Int), ((1024 : Int), true))) else
  some ((0 : Int), ((0 : Int), ((0 : Int), false)))
noncomputable def arrasref8_Check (x : Int × Int) : Option Int :=
  ((arrasref8_value x.1)).bind fun x1 =>
  bif (Bool.not x1.2.2.2) then some (3 : Int) else
  bif (bif (decide ((x.2 < x1.1))) then true else (decide ((x1.2.1 < x.2)))) then some (9 : Int) else
  some (0 : Int)
noncomputable def arrasref6_Cmp (x : Stamp × Stamp) : Int :=
  bif (bif (decide ((x.1.1 < x.2.1))) then true else (bif (x.1.1 == x.2.1) then (decide ((x.1.2 < x.2.2))) else false)) then ((-1) : Int) else
  bif (Bool.not ((x.1.1 == x.2.1) && (x.1.2 == x.2.2))) then (1 : Int) else
  (0 : Int)
noncomputable def arrasref16_Moves (x : Tree) : Option (List Op) :=
  (iter (σ := ((List Op) × (Int × Tree))) (ρ := ((List Op) × Tree)) (fun s =>
      bif (decide ((s.2.1 < ((List.length s.2.2.2) : Int)))) then (((getI s.2.2.2 s.2.1)).bind fun x1 =>
        bif (room (List.length (s.1 ++ [x1.1])) 120) then some (.inl ((s.1 ++ [x1.1]), ((IntKind.wrap .i64 (s.2.1 + 1)), s.2.2))) else
        none) else
      some (.inr (s.1, s.2.2))) ([], ((0 : Int), x))).bind fun x1 =>
  some x1.1
noncomputable def arrasref16_Find (x : (List Node) × Stamp) : Option Int :=
  (iter (σ := ((List Node) × (Int × (Int × Int)))) (ρ := ((Int × Int) ⊕ Int)) (fun s =>
      bif (decide ((s.2.1 < ((List.length s.1) : Int)))) then (((getI s.1 s.2.1)).bind fun x1 =>
        bif ((x1.1.1 == s.2.2.1) && (x1.1.2 == s.2.2.2)) then some (.inr (.inr s.2.1)) else
        some (.inl (s.1, ((IntKind.wrap .i64 (s.2.1 + 1)), s.2.2)))) else
      some (.inr (.inl s.2.2))) (x.1, ((0 : Int), x.2))).bind fun x1 =>
  (match x1 with
  | .inl y => some ((-1) : Int)
  | .inr y => some y)
noncomputable def arrasref16_over (x : (List Node) × Stamp × Stamp) : Option Bool :=
  (iter (σ := ((List Node) × (Int × ((Int × Int) × (Int × Int))))) (ρ := (((Int × Int) × (Int × Int)) ⊕ Bool)) (fun s =>
      bif (decide ((s.2.1 ≤ ((List.length s.1) : Int)))) then (bif ((s.2.2.2.1 == s.2.2.1.1) && (s.2.2.2.2 == s.2.2.1.2)) then some (.inr (.inr true)) else
        ((arrasref16_Find (s.1, s.2.2.2))).bind fun x1 =>
        bif (decide ((x1 < 0))) then some (.inr (.inr false)) else
        ((getI s.1 x1)).bind fun x2 =>
        some (.inl (s.1, ((IntKind.wrap .i64 (s.2.1 + 1)), (s.2.2.1, x2.2.1))))) else
      some (.inr (.inl s.2.2))) (x.1, ((0 : Int), x.2))).bind fun x1 =>
  (match x1 with
  | .inl y => some true
  | .inr y => some y)
noncomputable def arrasref0_CopyNodes (x : List Node) : Option (List Node) :=
  (iter (σ := ((List Node) × ((List Node) × Int))) (ρ := (List Node)) (fun s =>
      bif (decide ((s.2.2 < ((List.length s.1) : Int)))) then (((getI s.1 s.2.2)).bind fun x1 =>
        bif (room (List.length (s.2.1 ++ [x1])) 48) then some (.inl (s.1, ((s.2.1 ++ [x1]), (IntKind.wrap .i64 (s.2.2 + 1))))) else
        none) else
      some (.inr s.2.1)) (x, ([], (0 : Int)))).bind fun x1 =>
  some x1
noncomputable def arrasref0_CopyNumbers (x : List Int) : Option (List Int) :=
  (iter (σ := ((List Int) × ((List Int) × Int))) (ρ := (List Int)) (fun s =>
      bif (decide ((s.2.2 < ((List.length s.1) : Int)))) then (((getI s.1 s.2.2)).bind fun x1 =>
        bif (room (List.length (s.2.1 ++ [x1])) 8) then some (.inl (s.1, ((s.2.1 ++ [x1]), (IntKind.wrap .i64 (s.2.2 + 1))))) else
        none) else
      some (.inr s.2.1)) (x, ([], (0 : Int)))).bind fun x1 =>
  some x1
noncomputable def arrasref0_CopyOp (x : Op) : Option Op :=
  ((arrasref0_CopyNumbers x.2.2.1)).bind fun x1 =>
  some (x.1, x.2.1, x1, x.2.2.2)
noncomputable def arrasref16_done (x : (List Node) × Op) : Option ((List Node) × Entry) :=
  ((arrasref0_CopyOp x.2)).bind fun x1 =>
  ((arrasref16_Find (x.1, x.2.2.2.2.2.1))).bind fun x2 =>
  (bif (decide ((0 ≤ x2))) then (((getI x.1 x2)).bind fun x3 =>
      ((getI x.1 x2)).bind fun x4 =>
      ((getI x.1 x2)).bind fun x5 =>
      ((getI x.1 x2)).bind fun x6 =>
      some (x.1, (x2, (x.2, (((((0 : Int), (0 : Int)), (0 : Int), [], (0 : Int), ((0 : Int), (0 : Int)), ((0 : Int), (0 : Int)), (ByteArray.mk ([]).toArray), (0 : Int), (0 : Int)), false, ((0 : Int), (0 : Int)), (ByteArray.mk ([]).toArray), false), (x1, true, x4.2.1, x6.2.2, false)))))) else
    some (x.1, (x2, (x.2, (((((0 : Int), (0 : Int)), (0 : Int), [], (0 : Int), ((0 : Int), (0 : Int)), ((0 : Int), (0 : Int)), (ByteArray.mk ([]).toArray), (0 : Int), (0 : Int)), false, ((0 : Int), (0 : Int)), (ByteArray.mk ([]).toArray), false), (x1, false, ((0 : Int), (0 : Int)), (ByteArray.mk ([]).toArray), false))))) : Option ((List Node) × (Int × (Op × (Entry × Entry))))).bind fun x3 =>
  ((arrasref16_over (x3.1, (x3.2.2.1.2.2.2.2.1, x3.2.2.1.2.2.2.2.2.1)))).bind fun x4 =>
  bif x4 then some (x3.1, (x3.2.2.2.2.1, x3.2.2.2.2.2.1, x3.2.2.2.2.2.2.1, x3.2.2.2.2.2.2.2.1, true)) else
  bif (decide ((0 ≤ x3.2.1))) then (((arrasref0_CopyNodes x3.1)).bind fun x5 =>
    ((getI x5 x3.2.1)).bind fun x6 =>
    ((getI x5 x3.2.1)).bind fun x7 =>
    some ((List.set x5 (Int.toNat x3.2.1) (x3.2.2.1.2.2.2.2.1, x3.2.2.1.2.2.2.2.2.1, x3.2.2.1.2.2.2.2.2.2.1)), x3.2.2.2.2)) else
  (iter (σ := ((List Node) × ((List Node) × (Bool × (Int × (Op × (Entry × (Entry × Node)))))))) (ρ := ((List Node) × (Bool × (Op × (Entry × (Entry × Node)))))) (fun s =>
      bif (decide ((s.2.2.2.1 < ((List.length s.1) : Int)))) then ((bif (Bool.not s.2.2.1) then (((getI s.1 s.2.2.2.1)).bind fun x5 =>
            ((getI s.1 s.2.2.2.1)).bind fun x6 =>
            some (decide ((0 < (arrasref6_Cmp (x6.1, s.2.2.2.2.1.2.2.2.2.1)))))) else
          some false).bind fun x5 =>
        bif x5 then (bif (room (List.length (s.2.1 ++ [s.2.2.2.2.2.2.2])) 48) then (((getI s.1 s.2.2.2.1)).bind fun x6 =>
            ((getI s.1 s.2.2.2.1)).bind fun x7 =>
            bif (room (List.length ((s.2.1 ++ [s.2.2.2.2.2.2.2]) ++ [x7])) 48) then some (.inl (s.1, (((s.2.1 ++ [s.2.2.2.2.2.2.2]) ++ [x7]), (true, ((IntKind.wrap .i64 (s.2.2.2.1 + 1)), s.2.2.2.2))))) else
            none) else
          none) else
        ((getI s.1 s.2.2.2.1)).bind fun x6 =>
        ((getI s.1 s.2.2.2.1)).bind fun x7 =>
        bif (room (List.length (s.2.1 ++ [x7])) 48) then some (.inl (s.1, ((s.2.1 ++ [x7]), (s.2.2.1, ((IntKind.wrap .i64 (s.2.2.2.1 + 1)), s.2.2.2.2))))) else
        none) else
      some (.inr (s.2.1, (s.2.2.1, s.2.2.2.2)))) (x3.1, ([], (false, ((0 : Int), (x3.2.2.1, (x3.2.2.2.1, (x3.2.2.2.2, (x3.2.2.1.2.2.2.2.1, x3.2.2.1.2.2.2.2.2.1, x3.2.2.1.2.2.2.2.2.2.1))))))))).bind fun x5 =>
  bif (Bool.not x5.2.1) then (bif (room (List.length (x5.1 ++ [x5.2.2.2.2.2])) 48) then some ((x5.1 ++ [x5.2.2.2.2.2]), x5.2.2.2.2.1) else
    none) else
  some (x5.1, x5.2.2.2.2.1)
noncomputable def arrasref16_Made (x : List Op) : Option ((List Node) × List Entry) :=
  (iter (σ := ((List Op) × (Int × Tree))) (ρ := Tree) (fun s =>
      bif (decide ((s.2.1 < ((List.length s.1) : Int)))) then (((getI s.1 s.2.1)).bind fun x1 =>
        ((getI s.1 s.2.1)).bind fun x2 =>
        ((arrasref16_done (s.2.2.1, x2))).bind fun x3 =>
        bif (room (List.length (s.2.2.2 ++ [x3.2])) 168) then some (.inl (s.1, ((IntKind.wrap .i64 (s.2.1 + 1)), (x3.1, (s.2.2.2 ++ [x3.2]))))) else
        none) else
      some (.inr s.2.2)) (x, ((0 : Int), ([], [])))).bind fun x1 =>
  some x1
noncomputable def stamp_Is (x : Stamp) : Bool :=
  (bif (decide ((1 ≤ x.1))) then (bif (decide ((x.1 ≤ 1099511627776))) then (bif (decide ((0 ≤ x.2))) then (decide ((x.2 < 16))) else false) else false) else false)
noncomputable def have_Is (x : List Int) : Option Bool :=
  (iter (σ := ((List Int) × Int)) (ρ := Bool) (fun s =>
      bif (s.2 == ((List.length s.1) : Int)) then some (.inr (bif (decide ((1 ≤ s.2))) then (decide ((s.2 ≤ 16))) else false)) else
      (((getI s.1 s.2)).bind fun x1 =>
        bif (decide ((0 ≤ x1))) then (((getI s.1 s.2)).bind fun x2 =>
          some (decide ((x2 ≤ 1099511627776)))) else
        some false).bind fun x1 =>
      bif x1 then some (.inl (s.1, (IntKind.wrap .i64 (s.2 + 1)))) else
      some (.inr false)) (x, (0 : Int))).bind fun x1 =>
  some x1
noncomputable def stamp_Root (x : Unit) : Stamp :=
  ((0 : Int), (0 : Int))
noncomputable def key_Is (x : ByteArray) : Option Bool :=
  (bif (decide ((1 ≤ ((ByteArray.size x) : Int)))) then (bif (decide ((((ByteArray.size x) : Int) ≤ 64))) then (((getB x (IntKind.wrap .i64 (((ByteArray.size x) : Int) - 1)))).bind fun x1 =>
        some (x1 != 0)) else
      some false) else
    some false).bind fun x1 =>
  some x1
noncomputable def stamp_Trash (x : Unit) : Stamp :=
  ((0 : Int), (1 : Int))
noncomputable def stamp_Place (x : Stamp) : Bool :=
  (bif (stamp_Is x) then true else (bif ((x.1 == (stamp_Root ()).1) && (x.2 == (stamp_Root ()).2)) then true else ((x.1 == (stamp_Trash ()).1) && (x.2 == (stamp_Trash ()).2))))
noncomputable def prop_ruleOf (x : Int) : Option rule_prop :=
  bif (x == 0) then some ((0 : Int), (2 : Int), (0 : Int), false) else
  (bif (x == 1) then some (x, (true, ((0 : Int), (0 : Int), (0 : Int), false))) else
    some (x, ((x == 2), ((0 : Int), (0 : Int), (0 : Int), false)))).bind fun x1 =>
  bif x1.2.1 then some ((0 : Int), (1 : Int), (0 : Int), false) else
  (bif (x1.1 == 3) then some (x1.1, (true, x1.2.2)) else
    (bif (x1.1 == 4) then some (x1.1, (true, x1.2.2)) else
      (bif (x1.1 == 6) then some (x1.1, (true, x1.2.2)) else
        (bif (x1.1 == 8) then some (x1.1, (true, x1.2.2)) else
          some (x1.1, ((x1.1 == 11), x1.2.2))).bind fun x2 =>
        some x2).bind fun x2 =>
      some x2).bind fun x2 =>
    some x2).bind fun x2 =>
  bif x2.2.1 then some (((-1) : Int), (1099511627776 : Int), ((-1) : Int), false) else
  (bif (x2.1 == 5) then some (x2.1, (true, x2.2.2)) else
    some (x2.1, ((x2.1 == 7), x2.2.2))).bind fun x3 =>
  bif x3.2.1 then some ((0 : Int), (1099511627776 : Int), (0 : Int), false) else
  bif (x3.1 == 9) then some ((0 : Int), (1048576 : Int), (0 : Int), false) else
  bif (x3.1 == 10) then some ((0 : Int), (1048576 : Int), (1 : Int), false) else
  bif (x3.1 == 15) then some ((0 : Int), (4 : Int), (0 : Int), false) else
  bif (x3.1 == 16) then some ((0 : Int), (3 : Int), (0 : Int), false) else
  bif (x3.1 == 17) then some ((0 : Int), (16777215 : Int), (0 : Int), true) else
  bif (x3.1 == 18) then some ((64 : Int), (64000 : Int), (1024 : Int), true) else
  some ((0 : Int), (1073741824 : Int), (0 : Int), false)
noncomputable def prop_Is (x : Int) : Bool :=
  (bif (decide ((0 ≤ x))) then (decide ((x < 19))) else false)
noncomputable def prop_May (x : Int × Int) : Option Bool :=
  (bif (prop_Is x.1) then (((prop_ruleOf x.1)).bind fun x1 =>
      bif (decide ((x1.1 ≤ x.2))) then (((prop_ruleOf x.1)).bind fun x2 =>
        some (decide ((x.2 ≤ x2.2.1)))) else
      some false) else
    some false).bind fun x1 =>
  some x1
noncomputable def op_kind (x : Op) : Option Bool :=
  bif (x.2.2.2.1 == 1) then ((bif (stamp_Place x.2.2.2.2.2.1) then (((key_Is x.2.2.2.2.2.2.1)).bind fun x1 =>
        bif x1 then (bif (x.2.2.2.2.2.2.2.1 == 0) then some (x.2.2.2.2.2.2.2.2 == 0) else
          some false) else
        some false) else
      some false).bind fun x1 =>
    some x1) else
  bif (x.2.2.2.1 == 2) then ((((prop_May x.2.2.2.2.2.2.2)).bind fun x1 =>
      bif x1 then (bif ((x.2.2.2.2.2.1.1 == (stamp_Root ()).1) && (x.2.2.2.2.2.1.2 == (stamp_Root ()).2)) then some ((ByteArray.toList x.2.2.2.2.2.2.1) == (ByteArray.toList (ByteArray.mk ([]).toArray))) else
        some false) else
      some false : Option Bool).bind fun x1 =>
    some x1) else
  some false
noncomputable def op_May (x : Op) : Option Bool :=
  (bif (Bool.not (stamp_Is x.1)) then some true else
    ((have_Is x.2.2.1)).bind fun x1 =>
    bif (Bool.not x1) then some true else
    bif (decide ((((List.length x.2.2.1) : Int) ≤ x.1.2))) then some true else
    some (Bool.not (stamp_Is x.2.2.2.2.1))).bind fun x1 =>
  bif x1 then some false else
  (((getI x.2.2.1 x.1.2)).bind fun x2 =>
    bif (x.2.1 == (IntKind.wrap .i64 (x2 + 1))) then (bif (decide ((x.2.1 ≤ 1099511627776))) then (((op_kind x)).bind fun x3 =>
        some x3) else
      some false) else
    some false).bind fun x2 =>
  some x2
noncomputable def tree_move (x : Op) : Option Bool :=
  (((op_May x)).bind fun x1 =>
    bif x1 then some (x.2.2.2.1 == 1) else
    some false).bind fun x1 =>
  some x1
noncomputable def op_Less (x : Op × Op) : Option Bool :=
  ((stamp_Cmp (x.1.1, x.2.1))).bind fun x1 =>
  some (decide ((x1 < 0)))
noncomputable def slices_Equal_int (x : (List Int) × List Int) : Option Bool :=
  bif (((List.length x.1) : Int) != ((List.length x.2) : Int)) then some false else
  (iter (σ := ((List Int) × ((List Int) × (Int × Int)))) (ρ := (Unit ⊕ Bool)) (fun s =>
      bif (decide ((s.2.2.2 < s.2.2.1))) then (((getI s.1 s.2.2.2)).bind fun x1 =>
        ((getI s.2.1 s.2.2.2)).bind fun x2 =>
        bif (x1 != x2) then some (.inr (.inr false)) else
        some (.inl (s.1, (s.2.1, (s.2.2.1, (IntKind.wrap .i64 (s.2.2.2 + 1))))))) else
      some (.inr (.inl ()))) (x.1, (x.2, (((List.length x.1) : Int), (0 : Int))))).bind fun x1 =>
  (match x1 with
  | .inl y => some true
  | .inr y => some y)
noncomputable def op_Same (x : Op × Op) : Option Bool :=
  (bif ((x.1.1.1 == x.2.1.1) && (x.1.1.2 == x.2.1.2)) then (bif (x.1.2.1 == x.2.2.1) then (((slices_Equal_int (x.1.2.2.1, x.2.2.2.1))).bind fun x1 =>
        bif x1 then (bif (x.1.2.2.2.1 == x.2.2.2.2.1) then (bif ((x.1.2.2.2.2.1.1 == x.2.2.2.2.2.1.1) && (x.1.2.2.2.2.1.2 == x.2.2.2.2.2.1.2)) then (bif ((x.1.2.2.2.2.2.1.1 == x.2.2.2.2.2.2.1.1) && (x.1.2.2.2.2.2.1.2 == x.2.2.2.2.2.2.1.2)) then (bif ((ByteArray.toList x.1.2.2.2.2.2.2.1) == (ByteArray.toList x.2.2.2.2.2.2.2.1)) then (bif (x.1.2.2.2.2.2.2.2.1 == x.2.2.2.2.2.2.2.2.1) then some (x.1.2.2.2.2.2.2.2.2 == x.2.2.2.2.2.2.2.2.2) else
                  some false) else
                some false) else
              some false) else
            some false) else
          some false) else
        some false) else
      some false) else
    some false).bind fun x1 =>
  some x1
noncomputable def tree_same (x : Entry × Entry) : Option Bool :=
  (((op_Same (x.1.1, x.2.1))).bind fun x1 =>
    bif x1 then (bif (x.1.2.1 == x.2.2.1) then (bif ((x.1.2.2.1.1 == x.2.2.2.1.1) && (x.1.2.2.1.2 == x.2.2.2.1.2)) then (bif ((ByteArray.toList x.1.2.2.2.1) == (ByteArray.toList x.2.2.2.2.1)) then some (x.1.2.2.2.2 == x.2.2.2.2.2) else
          some false) else
        some false) else
      some false) else
    some false).bind fun x1 =>
  some x1
noncomputable def op_Own (x : Op) : Option Op :=
  bif (room (List.length x.2.2.1) 8) then some x else
  none
noncomputable def tree_work_circle (x : (List Node) × Stamp × Stamp) : Option Bool :=
  (iter (σ := ((List Node) × ((Int × Int) × (Int × Int)))) (ρ := Bool) (fun s =>
      bif ((s.2.2.1 == s.2.1.1) && (s.2.2.2 == s.2.1.2)) then some (.inr true) else
      ((tree_find (s.1, s.2.2))).bind fun x1 =>
      bif x1.2 then (((getI s.1 x1.1)).bind fun x2 =>
        some (.inl (s.1, (s.2.1, x2.2.1)))) else
      some (.inr false)) x).bind fun x1 =>
  some x1
noncomputable def tree_work_do (x : Op × List Node) : Option (Entry × List Node) :=
  ((op_Own x.1)).bind fun x1 =>
  ((tree_work_circle (x.2, (x.1.2.2.2.2.1, x.1.2.2.2.2.2.1)))).bind fun x2 =>
  ((tree_find (x.2, x.1.2.2.2.2.1))).bind fun x3 =>
  (bif x3.2 then (((getI x.2 x3.1)).bind fun x4 =>
      ((getI x.2 x3.1)).bind fun x5 =>
      ((getI x.2 x3.1)).bind fun x6 =>
      ((getI x.2 x3.1)).bind fun x7 =>
      some (x3.1, (x3.2, (x.2, (x.1, (((((0 : Int), (0 : Int)), (0 : Int), [], (0 : Int), ((0 : Int), (0 : Int)), ((0 : Int), (0 : Int)), (ByteArray.mk ([]).toArray), (0 : Int), (0 : Int)), false, ((0 : Int), (0 : Int)), (ByteArray.mk ([]).toArray), false), (x1, true, x5.2.1, x7.2.2, x2))))))) else
    some (x3.1, (x3.2, (x.2, (x.1, (((((0 : Int), (0 : Int)), (0 : Int), [], (0 : Int), ((0 : Int), (0 : Int)), ((0 : Int), (0 : Int)), (ByteArray.mk ([]).toArray), (0 : Int), (0 : Int)), false, ((0 : Int), (0 : Int)), (ByteArray.mk ([]).toArray), false), (x1, false, ((0 : Int), (0 : Int)), (ByteArray.mk ([]).toArray), x2)))))) : Option (Int × (Bool × ((List Node) × (Op × (Entry × Entry)))))).bind fun x4 =>
  bif x4.2.2.2.2.2.2.2.2.2 then some (x4.2.2.2.2.2, x4.2.2.1) else
  bif x4.2.1 then (((getI x4.2.2.1 x4.1)).bind fun x5 =>
    ((getI x4.2.2.1 x4.1)).bind fun x6 =>
    some (x4.2.2.2.2.2, (List.set x4.2.2.1 (Int.toNat x4.1) (x4.2.2.2.1.2.2.2.2.1, x4.2.2.2.1.2.2.2.2.2.1, x4.2.2.2.1.2.2.2.2.2.2.1)))) else
  bif (((decide ((0 ≤ x4.1))) && (decide ((x4.1 ≤ ((List.length x4.2.2.1) : Int))))) && (room ((List.length x4.2.2.1) + 1) 48)) then some (x4.2.2.2.2.2, ((List.take (Int.toNat x4.1) x4.2.2.1) ++ ((x4.2.2.2.1.2.2.2.2.1, x4.2.2.2.1.2.2.2.2.2.1, x4.2.2.2.1.2.2.2.2.2.2.1) :: (List.drop (Int.toNat x4.1) x4.2.2.1)))) else
  none
noncomputable def slices_Equal_Node (x : (List Node) × List Node) : Option Bool :=
  bif (((List.length x.1) : Int) != ((List.length x.2) : Int)) then some false else
  (iter (σ := ((List Node) × ((List Node) × (Int × Int)))) (ρ := (Unit ⊕ Bool)) (fun s =>
      bif (decide ((s.2.2.2 < s.2.2.1))) then (((getI s.1 s.2.2.2)).bind fun x1 =>
        ((getI s.2.1 s.2.2.2)).bind fun x2 =>
        bif (Bool.not ((x1.1.1 == x2.1.1) && ((x1.1.2 == x2.1.2) && ((x1.2.1.1 == x2.2.1.1) && ((x1.2.1.2 == x2.2.1.2) && (x1.2.2 == x2.2.2)))))) then some (.inr (.inr false)) else
        some (.inl (s.1, (s.2.1, (s.2.2.1, (IntKind.wrap .i64 (s.2.2.2 + 1))))))) else
      some (.inr (.inl ()))) (x.1, (x.2, (((List.length x.1) : Int), (0 : Int))))).bind fun x1 =>
  (match x1 with
  | .inl y => some true
  | .inr y => some y)
noncomputable def tree_May (x : Tree) : Option Bool :=
  (iter (σ := ((List Entry) × (Int × (Int × (Tree × (List Node)))))) (ρ := ((Tree × (List Node)) ⊕ Bool)) (fun s =>
      bif (decide ((s.2.2.1 < s.2.1))) then (((getI s.1 s.2.2.1)).bind fun x1 =>
        ((tree_move x1.1)).bind fun x2 =>
        bif (Bool.not x2) then some (.inr (.inr false)) else
        bif (decide ((0 < s.2.2.1))) then (((getI s.2.2.2.1.2 (IntKind.wrap .i64 (s.2.2.1 - 1)))).bind fun x3 =>
          ((op_Less (x3.1, x1.1))).bind fun x4 =>
          bif (Bool.not x4) then some (.inr (.inr false)) else
          ((tree_work_do (x1.1, s.2.2.2.2))).bind fun x5 =>
          ((tree_same (x5.1, x1))).bind fun x6 =>
          bif (Bool.not x6) then some (.inr (.inr false)) else
          some (.inl (s.1, (s.2.1, ((IntKind.wrap .i64 (s.2.2.1 + 1)), (s.2.2.2.1, x5.2)))))) else
        ((tree_work_do (x1.1, s.2.2.2.2))).bind fun x3 =>
        ((tree_same (x3.1, x1))).bind fun x4 =>
        bif (Bool.not x4) then some (.inr (.inr false)) else
        some (.inl (s.1, (s.2.1, ((IntKind.wrap .i64 (s.2.2.1 + 1)), (s.2.2.2.1, x3.2)))))) else
      some (.inr (.inl s.2.2.2))) (x.2, (((List.length x.2) : Int), ((0 : Int), (x, []))))).bind fun x1 =>
  (match x1 with
  | .inl y => ((slices_Equal_Node (y.2, y.1.1))).bind fun x2 =>
    some x2
  | .inr y => some y)
noncomputable def reg_May (x : List Reg) : Option Bool :=
  (iter (σ := ((List Reg) × Int)) (ρ := Bool) (fun s =>
      bif (s.2 == ((List.length s.1) : Int)) then some (.inr true) else
      (((getI s.1 s.2)).bind fun x1 =>
        ((getI s.1 s.2)).bind fun x2 =>
        ((prop_May (x1.1, x2.2.1))).bind fun x3 =>
        bif x3 then (((getI s.1 s.2)).bind fun x4 =>
          bif (stamp_Is x4.2.2) then (bif (s.2 == 0) then some true else
            ((getI s.1 (IntKind.wrap .i64 (s.2 - 1)))).bind fun x5 =>
            ((getI s.1 s.2)).bind fun x6 =>
            some (decide ((x5.1 < x6.1)))) else
          some false) else
        some false).bind fun x1 =>
      bif x1 then some (.inl (s.1, (IntKind.wrap .i64 (s.2 + 1)))) else
      some (.inr false)) (x, (0 : Int))).bind fun x1 =>
  some x1
noncomputable def shape_looks (x : List Look) : Option Bool :=
  (iter (σ := ((List Look) × Int)) (ρ := Bool) (fun s =>
      bif (s.2 == ((List.length s.1) : Int)) then some (.inr true) else
      (((getI s.1 s.2)).bind fun x1 =>
        bif (stamp_Is x1.1) then (((getI s.1 s.2)).bind fun x2 =>
          bif (decide ((0 < ((List.length x2.2) : Int)))) then (((getI s.1 s.2)).bind fun x3 =>
            ((reg_May x3.2)).bind fun x4 =>
            bif x4 then (bif (s.2 == 0) then some true else
              ((getI s.1 (IntKind.wrap .i64 (s.2 - 1)))).bind fun x5 =>
              ((getI s.1 s.2)).bind fun x6 =>
              ((stamp_Cmp (x5.1, x6.1))).bind fun x7 =>
              some (decide ((x7 < 0)))) else
            some false) else
          some false) else
        some false).bind fun x1 =>
      bif x1 then some (.inl (s.1, (IntKind.wrap .i64 (s.2 + 1)))) else
      some (.inr false)) (x, (0 : Int))).bind fun x1 =>
  some x1
noncomputable def shape_IsShape (x : Shape) : Option Bool :=
  (((tree_May x.1)).bind fun x1 =>
    bif x1 then (((shape_looks x.2)).bind fun x2 =>
      some x2) else
    some false).bind fun x1 =>
  some x1
noncomputable def tree_Children (x : Tree × Stamp) : Option (List Node) :=
  (iter (σ := ((List Node) × ((List Node) × (Int × (Int × (Tree × (Int × Int))))))) (ρ := ((List Node) × (Tree × (Int × Int)))) (fun s =>
      bif (decide ((s.2.2.2.1 < s.2.2.1))) then (((getI s.2.1 s.2.2.2.1)).bind fun x1 =>
        bif ((x1.2.1.1 == s.2.2.2.2.2.1) && (x1.2.1.2 == s.2.2.2.2.2.2)) then (bif (room (List.length (s.1 ++ [x1])) 48) then some (.inl ((s.1 ++ [x1]), (s.2.1, (s.2.2.1, ((IntKind.wrap .i64 (s.2.2.2.1 + 1)), s.2.2.2.2))))) else
          none) else
        some (.inl (s.1, (s.2.1, (s.2.2.1, ((IntKind.wrap .i64 (s.2.2.2.1 + 1)), s.2.2.2.2)))))) else
      some (.inr (s.1, s.2.2.2.2))) ([], (x.1.1, (((List.length x.1.1) : Int), ((0 : Int), x))))).bind fun x1 =>
  ((slices_SortFunc_Node x1.1)).bind fun x2 =>
  some x2
noncomputable def shape_Regs (x : Shape × Stamp) : Option (List Reg) :=
  ((shape_find (x.1.2, x.2))).bind fun x1 =>
  bif (Bool.not x1.2) then some [] else
  ((getI x.1.2 x1.1)).bind fun x2 =>
  some x2.2
noncomputable def prop_Plain (x : Unit) : Option (List Int) :=
  (iter (σ := (Int × (List Int))) (ρ := (List Int)) (fun s =>
      bif (decide ((s.1 < 19))) then (((prop_ruleOf s.1)).bind fun x1 =>
        bif (room (List.length (s.2 ++ [x1.2.2.1])) 8) then some (.inl ((IntKind.wrap .i64 (s.1 + 1)), (s.2 ++ [x1.2.2.1]))) else
        none) else
      some (.inr s.2)) ((0 : Int), [])).bind fun x1 =>
  some x1
noncomputable def prop_Below (x : Style) : Option (List Int) :=
  ((prop_Plain ())).bind fun x1 =>
  (iter (σ := (Int × (Int × ((List Int) × (List Int))))) (ρ := ((List Int) × (List Int))) (fun s =>
      bif (decide ((s.2.1 < s.1))) then (((prop_ruleOf s.2.1)).bind fun x2 =>
        bif x2.2.2.2 then (((getI s.2.2.1 s.2.1)).bind fun x3 =>
          ((getI s.2.2.2 s.2.1)).bind fun x4 =>
          ((getI s.2.2.2 s.2.1)).bind fun x5 =>
          some (.inl (s.1, ((IntKind.wrap .i64 (s.2.1 + 1)), (s.2.2.1, (List.set s.2.2.2 (Int.toNat s.2.1) x3)))))) else
        some (.inl (s.1, ((IntKind.wrap .i64 (s.2.1 + 1)), s.2.2)))) else
      some (.inr s.2.2)) (((List.length x1) : Int), ((0 : Int), (x, x1)))).bind fun x2 =>
  some x2.2
noncomputable def look_style_v (x : Shape × Stamp × Style) : Option Style :=
  ((prop_Below x.2.2)).bind fun x1 =>
  ((shape_Regs (x.1, x.2.1))).bind fun x2 =>
  (iter (σ := ((List Reg) × (Int × (Int × (Shape × ((Int × Int) × ((List Int) × (List Int)))))))) (ρ := (Shape × ((Int × Int) × ((List Int) × (List Int))))) (fun s =>
      bif (decide ((s.2.2.1 < s.2.1))) then (((getI s.1 s.2.2.1)).bind fun x3 =>
        ((getI s.2.2.2.2.2.2 x3.1)).bind fun x4 =>
        ((getI s.2.2.2.2.2.2 x3.1)).bind fun x5 =>
        some (.inl (s.1, (s.2.1, ((IntKind.wrap .i64 (s.2.2.1 + 1)), (s.2.2.2.1, (s.2.2.2.2.1, (s.2.2.2.2.2.1, (List.set s.2.2.2.2.2.2 (Int.toNat x3.1) x3.2.1))))))))) else
      some (.inr s.2.2.2)) (x2, (((List.length x2) : Int), ((0 : Int), (x.1, (x.2.1, (x.2.2, x1))))))).bind fun x3 =>
  some x3.2.2.2
noncomputable def look_box_b (F : Shape × Stamp × Style × Int → Option Box) (x : Shape × Stamp × Style × Int) : Option Box :=
  bif (x.2.2.2 == 1) then some (Rose.mk (x.2.1, x.2.2.1) []) else
  ((tree_Children (x.1.1, x.2.1))).bind fun x1 =>
  (iter (σ := (Int × ((List Node) × (Int × (Int × (Shape × ((Int × Int) × ((List Int) × (Int × (Int × (Int × (Int × ((List Int) × (List (Rose ((Int × Int) × (List Int))))))))))))))))) (ρ := (Shape × ((Int × Int) × ((List Int) × (Int × (Int × (Int × (Int × ((List Int) × (List (Rose ((Int × Int) × (List Int))))))))))))) (fun s =>
      bif (decide ((s.2.2.2.1 < s.2.2.1))) then (((getI s.2.1 s.2.2.2.1)).bind fun x2 =>
        ((look_style_v (s.2.2.2.2.1, (x2.1, s.2.2.2.2.2.2.1)))).bind fun x3 =>
        ((getI x3 0)).bind fun x4 =>
        bif (x4 != 2) then (((F (s.2.2.2.2.1, (x2.1, (x3, (IntKind.wrap .i64 (s.1 - 1))))))).bind fun x5 =>
          bif (room (List.length (s.2.2.2.2.2.2.2.2.2.2.2.2 ++ [(Rose.mk (Go.Dv.Rose.val x5) (Go.Dv.Rose.kids x5))])) 64) then some (.inl (s.1, (s.2.1, (s.2.2.1, ((IntKind.wrap .i64 (s.2.2.2.1 + 1)), (s.2.2.2.2.1, (s.2.2.2.2.2.1, (s.2.2.2.2.2.2.1, (s.2.2.2.2.2.2.2.1, (s.2.2.2.2.2.2.2.2.1, (s.2.2.2.2.2.2.2.2.2.1, (s.2.2.2.2.2.2.2.2.2.2.1, (s.2.2.2.2.2.2.2.2.2.2.2.1, (s.2.2.2.2.2.2.2.2.2.2.2.2 ++ [(Rose.mk (Go.Dv.Rose.val x5) (Go.Dv.Rose.kids x5))])))))))))))))) else
          none) else
        some (.inl (s.1, (s.2.1, (s.2.2.1, ((IntKind.wrap .i64 (s.2.2.2.1 + 1)), s.2.2.2.2)))))) else
      some (.inr s.2.2.2.2)) (x.2.2.2, (x1, (((List.length x1) : Int), ((0 : Int), (x.1, (x.2.1, (x.2.2.1, ((0 : Int), ((0 : Int), (x.2.1.1, (x.2.1.2, (x.2.2.1, []))))))))))))).bind fun x2 =>
  some (Rose.mk ((x2.2.2.2.2.2.1, x2.2.2.2.2.2.2.1), x2.2.2.2.2.2.2.2.1) x2.2.2.2.2.2.2.2.2)
noncomputable def look_box : Shape × Stamp × Style × Int → Option Box := fixO look_box_b
noncomputable def prop_Plain_v (x : Unit) : Option Style :=
  (iter (σ := (Int × (List Int))) (ρ := (List Int)) (fun s =>
      bif (decide ((s.1 < 19))) then (((prop_ruleOf s.1)).bind fun x1 =>
        bif (room (List.length (s.2 ++ [x1.2.2.1])) 8) then some (.inl ((IntKind.wrap .i64 (s.1 + 1)), (s.2 ++ [x1.2.2.1]))) else
        none) else
      some (.inr s.2)) ((0 : Int), [])).bind fun x1 =>
  some x1
noncomputable def look_All (x : Shape) : Option Box :=
  ((prop_Plain_v ())).bind fun x1 =>
  ((look_box (x, ((stamp_Root ()), (x1, (13 : Int)))))).bind fun x2 =>
  some (Rose.mk (Go.Dv.Rose.val x2) (Go.Dv.Rose.kids x2))
noncomputable def look_Boxes (x : Shape) : Option (Box × Int) :=
  ((shape_IsShape x)).bind fun x1 =>
  bif (Bool.not x1) then some ((Rose.mk (((0 : Int), (0 : Int)), []) []), (1 : Int)) else
  ((look_All x)).bind fun x2 =>
  some ((Rose.mk (Go.Dv.Rose.val x2) (Go.Dv.Rose.kids x2)), (0 : Int))
noncomputable def arraslaw18_num (x : Int) : Int :=
  x
noncomputable def arrasref0_CopyEntry (x : Entry) : Option Entry :=
  ((arrasref0_CopyOp x.1)).bind fun x1 =>
  some (x1, x.2)
noncomputable def arrasref0_CopyMoves (x : List Entry) : Option (List Entry) :=
  (iter (σ := ((List Entry) × ((List Entry) × Int))) (ρ := (List Entry)) (fun s =>
      bif (decide ((s.2.2 < ((List.length s.1) : Int)))) then (((getI s.1 s.2.2)).bind fun x1 =>
        ((arrasref0_CopyEntry x1)).bind fun x2 =>
        bif (room (List.length (s.2.1 ++ [x2])) 168) then some (.inl (s.1, ((s.2.1 ++ [x2]), (IntKind.wrap .i64 (s.2.2 + 1))))) else
        none) else
      some (.inr s.2.1)) (x, ([], (0 : Int)))).bind fun x1 =>
  some x1
noncomputable def arrasref0_CopyTree (x : Tree) : Option Tree :=
  ((arrasref0_CopyNodes x.1)).bind fun x1 =>
  ((arrasref0_CopyMoves x.2)).bind fun x2 =>
  some (x1, x2)
noncomputable def arrasref0_CopyRegs (x : List Reg) : Option (List Reg) :=
  (iter (σ := ((List Reg) × ((List Reg) × Int))) (ρ := (List Reg)) (fun s =>
      bif (decide ((s.2.2 < ((List.length s.1) : Int)))) then (((getI s.1 s.2.2)).bind fun x1 =>
        bif (room (List.length (s.2.1 ++ [x1])) 32) then some (.inl (s.1, ((s.2.1 ++ [x1]), (IntKind.wrap .i64 (s.2.2 + 1))))) else
        none) else
      some (.inr s.2.1)) (x, ([], (0 : Int)))).bind fun x1 =>
  some x1
noncomputable def arrasref0_CopyLook (x : Look) : Option Look :=
  ((arrasref0_CopyRegs x.2)).bind fun x1 =>
  some (x.1, x1)
noncomputable def arrasref0_CopyLooks (x : List Look) : Option (List Look) :=
  (iter (σ := ((List Look) × ((List Look) × Int))) (ρ := (List Look)) (fun s =>
      bif (decide ((s.2.2 < ((List.length s.1) : Int)))) then (((getI s.1 s.2.2)).bind fun x1 =>
        ((arrasref0_CopyLook x1)).bind fun x2 =>
        bif (room (List.length (s.2.1 ++ [x2])) 40) then some (.inl (s.1, ((s.2.1 ++ [x2]), (IntKind.wrap .i64 (s.2.2 + 1))))) else
        none) else
      some (.inr s.2.1)) (x, ([], (0 : Int)))).bind fun x1 =>
  some x1
noncomputable def arrasref0_CopyShape (x : Shape) : Option Shape :=
  ((arrasref0_CopyTree x.1)).bind fun x1 =>
  ((arrasref0_CopyLooks x.2)).bind fun x2 =>
  some (x1, x2)
noncomputable def arrasref16_Apply (x : Tree × Op) : Option (Tree × Bool) :=
  ((arrasref16_Moves x.1)).bind fun x1 =>
  (iter (σ := ((List Op) × (Bool × ((List Op) × (Int × (Tree × (Op × Tree))))))) (ρ := (((List Op) × (Bool × (Tree × (Op × Tree)))) ⊕ (Bool × Tree))) (fun s =>
      bif (decide ((s.2.2.2.1 < ((List.length s.2.2.1) : Int)))) then (((getI s.2.2.1 s.2.2.2.1)).bind fun x2 =>
        ((getI s.2.2.1 s.2.2.2.1)).bind fun x3 =>
        bif ((arrasref6_Cmp (x3.1, s.2.2.2.2.2.1.1)) == 0) then some (.inr (.inr (false, s.2.2.2.2.1))) else
        bif (bif (Bool.not s.2.1) then (decide ((0 < (arrasref6_Cmp (x3.1, s.2.2.2.2.2.1.1))))) else false) then (bif (room (List.length (s.1 ++ [s.2.2.2.2.2.1])) 120) then (((getI s.2.2.1 s.2.2.2.1)).bind fun x4 =>
            ((getI s.2.2.1 s.2.2.2.1)).bind fun x5 =>
            bif (room (List.length ((s.1 ++ [s.2.2.2.2.2.1]) ++ [x5])) 120) then some (.inl (((s.1 ++ [s.2.2.2.2.2.1]) ++ [x5]), (true, (s.2.2.1, ((IntKind.wrap .i64 (s.2.2.2.1 + 1)), s.2.2.2.2))))) else
            none) else
          none) else
        ((getI s.2.2.1 s.2.2.2.1)).bind fun x4 =>
        ((getI s.2.2.1 s.2.2.2.1)).bind fun x5 =>
        bif (room (List.length (s.1 ++ [x5])) 120) then some (.inl ((s.1 ++ [x5]), (s.2.1, (s.2.2.1, ((IntKind.wrap .i64 (s.2.2.2.1 + 1)), s.2.2.2.2))))) else
        none) else
      some (.inr (.inl (s.1, (s.2.1, s.2.2.2.2))))) ([], (false, (x1, ((0 : Int), (x.1, (x.2, ([], [])))))))).bind fun x2 =>
  (match x2 with
  | .inl y => bif (Bool.not y.2.1) then (bif (room (List.length (y.1 ++ [y.2.2.2.1])) 120) then (((arrasref16_Made (y.1 ++ [y.2.2.2.1]))).bind fun x3 =>
        some (x3, true)) else
      none) else
    ((arrasref16_Made y.1)).bind fun x3 =>
    some (x3, true)
  | .inr y => some (y.2, y.1))
noncomputable def arrasref14_Set (x : (List Reg) × Int × Int × Stamp) : Option (List Reg) :=
  (iter (σ := ((List Reg) × (Int × ((List Reg) × (Bool × (Int × ((Int × Int) × Reg))))))) (ρ := ((List Reg) × (Bool × ((Int × Int) × Reg)))) (fun s =>
      bif (decide ((s.2.2.2.2.1 < ((List.length s.1) : Int)))) then (((getI s.1 s.2.2.2.2.1)).bind fun x1 =>
        bif (x1.1 == s.2.1) then (((getI s.1 s.2.2.2.2.1)).bind fun x2 =>
          (bif (decide (((arrasref6_Cmp (x2.2.2, s.2.2.2.2.2.1)) < 0))) then (bif (room (List.length (s.2.2.1 ++ [s.2.2.2.2.2.2])) 32) then some (s.1, (s.2.1, ((s.2.2.1 ++ [s.2.2.2.2.2.2]), (true, s.2.2.2.2)))) else
              none) else
            ((getI s.1 s.2.2.2.2.1)).bind fun x3 =>
            bif (room (List.length (s.2.2.1 ++ [x3])) 32) then some (s.1, (s.2.1, ((s.2.2.1 ++ [x3]), (true, s.2.2.2.2)))) else
            none).bind fun x3 =>
          some (.inl (x3.1, (x3.2.1, (x3.2.2.1, (x3.2.2.2.1, ((IntKind.wrap .i64 (x3.2.2.2.2.1 + 1)), x3.2.2.2.2.2))))))) else
        (bif (Bool.not s.2.2.2.1) then (((getI s.1 s.2.2.2.2.1)).bind fun x2 =>
            some (decide ((s.2.1 < x2.1)))) else
          some false).bind fun x2 =>
        bif x2 then (bif (room (List.length (s.2.2.1 ++ [s.2.2.2.2.2.2])) 32) then (((getI s.1 s.2.2.2.2.1)).bind fun x3 =>
            bif (room (List.length ((s.2.2.1 ++ [s.2.2.2.2.2.2]) ++ [x3])) 32) then some (.inl (s.1, (s.2.1, (((s.2.2.1 ++ [s.2.2.2.2.2.2]) ++ [x3]), (true, ((IntKind.wrap .i64 (s.2.2.2.2.1 + 1)), s.2.2.2.2.2)))))) else
            none) else
          none) else
        ((getI s.1 s.2.2.2.2.1)).bind fun x3 =>
        bif (room (List.length (s.2.2.1 ++ [x3])) 32) then some (.inl (s.1, (s.2.1, ((s.2.2.1 ++ [x3]), (s.2.2.2.1, ((IntKind.wrap .i64 (s.2.2.2.2.1 + 1)), s.2.2.2.2.2)))))) else
        none) else
      some (.inr (s.2.2.1, (s.2.2.2.1, s.2.2.2.2.2)))) (x.1, (x.2.1, ([], (false, ((0 : Int), (x.2.2.2, x.2))))))).bind fun x1 =>
  bif (Bool.not x1.2.1) then (bif (room (List.length (x1.1 ++ [x1.2.2.2])) 32) then some (x1.1 ++ [x1.2.2.2]) else
    none) else
  some x1.1
noncomputable def arrasref16_Does (x : Shape × Op) : Option (Shape × Bool) :=
  ((arrasref0_CopyShape x.1)).bind fun x1 =>
  bif (x.2.2.2.2.1 == 1) then (((arrasref16_Apply (x.1.1, x.2))).bind fun x2 =>
    ((arrasref0_CopyTree x2.1)).bind fun x3 =>
    some ((x3, x1.2), x2.2)) else
  (iter (σ := (Bool × ((List Look) × (Int × (Shape × (Op × (Shape × Shape))))))) (ρ := (Bool × ((List Look) × (Shape × (Op × (Shape × Shape)))))) (fun s =>
      bif (decide ((s.2.2.1 < ((List.length s.2.2.2.2.2.2.2) : Int)))) then (((getI s.2.2.2.2.2.2.2 s.2.2.1)).bind fun x2 =>
        (bif (bif (Bool.not s.1) then (decide ((0 < (arrasref6_Cmp (x2.1, s.2.2.2.2.1.2.2.2.2.1))))) else false) then (((arrasref14_Set ([], (s.2.2.2.2.1.2.2.2.2.2.2.2.1, (s.2.2.2.2.1.2.2.2.2.2.2.2.2, s.2.2.2.2.1.1)))) : Option (List Reg)).bind fun x3 =>
            bif (room (List.length (s.2.1 ++ [(s.2.2.2.2.1.2.2.2.2.1, x3)])) 40) then some (true, ((s.2.1 ++ [(s.2.2.2.2.1.2.2.2.2.1, x3)]), (s.2.2.1, ((arrasref6_Cmp (x2.1, s.2.2.2.2.1.2.2.2.2.1)), (s.2.2.2.1, (s.2.2.2.2.1, (s.2.2.2.2.2.1, (s.2.2.2.2.2.2, x2)))))))) else
            none) else
          some (s.1, (s.2.1, (s.2.2.1, ((arrasref6_Cmp (x2.1, s.2.2.2.2.1.2.2.2.2.1)), (s.2.2.2.1, (s.2.2.2.2.1, (s.2.2.2.2.2.1, (s.2.2.2.2.2.2, x2)))))))) : Option (Bool × ((List Look) × (Int × (Int × (Shape × (Op × (Shape × (Shape × Look))))))))).bind fun x3 =>
        bif (x3.2.2.2.1 == 0) then (((arrasref14_Set (x3.2.2.2.2.2.2.2.2.2, (x3.2.2.2.2.2.1.2.2.2.2.2.2.2.1, (x3.2.2.2.2.2.1.2.2.2.2.2.2.2.2, x3.2.2.2.2.2.1.1))))).bind fun x4 =>
          bif (room (List.length (x3.2.1 ++ [(x3.2.2.2.2.2.2.2.2.1, x4)])) 40) then some (.inl (true, ((x3.2.1 ++ [(x3.2.2.2.2.2.2.2.2.1, x4)]), ((IntKind.wrap .i64 (x3.2.2.1 + 1)), (x3.2.2.2.2.1, (x3.2.2.2.2.2.1, (x3.2.2.2.2.2.2.1, x3.2.2.2.2.2.2.2.1))))))) else
          none) else
        bif (room (List.length (x3.2.1 ++ [x3.2.2.2.2.2.2.2.2])) 40) then some (.inl (x3.1, ((x3.2.1 ++ [x3.2.2.2.2.2.2.2.2]), ((IntKind.wrap .i64 (x3.2.2.1 + 1)), (x3.2.2.2.2.1, (x3.2.2.2.2.2.1, (x3.2.2.2.2.2.2.1, x3.2.2.2.2.2.2.2.1))))))) else
        none) else
      some (.inr (s.1, (s.2.1, s.2.2.2)))) (false, ([], ((0 : Int), (x.1, (x.2, (((([], []), []) : Shape), x1))))))).bind fun x2 =>
  bif (Bool.not x2.1) then (((arrasref14_Set ([], (x2.2.2.2.1.2.2.2.2.2.2.2.1, (x2.2.2.2.1.2.2.2.2.2.2.2.2, x2.2.2.2.1.1)))) : Option (List Reg)).bind fun x3 =>
    bif (room (List.length (x2.2.1 ++ [(x2.2.2.2.1.2.2.2.2.1, x3)])) 40) then some ((x2.2.2.2.2.2.1, (x2.2.1 ++ [(x2.2.2.2.1.2.2.2.2.1, x3)])), true) else
    none) else
  some ((x2.2.2.2.2.2.1, x2.2.1), true)
noncomputable def arraslaw10_O (x : Unit) : Op :=
  (((1 : Int), (0 : Int)), (1 : Int), [0], (1 : Int), ((1 : Int), (0 : Int)), ((0 : Int), (0 : Int)), (ByteArray.mk ([107]).toArray), (0 : Int), (0 : Int))
noncomputable def arraslaw18_wakes (x : Unit) : Option Bool :=
  ((arrasref16_Does (((([], []), []) : Shape), (arraslaw10_O ()))) : Option (Shape × Bool)).bind fun x1 =>
  ((look_Boxes x1.1)).bind fun x2 =>
  (bif x1.2 then (bif ((arraslaw18_num x2.2) == 0) then (bif (((List.length (Go.Dv.Rose.kids x2.1)) : Int) == 1) then (((getI (Go.Dv.Rose.kids x2.1) 0)).bind fun x3 =>
          some (((Go.Dv.Rose.val x3).1.1 == 1) && ((Go.Dv.Rose.val x3).1.2 == 0))) else
        some false) else
      some false) else
    some false).bind fun x3 =>
  some x3
noncomputable def look_style (x : Shape × Stamp × Style) : Option (List Int) :=
  ((prop_Below x.2.2)).bind fun x1 =>
  ((shape_Regs (x.1, x.2.1))).bind fun x2 =>
  (iter (σ := ((List Reg) × (Int × (Int × (Shape × ((Int × Int) × ((List Int) × (List Int)))))))) (ρ := (Shape × ((Int × Int) × ((List Int) × (List Int))))) (fun s =>
      bif (decide ((s.2.2.1 < s.2.1))) then (((getI s.1 s.2.2.1)).bind fun x3 =>
        ((getI s.2.2.2.2.2.2 x3.1)).bind fun x4 =>
        ((getI s.2.2.2.2.2.2 x3.1)).bind fun x5 =>
        some (.inl (s.1, (s.2.1, ((IntKind.wrap .i64 (s.2.2.1 + 1)), (s.2.2.2.1, (s.2.2.2.2.1, (s.2.2.2.2.2.1, (List.set s.2.2.2.2.2.2 (Int.toNat x3.1) x3.2.1))))))))) else
      some (.inr s.2.2.2)) (x2, (((List.length x2) : Int), ((0 : Int), (x.1, (x.2.1, (x.2.2, x1))))))).bind fun x3 =>
  some x3.2.2.2
noncomputable def prop_Whole (x : Style) : Option Bool :=
  (iter (σ := (Int × (List Int))) (ρ := Bool) (fun s =>
      bif (s.1 == ((List.length s.2) : Int)) then some (.inr (s.1 == 19)) else
      ((getI s.2 s.1)).bind fun x1 =>
      ((prop_May (s.1, x1))).bind fun x2 =>
      bif x2 then some (.inl ((IntKind.wrap .i64 (s.1 + 1)), s.2)) else
      some (.inr false)) ((0 : Int), x)).bind fun x1 =>
  some x1
noncomputable def look_count_b (F : Box × Int × Int → Option Int) (x : Box × Int × Int) : Option Int :=
  (bif (x.2.1 == 0) then some true else
    bif (decide ((x.2.2 < 1))) then some true else
    ((prop_Whole (Go.Dv.Rose.val x.1).2)).bind fun x1 =>
    some (Bool.not x1)).bind fun x1 =>
  bif x1 then some ((-1) : Int) else
  (iter (σ := ((Rose ((Int × Int) × (List Int))) × (Int × Reg))) (ρ := (Int ⊕ Int)) (fun s =>
      bif (decide ((s.2.2.2.2.2 < s.2.2.2.2.1))) then (((getI (Go.Dv.Rose.kids s.1) s.2.2.2.2.2)).bind fun x2 =>
        ((F ((Rose.mk (Go.Dv.Rose.val x2) (Go.Dv.Rose.kids x2)), ((IntKind.wrap .i64 (s.2.1 - 1)), (IntKind.wrap .i64 (s.2.2.1 - s.2.2.2.1)))))).bind fun x3 =>
        bif (decide ((x3 < 0))) then some (.inr (.inr (-1))) else
        some (.inl ((Rose.mk (Go.Dv.Rose.val s.1) (Go.Dv.Rose.kids s.1)), (s.2.1, (s.2.2.1, ((IntKind.wrap .i64 (s.2.2.2.1 + x3)), (s.2.2.2.2.1, (IntKind.wrap .i64 (s.2.2.2.2.2 + 1))))))))) else
      some (.inr (.inl s.2.2.2.1))) ((Rose.mk (Go.Dv.Rose.val x.1) (Go.Dv.Rose.kids x.1)), (x.2.1, (x.2.2, ((1 : Int), (((List.length (Go.Dv.Rose.kids x.1)) : Int), (0 : Int))))))).bind fun x2 =>
  (match x2 with
  | .inl y => some y
  | .inr y => some y)
noncomputable def look_count : Box × Int × Int → Option Int := fixO look_count_b
noncomputable def look_Many (x : Box) : Option Int :=
  ((look_count ((Rose.mk (Go.Dv.Rose.val x) (Go.Dv.Rose.kids x)), ((13 : Int), (1000 : Int))))).bind fun x1 =>
  some x1
noncomputable def look_Count (x : Box) : Option (Int × Int) :=
  ((look_Many (Rose.mk (Go.Dv.Rose.val x) (Go.Dv.Rose.kids x)))).bind fun x1 =>
  bif (decide ((x1 < 0))) then some ((0 : Int), (1 : Int)) else
  some (x1, (0 : Int))
noncomputable def look_Check (x : Box) : Option Int :=
  ((look_Many (Rose.mk (Go.Dv.Rose.val x) (Go.Dv.Rose.kids x)))).bind fun x1 =>
  bif (decide ((x1 < 0))) then some (1 : Int) else
  some (0 : Int)
noncomputable def arrasref18_Count_b (F : Box → Option Int) (x : Box) : Option Int :=
  (iter (σ := (Int × (Int × (Rose ((Int × Int) × (List Int)))))) (ρ := (Int × (Rose ((Int × Int) × (List Int))))) (fun s =>
      bif (decide ((s.2.1 < ((List.length (Go.Dv.Rose.kids s.2.2)) : Int)))) then (((getI (Go.Dv.Rose.kids s.2.2) s.2.1)).bind fun x1 =>
        ((F (Rose.mk (Go.Dv.Rose.val x1) (Go.Dv.Rose.kids x1)))).bind fun x2 =>
        some (.inl ((IntKind.wrap .i64 (s.1 + x2)), ((IntKind.wrap .i64 (s.2.1 + 1)), (Rose.mk (Go.Dv.Rose.val s.2.2) (Go.Dv.Rose.kids s.2.2)))))) else
      some (.inr (s.1, (Rose.mk (Go.Dv.Rose.val s.2.2) (Go.Dv.Rose.kids s.2.2))))) ((1 : Int), ((0 : Int), (Rose.mk (Go.Dv.Rose.val x) (Go.Dv.Rose.kids x))))).bind fun x1 =>
  some x1.1
noncomputable def arrasref18_Count : Box → Option Int := fixO arrasref18_Count_b
noncomputable def arraslaw0_BoxWeight_b (F : Box → Option Int) (x : Box) : Option Int :=
  (iter (σ := (Int × (Int × (Rose ((Int × Int) × (List Int)))))) (ρ := (Int × (Rose ((Int × Int) × (List Int))))) (fun s =>
      bif (bif (decide ((s.2.1 < ((List.length (Go.Dv.Rose.kids s.2.2)) : Int)))) then (decide ((s.1 < 1048576))) else false) then (((getI (Go.Dv.Rose.kids s.2.2) s.2.1)).bind fun x1 =>
        ((F (Rose.mk (Go.Dv.Rose.val x1) (Go.Dv.Rose.kids x1)))).bind fun x2 =>
        some (.inl ((IntKind.wrap .i64 (s.1 + x2)), ((IntKind.wrap .i64 (s.2.1 + 1)), (Rose.mk (Go.Dv.Rose.val s.2.2) (Go.Dv.Rose.kids s.2.2)))))) else
      some (.inr (s.1, (Rose.mk (Go.Dv.Rose.val s.2.2) (Go.Dv.Rose.kids s.2.2))))) ((IntKind.wrap .i64 (1 + ((List.length (Go.Dv.Rose.val x).2) : Int))), ((0 : Int), (Rose.mk (Go.Dv.Rose.val x) (Go.Dv.Rose.kids x))))).bind fun x1 =>
  some x1.1
noncomputable def arraslaw0_BoxWeight : Box → Option Int := fixO arraslaw0_BoxWeight_b
noncomputable def arrasref8_All (x : Style) : Option Bool :=
  bif (((List.length x) : Int) != 19) then some false else
  (iter (σ := (Int × (List Int))) (ρ := ((List Int) ⊕ Bool)) (fun s =>
      bif (decide ((s.1 < 19))) then (((getI s.2 s.1)).bind fun x1 =>
        ((arrasref8_Check (s.1, x1))).bind fun x2 =>
        bif (x2 != 0) then some (.inr (.inr false)) else
        some (.inl ((IntKind.wrap .i64 (s.1 + 1)), s.2))) else
      some (.inr (.inl s.2))) ((0 : Int), x)).bind fun x1 =>
  (match x1 with
  | .inl y => some true
  | .inr y => some y)
noncomputable def arrasref18_fine_b (F : Box × Int → Option Bool) (x : Box × Int) : Option Bool :=
  (((arrasref8_All (Go.Dv.Rose.val x.1).2)).bind fun x1 =>
    bif (Bool.not x1) then some true else
    some (decide ((12 < x.2)))).bind fun x1 =>
  bif x1 then some false else
  (iter (σ := (Int × (Int × (Rose ((Int × Int) × (List Int)))))) (ρ := ((Rose ((Int × Int) × (List Int))) ⊕ Bool)) (fun s =>
      bif (decide ((s.2.1 < ((List.length (Go.Dv.Rose.kids s.2.2)) : Int)))) then (((getI (Go.Dv.Rose.kids s.2.2) s.2.1)).bind fun x2 =>
        ((F ((Rose.mk (Go.Dv.Rose.val x2) (Go.Dv.Rose.kids x2)), (IntKind.wrap .i64 (s.1 + 1))))).bind fun x3 =>
        bif (Bool.not x3) then some (.inr (.inr false)) else
        some (.inl (s.1, ((IntKind.wrap .i64 (s.2.1 + 1)), (Rose.mk (Go.Dv.Rose.val s.2.2) (Go.Dv.Rose.kids s.2.2)))))) else
      some (.inr (.inl (Rose.mk (Go.Dv.Rose.val s.2.2) (Go.Dv.Rose.kids s.2.2))))) (x.2, ((0 : Int), (Rose.mk (Go.Dv.Rose.val x.1) (Go.Dv.Rose.kids x.1))))).bind fun x2 =>
  (match x2 with
  | .inl y => some true
  | .inr y => some y)
noncomputable def arrasref18_fine : Box × Int → Option Bool := fixO arrasref18_fine_b
noncomputable def arrasref18_Box (x : Box) : Option Bool :=
  (((arrasref18_fine ((Rose.mk (Go.Dv.Rose.val x) (Go.Dv.Rose.kids x)), (0 : Int)))).bind fun x1 =>
    bif x1 then (((arrasref18_Count (Rose.mk (Go.Dv.Rose.val x) (Go.Dv.Rose.kids x)))).bind fun x2 =>
      some (decide ((x2 ≤ 1000)))) else
    some false).bind fun x1 =>
  some x1
noncomputable def arraslaw18_LookChecks (x : List Box) : Option Bool :=
  (iter (σ := ((List (Rose ((Int × Int) × (List Int)))) × Int)) (ρ := (Unit ⊕ Bool)) (fun s =>
      bif (bif (decide ((s.2 < ((List.length s.1) : Int)))) then (decide ((s.2 < 8))) else false) then (((getI s.1 s.2)).bind fun x1 =>
        ((arraslaw0_BoxWeight (Rose.mk (Go.Dv.Rose.val x1) (Go.Dv.Rose.kids x1)))).bind fun x2 =>
        bif (decide ((10000 < x2))) then some (.inr (.inr true)) else
        ((getI s.1 s.2)).bind fun x3 =>
        ((look_Check (Rose.mk (Go.Dv.Rose.val x3) (Go.Dv.Rose.kids x3)))).bind fun x4 =>
        ((getI s.1 s.2)).bind fun x5 =>
        ((look_Count (Rose.mk (Go.Dv.Rose.val x5) (Go.Dv.Rose.kids x5)))).bind fun x6 =>
        ((getI s.1 s.2)).bind fun x7 =>
        ((arrasref18_Box (Rose.mk (Go.Dv.Rose.val x7) (Go.Dv.Rose.kids x7)))).bind fun x8 =>
        bif (Bool.not x8) then (bif (bif ((arraslaw18_num x4) != 1) then true else (bif ((arraslaw18_num x6.2) != 1) then true else (x6.1 != 0))) then some (.inr (.inr false)) else
          some (.inl (s.1, (IntKind.wrap .i64 (s.2 + 1))))) else
        (bif ((arraslaw18_num x4) != 0) then some true else
          bif ((arraslaw18_num x6.2) != 0) then some true else
          ((getI s.1 s.2)).bind fun x9 =>
          ((arrasref18_Count (Rose.mk (Go.Dv.Rose.val x9) (Go.Dv.Rose.kids x9)))).bind fun x10 =>
          some (x6.1 != x10)).bind fun x9 =>
        bif x9 then some (.inr (.inr false)) else
        some (.inl (s.1, (IntKind.wrap .i64 (s.2 + 1))))) else
      some (.inr (.inl ()))) (x, (0 : Int))).bind fun x1 =>
  (match x1 with
  | .inl y => ((arraslaw18_wakes ())).bind fun x2 =>
    some x2
  | .inr y => some y)
end Go.Dv
