/- The functions that the laws reach, each over lists, numbers and pairs: printed by a tool out of the told code (seat.py), joined to the code in the text Code. -/
import Derived.Test.YtdpgchmodijllaaGreatDvI
set_option linter.unusedVariables false
set_option linter.unusedSimpArgs false
set_option maxRecDepth 100000
open Go (IntKind)
namespace Go.Dv
abbrev sI : Sh := .int .i64
abbrev sStamp : Sh := (.pair sI sI)
abbrev Stamp : Type := Int × Int
abbrev sOp : Sh := (.pair sStamp (.pair sI (.pair (.list sI) (.pair sI (.pair sStamp (.pair sStamp (.pair .str sStamp)))))))
abbrev Op : Type := Stamp × Int × (List Int) × Int × Stamp × Stamp × ByteArray × Stamp
abbrev sNode : Sh := (.pair sStamp (.pair sStamp .str))
abbrev Node : Type := Stamp × Stamp × ByteArray
abbrev Reg : Type := Int × Int × Stamp
abbrev Frame : Type := Int × Int × Int × (List Int) × List Op
abbrev taker_arrasref10 : Type := (List Int) × Stamp
abbrev srule_prop : Sh := (.pair sI (.pair sI (.pair sI .bool)))
abbrev rule_prop : Type := Int × Int × Int × Bool
abbrev Item : Type := Int × Reg
noncomputable def cmp_Or_int (x : List Int) : Option Int :=
  (iter (σ := (Int × taker_arrasref10)) (ρ := (Int ⊕ Int)) (fun s =>
      bif (decide ((s.2.2.2 < s.2.2.1))) then (((getI s.2.1 s.2.2.2)).bind fun x1 =>
        bif (x1 != s.1) then some (.inr (.inr x1)) else
        some (.inl (s.1, (s.2.1, (s.2.2.1, (IntKind.wrap .i64 (s.2.2.2 + 1))))))) else
      some (.inr (.inl s.1))) ((0 : Int), (x, (((List.length x) : Int), (0 : Int))))).bind fun x1 =>
  (match x1 with
  | .inl y => some y
  | .inr y => some y)
noncomputable def cmp_isNaN_int (x : Int) : Bool :=
  (x != x)
noncomputable def cmp_Compare_int (x : Int × Int) : Int :=
  bif (cmp_isNaN_int x.1) then (bif (cmp_isNaN_int x.2) then (0 : Int) else
    ((-1) : Int)) else
  bif (cmp_isNaN_int x.2) then (1 : Int) else
  bif (decide ((x.1 < x.2))) then ((-1) : Int) else
  bif (decide ((x.2 < x.1))) then (1 : Int) else
  (0 : Int)
noncomputable def stamp_Cmp (x : Stamp × Stamp) : Option Int :=
  ((cmp_Or_int [(cmp_Compare_int (x.1.1, x.2.1)), (cmp_Compare_int (x.1.2, x.2.2))])).bind fun x1 =>
  some x1
noncomputable def strings_Compare (x : ByteArray × ByteArray) : Int :=
  (cmpStr x.1 x.2)
noncomputable def tree_Children_1 (x : Node × Node) : Option Int :=
  ((stamp_Cmp (x.1.1, x.2.1))).bind fun x1 =>
  ((cmp_Or_int [(strings_Compare (x.1.2.2, x.2.2.2)), x1])).bind fun x2 =>
  some x2
noncomputable def cf_slices_SortFunc_Node (x y : El sNode) : Int := (tree_Children_1 (x, y)).getD 0
noncomputable def tree_find_1 (x : Node × Stamp) : Option Int :=
  ((stamp_Cmp (x.1.1, x.2))).bind fun x1 =>
  some x1
noncomputable def slices_BinarySearchFunc_Node_Stamp (x : (List Node) × Stamp) : Option (Int × Bool) :=
  (iter (σ := ((List Node) × Item)) (ρ := ((List Node) × Reg)) (fun s =>
      bif (decide ((s.2.2.1 < s.2.2.2.1))) then (bif (decide ((1 < 0))) then none else
        ((getI s.1 (IntKind.wrap .i64 (Int.fdiv (IntKind.wrap .u64 (IntKind.wrap .i64 (s.2.2.1 + s.2.2.2.1))) (2 ^ (Min.min (Int.toNat 1) (IntKind.bits .u64))))))).bind fun x1 =>
        ((tree_find_1 (x1, s.2.2.2.2))).bind fun x2 =>
        bif (decide ((x2 < 0))) then some (.inl (s.1, (s.2.1, ((IntKind.wrap .i64 ((IntKind.wrap .i64 (Int.fdiv (IntKind.wrap .u64 (IntKind.wrap .i64 (s.2.2.1 + s.2.2.2.1))) (2 ^ (Min.min (Int.toNat 1) (IntKind.bits .u64))))) + 1)), s.2.2.2)))) else
        some (.inl (s.1, (s.2.1, (s.2.2.1, ((IntKind.wrap .i64 (Int.fdiv (IntKind.wrap .u64 (IntKind.wrap .i64 (s.2.2.1 + s.2.2.2.1))) (2 ^ (Min.min (Int.toNat 1) (IntKind.bits .u64))))), s.2.2.2.2)))))) else
      some (.inr (s.1, (s.2.1, (s.2.2.1, s.2.2.2.2))))) (x.1, (((List.length x.1) : Int), ((0 : Int), (((List.length x.1) : Int), x.2))))).bind fun x1 =>
  (bif (decide ((x1.2.2.1 < x1.2.1))) then (((getI x1.1 x1.2.2.1)).bind fun x2 =>
      ((tree_find_1 (x2, x1.2.2.2))).bind fun x3 =>
      some (x1.2.2.1, (x3 == 0))) else
    some (x1.2.2.1, false)).bind fun x2 =>
  some x2
noncomputable def tree_find (x : (List Node) × Stamp) : Option (Int × Bool) :=
  ((slices_BinarySearchFunc_Node_Stamp x)).bind fun x1 =>
  some x1
noncomputable def sum_Sum (x : Int × List Int) : Option Int :=
  (iter (σ := (Int × taker_arrasref10)) (ρ := Int) (fun s =>
      bif (decide ((s.2.2.2 < 8))) then (bif (decide ((1 < 0))) then none else
        some (.inl ((IntKind.wrap .u32 ((BitVec.toNat ((BitVec.ofInt (IntKind.bits .u32) (Int.fdiv s.1 (2 ^ (Min.min (Int.toNat 1) (IntKind.bits .u32))))) ^^^ (BitVec.ofInt (IntKind.bits .u32) (IntKind.wrap .u32 (3988292384 * (IntKind.wrap .u32 ((BitVec.toNat ((BitVec.ofInt (IntKind.bits .u32) s.1) &&& (BitVec.ofInt (IntKind.bits .u32) 1))) : Int))))))) : Int)), (s.2.1, (s.2.2.1, (IntKind.wrap .i64 (s.2.2.2 + 1))))))) else
      bif (decide ((s.2.2.1 < ((List.length s.2.1) : Int)))) then (((getI s.2.1 s.2.2.1)).bind fun x1 =>
        some (.inl ((IntKind.wrap .u32 ((BitVec.toNat ((BitVec.ofInt (IntKind.bits .u32) s.1) ^^^ (BitVec.ofInt (IntKind.bits .u32) (IntKind.wrap .u32 x1)))) : Int)), (s.2.1, ((IntKind.wrap .i64 (s.2.2.1 + 1)), (0 : Int)))))) else
      some (.inr (IntKind.wrap .u32 ((BitVec.toNat ((BitVec.ofInt (IntKind.bits .u32) (if (false = true) then (-1) else (if (false = true) then ((2 ^ ((IntKind.bits .u32) - 1)) - 1) else ((2 ^ (IntKind.bits .u32)) - 1)))) ^^^ (BitVec.ofInt (IntKind.bits .u32) s.1))) : Int)))) ((IntKind.wrap .u32 ((BitVec.toNat ((BitVec.ofInt (IntKind.bits .u32) (if (false = true) then (-1) else (if (false = true) then ((2 ^ ((IntKind.bits .u32) - 1)) - 1) else ((2 ^ (IntKind.bits .u32)) - 1)))) ^^^ (BitVec.ofInt (IntKind.bits .u32) x.1))) : Int)), (x.2, ((0 : Int), (8 : Int))))).bind fun x1 =>
  some x1
noncomputable def arrasref5_Sum (x : Int × List Int) : Option Int :=
  (iter (σ := (Int × ((List Int) × Int))) (ρ := Int) (fun s =>
      bif (decide ((s.2.2 < ((List.length s.2.1) : Int)))) then (((getI s.2.1 s.2.2)).bind fun x1 =>
        (iter (σ := (Int × taker_arrasref10)) (ρ := (Int × ((List Int) × Int))) (fun s1 =>
            bif (decide ((s1.2.2.2 < 8))) then (bif ((IntKind.wrap .u32 ((BitVec.toNat ((BitVec.ofInt (IntKind.bits .u32) s1.1) &&& (BitVec.ofInt (IntKind.bits .u32) 1))) : Int)) == 1) then (bif (decide ((1 < 0))) then none else
                some (.inl ((IntKind.wrap .u32 ((BitVec.toNat ((BitVec.ofInt (IntKind.bits .u32) (Int.fdiv s1.1 (2 ^ (Min.min (Int.toNat 1) (IntKind.bits .u32))))) ^^^ (BitVec.ofInt (IntKind.bits .u32) 3988292384))) : Int)), (s1.2.1, (s1.2.2.1, (IntKind.wrap .i64 (s1.2.2.2 + 1))))))) else
              bif (decide ((1 < 0))) then none else
              some (.inl ((Int.fdiv s1.1 (2 ^ (Min.min (Int.toNat 1) (IntKind.bits .u32)))), (s1.2.1, (s1.2.2.1, (IntKind.wrap .i64 (s1.2.2.2 + 1))))))) else
            some (.inr (s1.1, (s1.2.1, s1.2.2.1)))) ((IntKind.wrap .u32 ((BitVec.toNat ((BitVec.ofInt (IntKind.bits .u32) s.1) ^^^ (BitVec.ofInt (IntKind.bits .u32) (IntKind.wrap .u32 x1)))) : Int)), (s.2.1, (s.2.2, (0 : Int))))).bind fun x2 =>
        some (.inl (x2.1, (x2.2.1, (IntKind.wrap .i64 (x2.2.2 + 1)))))) else
      some (.inr s.1)) ((IntKind.wrap .u32 ((BitVec.toNat ((BitVec.ofInt (IntKind.bits .u32) x.1) ^^^ (BitVec.ofInt (IntKind.bits .u32) 4294967295))) : Int)), (x.2, (0 : Int)))).bind fun x1 =>
  some (IntKind.wrap .u32 ((BitVec.toNat ((BitVec.ofInt (IntKind.bits .u32) x1) ^^^ (BitVec.ofInt (IntKind.bits .u32) 4294967295))) : Int))
noncomputable def have_Is (x : List Int) : Option Bool :=
  (iter (σ := ((List Int) × Int)) (ρ := Bool) (fun s =>
      bif (s.2 == ((List.length s.1) : Int)) then some (.inr (bif (decide ((1 ≤ s.2))) then (decide ((s.2 ≤ 16))) else false)) else
      (((getI s.1 s.2)).bind fun x1 =>
        bif (decide ((0 ≤ x1))) then (((getI s.1 s.2)).bind fun x2 =>
          some (decide ((x2 ≤ 1099511627776)))) else
        some false).bind fun x1 =>
      bif x1 then some (.inl (s.1, (IntKind.wrap .i64 (s.2 + 1)))) else
      some (.inr false)) (x, (0 : Int))).bind fun x1 =>
  some x1
noncomputable def stamp_Is (x : Stamp) : Bool :=
  (bif (decide ((1 ≤ x.1))) then (bif (decide ((x.1 ≤ 1099511627776))) then (bif (decide ((0 ≤ x.2))) then (decide ((x.2 < 16))) else false) else false) else false)
noncomputable def stamp_Root (x : Unit) : Stamp :=
  ((0 : Int), (0 : Int))
noncomputable def stamp_Trash (x : Unit) : Stamp :=
  ((0 : Int), (1 : Int))
noncomputable def stamp_Place (x : Stamp) : Bool :=
  (bif (stamp_Is x) then true else (bif ((x.1 == (stamp_Root ()).1) && (x.2 == (stamp_Root ()).2)) then true else ((x.1 == (stamp_Trash ()).1) && (x.2 == (stamp_Trash ()).2))))
noncomputable def key_Is (x : ByteArray) : Option Bool :=
  (bif (decide ((1 ≤ ((ByteArray.size x) : Int)))) then (bif (decide ((((ByteArray.size x) : Int) ≤ 64))) then (((getB x (IntKind.wrap .i64 (((ByteArray.size x) : Int) - 1)))).bind fun x1 =>
        some (x1 != 0)) else
      some false) else
    some false).bind fun x1 =>
  some x1
noncomputable def prop_Is (x : Int) : Bool :=
  (bif (decide ((0 ≤ x))) then (decide ((x < 19))) else false)
noncomputable def prop_ruleOf (x : Int) : Option rule_prop :=
  bif (x == 0) then some ((0 : Int), (2 : Int), (0 : Int), false) else
  (bif (x == 1) then some (x, (true, ((0 : Int), (0 : Int), (0 : Int), false))) else
    some (x, ((x == 2), ((0 : Int), (0 : Int), (0 : Int), false)))).bind fun x1 =>
  bif x1.2.1 then some ((0 : Int), (1 : Int), (0 : Int), false) else
  (bif (x1.1 == 3) then some (x1.1, (true, x1.2.2)) else
    (bif (x1.1 == 4) then some (x1.1, (true, x1.2.2)) else
      (bif (x1.1 == 6) then some (x1.1, (true, x1.2.2)) else
        (bif (x1.1 == 8) then some (x1.1, (true, x1.2.2)) else
          some (x1.1, ((x1.1 == 11), x1.2.2))).bind fun x2 =>
        some x2).bind fun x2 =>
      some x2).bind fun x2 =>
    some x2).bind fun x2 =>
  bif x2.2.1 then some (((-1) : Int), (1099511627776 : Int), ((-1) : Int), false) else
  (bif (x2.1 == 5) then some (x2.1, (true, x2.2.2)) else
    some (x2.1, ((x2.1 == 7), x2.2.2))).bind fun x3 =>
  bif x3.2.1 then some ((0 : Int), (1099511627776 : Int), (0 : Int), false) else
  bif (x3.1 == 9) then some ((0 : Int), (1048576 : Int), (0 : Int), false) else
  bif (x3.1 == 10) then some ((0 : Int), (1048576 : Int), (1 : Int), false) else
  bif (x3.1 == 15) then some ((0 : Int), (4 : Int), (0 : Int), false) else
  bif (x3.1 == 16) then some ((0 : Int), (3 : Int), (0 : Int), false) else
  bif (x3.1 == 17) then some ((0 : Int), (16777215 : Int), (0 : Int), true) else
  bif (x3.1 == 18) then some ((64 : Int), (64000 : Int), (1024 : Int), true) else
  some ((0 : Int), (1073741824 : Int), (0 : Int), false)
noncomputable def prop_May (x : Int × Int) : Option Bool :=
  (bif (prop_Is x.1) then (((prop_ruleOf x.1)).bind fun x1 =>
      bif (decide ((x1.1 ≤ x.2))) then (((prop_ruleOf x.1)).bind fun x2 =>
        some (decide ((x.2 ≤ x2.2.1)))) else
      some false) else
    some false).bind fun x1 =>
  some x1
noncomputable def op_kind (x : Op) : Option Bool :=
  bif (x.2.2.2.1 == 1) then ((bif (stamp_Place x.2.2.2.2.2.1) then (((key_Is x.2.2.2.2.2.2.1)).bind fun x1 =>
        bif x1 then (bif (x.2.2.2.2.2.2.2.1 == 0) then some (x.2.2.2.2.2.2.2.2 == 0) else
          some false) else
        some false) else
      some false).bind fun x1 =>
    some x1) else
  bif (x.2.2.2.1 == 2) then ((((prop_May x.2.2.2.2.2.2.2)).bind fun x1 =>
      bif x1 then (bif ((x.2.2.2.2.2.1.1 == (stamp_Root ()).1) && (x.2.2.2.2.2.1.2 == (stamp_Root ()).2)) then some ((ByteArray.toList x.2.2.2.2.2.2.1) == (ByteArray.toList (ByteArray.mk ([]).toArray))) else
        some false) else
      some false : Option Bool).bind fun x1 =>
    some x1) else
  some false
noncomputable def op_May (x : Op) : Option Bool :=
  (bif (Bool.not (stamp_Is x.1)) then some true else
    ((have_Is x.2.2.1)).bind fun x1 =>
    bif (Bool.not x1) then some true else
    bif (decide ((((List.length x.2.2.1) : Int) ≤ x.1.2))) then some true else
    some (Bool.not (stamp_Is x.2.2.2.2.1))).bind fun x1 =>
  bif x1 then some false else
  (((getI x.2.2.1 x.1.2)).bind fun x2 =>
    bif (x.2.1 == (IntKind.wrap .i64 (x2 + 1))) then (bif (decide ((x.2.1 ≤ 1099511627776))) then (((op_kind x)).bind fun x3 =>
        some x3) else
      some false) else
    some false).bind fun x2 =>
  some x2
noncomputable def have_Over (x : (List Int) × List Int) : Option Bool :=
  (iter (σ := ((List Int) × taker_arrasref10)) (ρ := (Unit ⊕ Bool)) (fun s =>
      bif (decide ((s.2.2.2 < s.2.2.1))) then (((getI s.2.1 s.2.2.2)).bind fun x1 =>
        ((getI s.1 s.2.2.2)).bind fun x2 =>
        bif (decide ((x2 < x1))) then some (.inr (.inr false)) else
        some (.inl (s.1, (s.2.1, (s.2.2.1, (IntKind.wrap .i64 (s.2.2.2 + 1))))))) else
      some (.inr (.inl ()))) (x.1, (x.2, (((List.length x.1) : Int), (0 : Int))))).bind fun x1 =>
  (match x1 with
  | .inl y => some true
  | .inr y => some y)
noncomputable def hold_IsReady (x : (List Int) × Op) : Option Bool :=
  (((getI x.1 x.2.1.2)).bind fun x1 =>
    bif (x1 == (IntKind.wrap .i64 (x.2.2.1 - 1))) then (((have_Over (x.1, x.2.2.2.1))).bind fun x2 =>
      some x2) else
    some false).bind fun x1 =>
  some x1
noncomputable def hold_fits (x : (List Int) × Op) : Option Bool :=
  (((op_May x.2)).bind fun x1 =>
    bif x1 then some (((List.length x.2.2.2.1) : Int) == ((List.length x.1) : Int)) else
    some false).bind fun x1 =>
  some x1
noncomputable def op_Less (x : Op × Op) : Option Bool :=
  ((stamp_Cmp (x.1.1, x.2.1))).bind fun x1 =>
  some (decide ((x1 < 0)))
noncomputable def hold_twin (x : Op × Op) : Bool :=
  (bif (x.1.1.2 == x.2.1.2) then (x.1.2.1 == x.2.2.1) else false)
noncomputable def hold_May_1 (x : Op × Op) : Bool :=
  (hold_twin x)
noncomputable def slices_IndexFunc_Op (x : (List Op) × Op) : Option Int :=
  (iter (σ := ((List Op) × (Op × (Int × Int)))) (ρ := (Unit ⊕ Int)) (fun s =>
      bif (decide ((s.2.2.2 < s.2.2.1))) then (((getI s.1 s.2.2.2)).bind fun x1 =>
        bif (hold_May_1 (x1, s.2.1)) then some (.inr (.inr s.2.2.2)) else
        some (.inl (s.1, (s.2.1, (s.2.2.1, (IntKind.wrap .i64 (s.2.2.2 + 1))))))) else
      some (.inr (.inl ()))) (x.1, (x.2, (((List.length x.1) : Int), (0 : Int))))).bind fun x1 =>
  (match x1 with
  | .inl y => some ((-1) : Int)
  | .inr y => some y)
noncomputable def slices_ContainsFunc_Op (x : (List Op) × Op) : Option Bool :=
  ((slices_IndexFunc_Op x)).bind fun x1 =>
  some (decide ((0 ≤ x1)))
noncomputable def hold_May (x : (List Int) × List Op) : Option Bool :=
  (iter (σ := ((List Int) × ((List Op) × (Int × Op)))) (ρ := (Op ⊕ Bool)) (fun s =>
      bif (s.2.2.1 == ((List.length s.2.1) : Int)) then some (.inr (.inr (decide ((s.2.2.1 ≤ 16))))) else
      ((getI s.2.1 s.2.2.1)).bind fun x1 =>
      (((hold_fits (s.1, x1))).bind fun x2 =>
        bif (Bool.not x2) then some true else
        ((getI s.1 x1.1.2)).bind fun x3 =>
        bif (decide ((x1.2.1 ≤ x3))) then some true else
        ((hold_IsReady (s.1, x1))).bind fun x4 =>
        bif x4 then some true else
        bif (decide ((0 < s.2.2.1))) then (((getI s.2.1 (IntKind.wrap .i64 (s.2.2.1 - 1)))).bind fun x5 =>
          ((op_Less (x5, x1))).bind fun x6 =>
          some (Bool.not x6)) else
        some false).bind fun x2 =>
      bif x2 then some (.inr (.inl x1)) else
      bif ((decide ((0 ≤ s.2.2.1))) && (decide ((s.2.2.1 ≤ ((List.length s.2.1) : Int))))) then (((slices_ContainsFunc_Op ((List.take (Int.toNat s.2.2.1) s.2.1), x1))).bind fun x3 =>
        bif (Bool.not x3) then some (.inl (s.1, (s.2.1, ((IntKind.wrap .i64 (s.2.2.1 + 1)), x1)))) else
        some (.inr (.inr false))) else
      none) (x.1, (x.2, ((0 : Int), (((0 : Int), (0 : Int)), (0 : Int), [], (0 : Int), ((0 : Int), (0 : Int)), ((0 : Int), (0 : Int)), (ByteArray.mk ([]).toArray), (0 : Int), (0 : Int)))))).bind fun x1 =>
  (match x1 with
  | .inl y => some false
  | .inr y => some y)
end Go.Dv
