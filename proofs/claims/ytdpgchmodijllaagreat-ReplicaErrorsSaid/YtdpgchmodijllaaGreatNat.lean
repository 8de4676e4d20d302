/- The functions that the laws reach, each over lists, numbers and pairs: printed by a tool out of the told code (seat.py), joined to the code in the text Code. -/
import Derived.Test.YtdpgchmodijllaaGreatDvI
set_option linter.unusedVariables false
set_option linter.unusedSimpArgs false
set_option maxRecDepth 100000
open Go (IntKind)
namespace Go.Dv
abbrev sI : Sh := .int .i64
abbrev sStamp : Sh := (.pair sI sI)
abbrev Stamp : Type := Int × Int
abbrev Op : Type := Stamp × Int × (List Int) × Int × Stamp × Stamp × ByteArray × Stamp
abbrev sNode : Sh := (.pair sStamp (.pair sStamp .str))
abbrev Node : Type := Stamp × Stamp × ByteArray
abbrev Reg : Type := Int × Int × Stamp
abbrev Frame : Type := Int × Int × Int × (List Int) × List Op
abbrev taker_arrasref10 : Type := (List Int) × Stamp
abbrev Item : Type := Int × Reg
noncomputable def cmp_Or_int (x : List Int) : Option Int :=
  (iter (σ := (Int × taker_arrasref10)) (ρ := (Int ⊕ Int)) (fun s =>
      bif (decide ((s.2.2.2 < s.2.2.1))) then (((getI s.2.1 s.2.2.2)).bind fun x1 =>
        bif (x1 != s.1) then some (.inr (.inr x1)) else
        some (.inl (s.1, (s.2.1, (s.2.2.1, (IntKind.wrap .i64 (s.2.2.2 + 1))))))) else
      some (.inr (.inl s.1))) ((0 : Int), (x, (((List.length x) : Int), (0 : Int))))).bind fun x1 =>
  (match x1 with
  | .inl y => some y
  | .inr y => some y)
noncomputable def cmp_isNaN_int (x : Int) : Bool :=
  (x != x)
noncomputable def cmp_Compare_int (x : Int × Int) : Int :=
  bif (cmp_isNaN_int x.1) then (bif (cmp_isNaN_int x.2) then (0 : Int) else
    ((-1) : Int)) else
  bif (cmp_isNaN_int x.2) then (1 : Int) else
  bif (decide ((x.1 < x.2))) then ((-1) : Int) else
  bif (decide ((x.2 < x.1))) then (1 : Int) else
  (0 : Int)
noncomputable def stamp_Cmp (x : Stamp × Stamp) : Option Int :=
  ((cmp_Or_int [(cmp_Compare_int (x.1.1, x.2.1)), (cmp_Compare_int (x.1.2, x.2.2))])).bind fun x1 =>
  some x1
noncomputable def strings_Compare (x : ByteArray × ByteArray) : Int :=
  (cmpStr x.1 x.2)
noncomputable def tree_Children_1 (x : Node × Node) : Option Int :=
  ((stamp_Cmp (x.1.1, x.2.1))).bind fun x1 =>
  ((cmp_Or_int [(strings_Compare (x.1.2.2, x.2.2.2)), x1])).bind fun x2 =>
  some x2
noncomputable def cf_slices_SortFunc_Node (x y : El sNode) : Int := (tree_Children_1 (x, y)).getD 0
end Go.Dv
