/- What the code comes to: each function of the seat, by the engine. Printed by a tool (seat.py). -/
import Derived.Test.YtmphmiddiofejaaGreatProg
import Derived.Test.YtmphmiddiofejaaGreatDvI
import Derived.Test.YtmphmiddiofejaaGreatNat
import Derived.Test.YtmphmiddiofejaaGreatTrA
set_option linter.unusedVariables false
set_option linter.unusedSimpArgs false
set_option maxRecDepth 100000
open Go (IntKind)
namespace Go.Dv
abbrev polS : Pol := ⟨(List.range 2000).filter (fun f => !([27,28,35,39,45,46,53,57,64,67,68,78,88,92] : List Nat).contains f), fun _ => []⟩
noncomputable abbrev tb0 : Table := ⟨funOf Go.Proofs.Tryz.prog polS, fun f => List.lookup f [(100, cmpPrim)]⟩
noncomputable abbrev tbS : Table := ⟨funOf Go.Proofs.Tryz.prog polS, fun f => List.lookup f [(78, cutPrim tb0 78), (80, sortPrim sNode cf_slices_SortFunc_Node 81), (88, insPrim 5 48), (100, cmpPrim)]⟩
noncomputable def S_67 : Spec := cloneS 17 168
noncomputable def S_68 : Spec := cloneS 5 48
noncomputable def S_78 : Spec := deleteS 5 48
noncomputable def S_80 : Spec := specI 5 sNode [.fn 81 []] slices_SortFunc_Node
noncomputable def S_88 : Spec := insertS 5 48
noncomputable def S_92 : Spec := cloneS 1 8
noncomputable def S_100 : Spec := cmpStrS
abbrev ti_82 : Tm := ⟨[(0, .one (.kd (.val (.list sI))))], []⟩
abbrev to_82 : Tm := ⟨[(0, .one (.kd (.val sI)))], []⟩
def an_82 : List (Nat × Ann) := [(57, .loop ⟨[(3, .one (.kd (.val sI))), (6, .one (.kd (.val (.list sI)))), (7, .one (.kd (.val sI))), (8, .one (.kd (.val sI)))], []⟩ [(.exit 0, ⟨[(3, .one (.kd (.val sI)))], []⟩), (.ret, ⟨[(2, .one (.kd (.val sI)))], []⟩)])]
noncomputable def S_82 : Spec := specO ti_82.gs (kinds to_82.gs) cmp_Or_int
abbrev ti_83 : Tm := ⟨[(0, .one (.kd (.val .str))), (1, .one (.kd (.val .str)))], []⟩
abbrev to_83 : Tm := ⟨[(0, .one (.kd (.val sI)))], []⟩
def an_83 : List (Nat × Ann) := []
noncomputable def S_83 : Spec := specT ti_83.gs (kinds to_83.gs) strings_Compare
abbrev ti_119 : Tm := ⟨[(0, .one (.kd (.val sI)))], []⟩
abbrev to_119 : Tm := ⟨[(0, .one (.kd (.val .bool)))], []⟩
def an_119 : List (Nat × Ann) := []
noncomputable def S_119 : Spec := specT ti_119.gs (kinds to_119.gs) cmp_isNaN_int
abbrev ti_101 : Tm := ⟨[(0, .one (.kd (.val sI))), (1, .one (.kd (.val sI)))], []⟩
abbrev to_101 : Tm := ⟨[(0, .one (.kd (.val sI)))], []⟩
def an_101 : List (Nat × Ann) := []
noncomputable def S_101 : Spec := specT ti_101.gs (kinds to_101.gs) cmp_Compare_int
abbrev ti_84 : Tm := ⟨[(0, .one (.kd (.val sStamp))), (1, .one (.kd (.val sStamp)))], []⟩
abbrev to_84 : Tm := ⟨[(0, .one (.kd (.val sI)))], []⟩
def an_84 : List (Nat × Ann) := []
noncomputable def S_84 : Spec := specO ti_84.gs (kinds to_84.gs) stamp_Cmp
abbrev ti_81 : Tm := ⟨[(0, .one (.kd (.val sNode))), (1, .one (.kd (.val sNode)))], []⟩
abbrev to_81 : Tm := ⟨[(0, .one (.kd (.val sI)))], []⟩
def an_81 : List (Nat × Ann) := []
noncomputable def S_81 : Spec := specO ti_81.gs (kinds to_81.gs) tree_Children_1
abbrev ti_97 : Tm := ⟨[(0, .one (.kd (.val sNode))), (1, .one (.kd (.val sStamp)))], []⟩
abbrev to_97 : Tm := ⟨[(0, .one (.kd (.val sI)))], []⟩
def an_97 : List (Nat × Ann) := []
noncomputable def S_97 : Spec := specO ti_97.gs (kinds to_97.gs) tree_find_1
abbrev ti_96 : Tm := ⟨[(0, .one (.kd (.val (.list sNode)))), (1, .one (.kd (.val sStamp))), (2, .one (.fix (.fn 97 [])))], []⟩
abbrev to_96 : Tm := ⟨[(0, .one (.kd (.val sI))), (1, .one (.kd (.val .bool)))], []⟩
def an_96 : List (Nat × Ann) := [(59, .loop ⟨[(0, .one (.kd (.val (.list sNode)))), (2, .one (.fix (.fn 97 []))), (4, .one (.fix (.ptr 0 0))), (8, .one (.kd (.val sI))), (9, .one (.kd (.val sI))), (10, .one (.kd (.val sI)))], [[.kd (.val sStamp)]]⟩ [(.exit 0, ⟨[(0, .one (.kd (.val (.list sNode)))), (2, .one (.fix (.fn 97 []))), (4, .one (.fix (.ptr 0 0))), (8, .one (.kd (.val sI))), (9, .one (.kd (.val sI)))], [[.kd (.val sStamp)]]⟩)]), (61, .join [(6, sI), (7, .bool)])]
noncomputable def S_96 : Spec := specO ti_96.gs (kinds to_96.gs) slices_BinarySearchFunc_Node_Stamp
abbrev ti_77 : Tm := ⟨[(0, .one (.kd (.val (.list sNode)))), (1, .one (.kd (.val sStamp)))], []⟩
abbrev to_77 : Tm := ⟨[(0, .one (.kd (.val sI))), (1, .one (.kd (.val .bool)))], []⟩
def an_77 : List (Nat × Ann) := []
noncomputable def S_77 : Spec := specO ti_77.gs (kinds to_77.gs) tree_find
abbrev ti_60 : Tm := ⟨[(0, .one (.kd (.val sOp)))], []⟩
abbrev to_60 : Tm := ⟨[(0, .one (.kd (.val sI)))], []⟩
def an_60 : List (Nat × Ann) := []
noncomputable def S_60 : Spec := specT ti_60.gs (kinds to_60.gs) arraslaw0_OpWeight
abbrev ti_37 : Tm := ⟨[(0, .one (.kd (.val sTree)))], []⟩
abbrev to_37 : Tm := ⟨[(0, .one (.kd (.val sI)))], []⟩
def an_37 : List (Nat × Ann) := [(57, .loop ⟨[(1, .one (.fix (.ptr 0 0))), (3, .one (.kd (.val sI))), (4, .one (.kd (.val sI)))], [[.kd (.val sTree)]]⟩ [(.exit 0, ⟨[(1, .one (.fix (.ptr 0 0))), (3, .one (.kd (.val sI)))], [[.kd (.val sTree)]]⟩)]), (121, .loop ⟨[(1, .one (.fix (.ptr 0 0))), (3, .one (.kd (.val sI))), (5, .one (.kd (.val sI)))], [[.kd (.val sTree)]]⟩ [(.exit 2, ⟨[(3, .one (.kd (.val sI)))], [[.kd (.val sTree)]]⟩)]), (463, .join [(21, .bool)]), (975, .join [(41, .bool)])]
noncomputable def S_37 : Spec := specO ti_37.gs (kinds to_37.gs) arraslaw0_TreeWeight
abbrev ti_38 : Tm := ⟨[(0, .one (.kd (.val (.list sOp))))], []⟩
abbrev to_38 : Tm := ⟨[(0, .one (.kd (.val sI)))], []⟩
def an_38 : List (Nat × Ann) := [(57, .loop ⟨[(0, .one (.kd (.val (.list sOp)))), (3, .one (.kd (.val sI))), (4, .one (.kd (.val sI)))], []⟩ [(.exit 0, ⟨[(3, .one (.kd (.val sI)))], []⟩)]), (463, .join [(14, .bool)])]
noncomputable def S_38 : Spec := specO ti_38.gs (kinds to_38.gs) arraslaw0_OpsWeight
abbrev ti_10 : Tm := ⟨[(0, .one (.kd (.val sScript_arraslaw16)))], []⟩
abbrev to_10 : Tm := ⟨[(0, .one (.kd (.val .bool)))], []⟩
def an_10 : List (Nat × Ann) := [(5, .join [(2, .bool)])]
noncomputable def S_10 : Spec := specO ti_10.gs (kinds to_10.gs) arraslaw16_heavy
abbrev ti_47 : Tm := ⟨[(0, .one (.kd (.val (.list sNode)))), (1, .one (.kd (.val (.list sNode))))], []⟩
abbrev to_47 : Tm := ⟨[(0, .one (.kd (.val .bool)))], []⟩
def an_47 : List (Nat × Ann) := [(57, .loop ⟨[(0, .one (.kd (.val (.list sNode)))), (1, .one (.kd (.val (.list sNode)))), (5, .one (.kd (.val sI)))], []⟩ [(.exit 0, ⟨[], []⟩), (.ret, ⟨[(4, .one (.kd (.val .bool)))], []⟩)])]
noncomputable def S_47 : Spec := specO ti_47.gs (kinds to_47.gs) arrasref0_EqNodes
abbrev ti_49 : Tm := ⟨[(0, .one (.kd (.val (.list sI)))), (1, .one (.kd (.val (.list sI))))], []⟩
abbrev to_49 : Tm := ⟨[(0, .one (.kd (.val .bool)))], []⟩
def an_49 : List (Nat × Ann) := [(57, .loop ⟨[(0, .one (.kd (.val (.list sI)))), (1, .one (.kd (.val (.list sI)))), (5, .one (.kd (.val sI)))], []⟩ [(.exit 0, ⟨[], []⟩), (.ret, ⟨[(4, .one (.kd (.val .bool)))], []⟩)])]
noncomputable def S_49 : Spec := specO ti_49.gs (kinds to_49.gs) arrasref0_EqNumbers
abbrev ti_18 : Tm := ⟨[(0, .one (.kd (.val sOp))), (1, .one (.kd (.val sOp)))], []⟩
abbrev to_18 : Tm := ⟨[(0, .one (.kd (.val .bool)))], []⟩
def an_18 : List (Nat × Ann) := [(5, .join [(4, .bool)])]
noncomputable def S_18 : Spec := specO ti_18.gs (kinds to_18.gs) arrasref0_EqOp
abbrev ti_70 : Tm := ⟨[(0, .one (.kd (.val sEntry))), (1, .one (.kd (.val sEntry)))], []⟩
abbrev to_70 : Tm := ⟨[(0, .one (.kd (.val .bool)))], []⟩
def an_70 : List (Nat × Ann) := [(5, .join [(4, .bool)])]
noncomputable def S_70 : Spec := specO ti_70.gs (kinds to_70.gs) arrasref0_EqEntry
abbrev ti_48 : Tm := ⟨[(0, .one (.kd (.val (.list sEntry)))), (1, .one (.kd (.val (.list sEntry))))], []⟩
abbrev to_48 : Tm := ⟨[(0, .one (.kd (.val .bool)))], []⟩
def an_48 : List (Nat × Ann) := [(57, .loop ⟨[(0, .one (.kd (.val (.list sEntry)))), (1, .one (.kd (.val (.list sEntry)))), (5, .one (.kd (.val sI)))], []⟩ [(.exit 0, ⟨[], []⟩), (.ret, ⟨[(4, .one (.kd (.val .bool)))], []⟩)])]
noncomputable def S_48 : Spec := specO ti_48.gs (kinds to_48.gs) arrasref0_EqMoves
abbrev ti_17 : Tm := ⟨[(0, .one (.kd (.val sTree))), (1, .one (.kd (.val sTree)))], []⟩
abbrev to_17 : Tm := ⟨[(0, .one (.kd (.val .bool)))], []⟩
def an_17 : List (Nat × Ann) := [(5, .join [(4, .bool)])]
noncomputable def S_17 : Spec := specO ti_17.gs (kinds to_17.gs) arrasref0_EqTree
abbrev ti_93 : Tm := ⟨[(0, .one (.kd (.val sI))), (1, .one (.kd (.val sI)))], []⟩
abbrev to_93 : Tm := ⟨[(0, .one (.kd (.val .bool)))], []⟩
def an_93 : List (Nat × Ann) := [(5, .join [(4, .bool)])]
noncomputable def S_93 : Spec := specT ti_93.gs (kinds to_93.gs) arrasref0_Num
abbrev ti_71 : Tm := ⟨[(0, .one (.kd (.val sStamp)))], []⟩
abbrev to_71 : Tm := ⟨[(0, .one (.kd (.val .bool)))], []⟩
def an_71 : List (Nat × Ann) := [(5, .join [(2, .bool)])]
noncomputable def S_71 : Spec := specT ti_71.gs (kinds to_71.gs) arrasref6_Stamp
abbrev ti_72 : Tm := ⟨[(0, .one (.kd (.val (.list sI))))], []⟩
abbrev to_72 : Tm := ⟨[(0, .one (.kd (.val .bool)))], []⟩
def an_72 : List (Nat × Ann) := [(13, .join [(2, .bool)]), (25, .loop ⟨[(0, .one (.kd (.val (.list sI)))), (3, .one (.kd (.val sI)))], []⟩ [(.exit 0, ⟨[(0, .one (.kd (.val (.list sI))))], []⟩), (.ret, ⟨[(2, .one (.kd (.val .bool)))], []⟩)])]
noncomputable def S_72 : Spec := specO ti_72.gs (kinds to_72.gs) arrasref6_Vector
abbrev ti_59 : Tm := ⟨[], []⟩
abbrev to_59 : Tm := ⟨[(0, .one (.kd (.val sStamp)))], []⟩
def an_59 : List (Nat × Ann) := []
noncomputable def S_59 : Spec := specT ti_59.gs (kinds to_59.gs) arrasref6_Root
abbrev ti_94 : Tm := ⟨[], []⟩
abbrev to_94 : Tm := ⟨[(0, .one (.kd (.val sStamp)))], []⟩
def an_94 : List (Nat × Ann) := []
noncomputable def S_94 : Spec := specT ti_94.gs (kinds to_94.gs) arrasref6_Trash
abbrev ti_73 : Tm := ⟨[(0, .one (.kd (.val sStamp)))], []⟩
abbrev to_73 : Tm := ⟨[(0, .one (.kd (.val .bool)))], []⟩
def an_73 : List (Nat × Ann) := [(5, .join [(2, .bool)])]
noncomputable def S_73 : Spec := specT ti_73.gs (kinds to_73.gs) arrasref6_Place
abbrev ti_74 : Tm := ⟨[(0, .one (.kd (.val .str)))], []⟩
abbrev to_74 : Tm := ⟨[(0, .one (.kd (.val .bool)))], []⟩
def an_74 : List (Nat × Ann) := [(5, .join [(2, .bool)])]
noncomputable def S_74 : Spec := specO ti_74.gs (kinds to_74.gs) arrasref8_Key
abbrev ti_95 : Tm := ⟨[(0, .one (.kd (.val sI)))], []⟩
abbrev to_95 : Tm := ⟨[(0, .one (.kd (.val sI))), (1, .one (.kd (.val sI))), (2, .one (.kd (.val sI))), (3, .one (.kd (.val .bool)))], []⟩
def an_95 : List (Nat × Ann) := [(428, .cut [(.normal, ⟨[(6, .one (.kd (.val sI))), (9, .one (.kd (.val .bool)))], []⟩)]), (1724, .cut [(.normal, ⟨[(6, .one (.kd (.val sI))), (12, .one (.kd (.val .bool)))], []⟩)]), (6902, .cut [(.normal, ⟨[(6, .one (.kd (.val sI))), (12, .one (.kd (.val .bool)))], []⟩)]), (6908, .cut [(.normal, ⟨[(6, .one (.kd (.val sI))), (18, .one (.kd (.val .bool)))], []⟩)]), (27614, .cut [(.normal, ⟨[(6, .one (.kd (.val sI))), (12, .one (.kd (.val .bool)))], []⟩)]), (110462, .cut [(.normal, ⟨[(6, .one (.kd (.val sI))), (12, .one (.kd (.val .bool)))], []⟩)]), (442364, .cut [(.normal, ⟨[(6, .one (.kd (.val sI))), (25, .one (.kd (.val .bool)))], []⟩)]), (1769462, .cut [(.normal, ⟨[(6, .one (.kd (.val sI))), (25, .one (.kd (.val .bool)))], []⟩)])]
noncomputable def S_95 : Spec := specO ti_95.gs (kinds to_95.gs) arrasref8_value
abbrev ti_75 : Tm := ⟨[(0, .one (.kd (.val sI))), (1, .one (.kd (.val sI)))], []⟩
abbrev to_75 : Tm := ⟨[(0, .one (.kd (.val sI)))], []⟩
def an_75 : List (Nat × Ann) := [(59, .join [(25, .bool)])]
noncomputable def S_75 : Spec := specO ti_75.gs (kinds to_75.gs) arrasref8_Check
abbrev ti_50 : Tm := ⟨[(0, .one (.kd (.val sOp)))], []⟩
abbrev to_50 : Tm := ⟨[(0, .one (.kd (.val .bool)))], []⟩
def an_50 : List (Nat × Ann) := [(11, .join [(51, .bool)]), (1961, .join [(2, .bool)]), (7865, .join [(2, .bool)])]
noncomputable def S_50 : Spec := specO ti_50.gs (kinds to_50.gs) arrasref10_Op
abbrev ti_19 : Tm := ⟨[(0, .one (.kd (.val sOp)))], []⟩
abbrev to_19 : Tm := ⟨[(0, .one (.kd (.val .bool)))], []⟩
def an_19 : List (Nat × Ann) := [(5, .join [(2, .bool)])]
noncomputable def S_19 : Spec := specO ti_19.gs (kinds to_19.gs) arrasref16_Move
abbrev ti_24 : Tm := ⟨[(0, .one (.kd (.val sTree)))], []⟩
abbrev to_24 : Tm := ⟨[(0, .one (.kd (.val (.list sOp))))], []⟩
def an_24 : List (Nat × Ann) := [(57, .loop ⟨[(1, .one (.fix (.ptr 0 0))), (3, .one (.kd (.own false 12 sOp))), (4, .one (.kd (.val sI)))], [[.kd (.val sTree)]]⟩ [(.exit 0, ⟨[(3, .one (.kd (.own false 12 sOp)))], [[.kd (.val sTree)]]⟩)])]
noncomputable def S_24 : Spec := specO ti_24.gs (kinds to_24.gs) arrasref16_Moves
abbrev ti_43 : Tm := ⟨[(0, .one (.kd (.val (.list sI))))], []⟩
abbrev to_43 : Tm := ⟨[(0, .one (.kd (.val (.list sI))))], []⟩
def an_43 : List (Nat × Ann) := [(57, .loop ⟨[(0, .one (.kd (.val (.list sI)))), (3, .one (.kd (.own false 1 sI))), (4, .one (.kd (.val sI)))], []⟩ [(.exit 0, ⟨[(3, .one (.kd (.own false 1 sI)))], []⟩)])]
noncomputable def S_43 : Spec := specO ti_43.gs (kinds to_43.gs) arrasref0_CopyNumbers
abbrev ti_15 : Tm := ⟨[(0, .one (.kd (.val sOp)))], []⟩
abbrev to_15 : Tm := ⟨[(0, .one (.kd (.val sOp)))], []⟩
def an_15 : List (Nat × Ann) := []
noncomputable def S_15 : Spec := specO ti_15.gs (kinds to_15.gs) arrasref0_CopyOp
abbrev ti_30 : Tm := ⟨[(0, .one (.kd (.val (.list sNode)))), (1, .one (.kd (.val sStamp)))], []⟩
abbrev to_30 : Tm := ⟨[(0, .one (.kd (.val sI)))], []⟩
def an_30 : List (Nat × Ann) := [(25, .loop ⟨[(0, .one (.kd (.val (.list sNode)))), (3, .one (.fix (.ptr 0 0))), (5, .one (.kd (.val sI)))], [[.kd (.val sStamp)]]⟩ [(.exit 0, ⟨[], [[.kd (.val sStamp)]]⟩), (.ret, ⟨[(4, .one (.kd (.val sI)))], []⟩)])]
noncomputable def S_30 : Spec := specO ti_30.gs (kinds to_30.gs) arrasref16_Find
abbrev ti_39 : Tm := ⟨[(0, .one (.kd (.view true (.list sNode))))], []⟩
abbrev to_39 : Tm := ⟨[(0, .one (.kd (.own false 5 sNode)))], []⟩
def an_39 : List (Nat × Ann) := [(57, .loop ⟨[(0, .one (.kd (.view true (.list sNode)))), (3, .one (.kd (.own false 5 sNode))), (4, .one (.kd (.val sI)))], []⟩ [(.exit 0, ⟨[(3, .one (.kd (.own false 5 sNode)))], []⟩)])]
noncomputable def S_39 : Spec := specK ti_39 to_39 arrasref0_CopyNodes
abbrev ti_41 : Tm := ⟨[(0, .one (.kd (.val sStamp))), (1, .one (.kd (.val sStamp)))], []⟩
abbrev to_41 : Tm := ⟨[(0, .one (.kd (.val sI)))], []⟩
def an_41 : List (Nat × Ann) := [(11, .join [(23, .bool)])]
noncomputable def S_41 : Spec := specT ti_41.gs (kinds to_41.gs) arrasref6_Cmp
abbrev ti_79 : Tm := ⟨[(0, .one (.kd (.val (.list sNode)))), (1, .one (.kd (.val sStamp))), (2, .one (.kd (.val sStamp)))], []⟩
abbrev to_79 : Tm := ⟨[(0, .one (.kd (.val .bool)))], []⟩
def an_79 : List (Nat × Ann) := [(25, .loop ⟨[(0, .one (.kd (.val (.list sNode)))), (4, .one (.fix (.ptr 0 0))), (5, .one (.fix (.ptr 1 0))), (7, .one (.kd (.val sI)))], [[.kd (.val sStamp)], [.kd (.val sStamp)]]⟩ [(.exit 0, ⟨[], [[.kd (.val sStamp)], [.kd (.val sStamp)]]⟩), (.ret, ⟨[(6, .one (.kd (.val .bool)))], []⟩)])]
noncomputable def S_79 : Spec := specO ti_79.gs (kinds to_79.gs) arrasref16_over
abbrev ti_54 : Tm := ⟨[(0, .one (.kd (.val (.list sNode)))), (1, .one (.kd (.val sOp)))], []⟩
abbrev to_54 : Tm := ⟨[(0, .one (.kd (.val (.list sNode)))), (1, .one (.kd (.val sEntry)))], []⟩
def an_54 : List (Nat × Ann) := [(60, .cut [(.normal, ⟨[(0, .one (.kd (.val (.list sNode)))), (3, .one (.fix (.ptr 0 0))), (5, .one (.fix (.ptr 1 0))), (6, .one (.fix (.ptr 2 0))), (7, .one (.kd (.val sI)))], [[.kd (.val sOp)], [.kd (.val sEntry)], [.kd (.val sEntry)]]⟩)]), (8185, .loop ⟨[(0, .one (.kd (.val (.list sNode)))), (3, .one (.fix (.ptr 0 0))), (5, .one (.fix (.ptr 1 0))), (6, .one (.fix (.ptr 2 0))), (8, .one (.fix (.ptr 3 0))), (10, .one (.kd (.own false 5 sNode))), (11, .one (.kd (.val .bool))), (12, .one (.kd (.val sI)))], [[.kd (.val sOp)], [.kd (.val sEntry)], [.kd (.val sEntry)], [.kd (.val sNode)]]⟩ [(.exit 0, ⟨[(5, .one (.fix (.ptr 1 0))), (6, .one (.fix (.ptr 2 0))), (8, .one (.fix (.ptr 3 0))), (10, .one (.kd (.own false 5 sNode))), (11, .one (.kd (.val .bool)))], [[.kd (.val sOp)], [.kd (.val sEntry)], [.kd (.val sEntry)], [.kd (.val sNode)]]⟩)]), (523919, .join [(79, .bool)])]
noncomputable def S_54 : Spec := specO ti_54.gs (kinds to_54.gs) arrasref16_done
abbrev ti_25 : Tm := ⟨[(0, .one (.kd (.val (.list sOp))))], []⟩
abbrev to_25 : Tm := ⟨[(0, .one (.kd (.val sTree)))], []⟩
def an_25 : List (Nat × Ann) := [(57, .loop ⟨[(0, .one (.kd (.val (.list sOp)))), (2, .one (.fix (.ptr 0 0))), (3, .one (.fix (.ptr 1 0))), (4, .one (.kd (.val sI)))], [[.fix (.nil), .fix (.nil)], [.kd (.val (.list sNode)), .kd (.own false 17 sEntry)]]⟩ [(.exit 0, ⟨[(2, .one (.fix (.ptr 0 0))), (3, .one (.fix (.ptr 1 0)))], [[.fix (.nil), .fix (.nil)], [.kd (.val (.list sNode)), .kd (.own false 17 sEntry)]]⟩)])]
noncomputable def S_25 : Spec := specO ti_25.gs (kinds to_25.gs) arrasref16_Made
abbrev ti_12 : Tm := ⟨[(0, .one (.kd (.val sTree)))], []⟩
abbrev to_12 : Tm := ⟨[(0, .one (.kd (.val .bool)))], []⟩
def an_12 : List (Nat × Ann) := [(57, .loop ⟨[(1, .one (.fix (.ptr 0 0))), (3, .one (.kd (.val (.list sOp)))), (4, .one (.kd (.val sI)))], [[.kd (.val sTree)]]⟩ [(.exit 0, ⟨[(1, .one (.fix (.ptr 0 0))), (3, .one (.kd (.val (.list sOp))))], [[.kd (.val sTree)]]⟩), (.ret, ⟨[(2, .one (.kd (.val .bool)))], []⟩)]), (1863, .join [(37, .bool)])]
noncomputable def S_12 : Spec := specO ti_12.gs (kinds to_12.gs) arrasref16_Tree
abbrev ti_13 : Tm := ⟨[(0, .one (.kd (.val sI)))], []⟩
abbrev to_13 : Tm := ⟨[(0, .one (.kd (.val sI)))], []⟩
def an_13 : List (Nat × Ann) := []
noncomputable def S_13 : Spec := specT ti_13.gs (kinds to_13.gs) arraslaw16_num
abbrev ti_89 : Tm := ⟨[(0, .one (.kd (.val sStamp)))], []⟩
abbrev to_89 : Tm := ⟨[(0, .one (.kd (.val .bool)))], []⟩
def an_89 : List (Nat × Ann) := [(5, .join [(2, .bool)])]
noncomputable def S_89 : Spec := specT ti_89.gs (kinds to_89.gs) stamp_Is
abbrev ti_90 : Tm := ⟨[(0, .one (.kd (.val (.list sI))))], []⟩
abbrev to_90 : Tm := ⟨[(0, .one (.kd (.val .bool)))], []⟩
def an_90 : List (Nat × Ann) := [(2, .lab 0 ⟨[(0, .one (.kd (.val (.list sI)))), (3, .one (.kd (.val sI)))], []⟩ [(.ret, ⟨[(2, .one (.kd (.val .bool)))], []⟩)]), (123, .join [(25, .bool)]), (243, .join [(2, .bool)])]
noncomputable def S_90 : Spec := specO ti_90.gs (kinds to_90.gs) have_Is
abbrev ti_85 : Tm := ⟨[], []⟩
abbrev to_85 : Tm := ⟨[(0, .one (.kd (.val sStamp)))], []⟩
def an_85 : List (Nat × Ann) := []
noncomputable def S_85 : Spec := specT ti_85.gs (kinds to_85.gs) stamp_Root
abbrev ti_121 : Tm := ⟨[], []⟩
abbrev to_121 : Tm := ⟨[(0, .one (.kd (.val sStamp)))], []⟩
def an_121 : List (Nat × Ann) := []
noncomputable def S_121 : Spec := specT ti_121.gs (kinds to_121.gs) stamp_Trash
abbrev ti_105 : Tm := ⟨[(0, .one (.kd (.val sStamp)))], []⟩
abbrev to_105 : Tm := ⟨[(0, .one (.kd (.val .bool)))], []⟩
def an_105 : List (Nat × Ann) := [(5, .join [(2, .bool)])]
noncomputable def S_105 : Spec := specT ti_105.gs (kinds to_105.gs) stamp_Place
abbrev ti_106 : Tm := ⟨[(0, .one (.kd (.val .str)))], []⟩
abbrev to_106 : Tm := ⟨[(0, .one (.kd (.val .bool)))], []⟩
def an_106 : List (Nat × Ann) := [(5, .join [(2, .bool)])]
noncomputable def S_106 : Spec := specO ti_106.gs (kinds to_106.gs) key_Is
abbrev ti_122 : Tm := ⟨[(0, .one (.kd (.val sI)))], []⟩
abbrev to_122 : Tm := ⟨[(0, .one (.kd (.val .bool)))], []⟩
def an_122 : List (Nat × Ann) := [(5, .join [(2, .bool)])]
noncomputable def S_122 : Spec := specT ti_122.gs (kinds to_122.gs) prop_Is
abbrev ti_123 : Tm := ⟨[(0, .one (.kd (.val sI)))], []⟩
abbrev to_123 : Tm := ⟨[(0, .one (.kd (.val srule_prop)))], []⟩
def an_123 : List (Nat × Ann) := [(428, .cut [(.normal, ⟨[(2, .one (.fix (.ptr 0 0))), (3, .one (.kd (.val sI))), (7, .one (.kd (.val .bool)))], [[.kd (.val srule_prop)]]⟩)]), (1724, .cut [(.normal, ⟨[(2, .one (.fix (.ptr 0 0))), (3, .one (.kd (.val sI))), (11, .one (.kd (.val .bool)))], [[.kd (.val srule_prop)]]⟩)]), (6902, .cut [(.normal, ⟨[(2, .one (.fix (.ptr 0 0))), (3, .one (.kd (.val sI))), (11, .one (.kd (.val .bool)))], [[.kd (.val srule_prop)]]⟩)]), (6908, .cut [(.normal, ⟨[(2, .one (.fix (.ptr 0 0))), (3, .one (.kd (.val sI))), (18, .one (.kd (.val .bool)))], [[.kd (.val srule_prop)]]⟩)]), (27614, .cut [(.normal, ⟨[(2, .one (.fix (.ptr 0 0))), (3, .one (.kd (.val sI))), (11, .one (.kd (.val .bool)))], [[.kd (.val srule_prop)]]⟩)]), (110462, .cut [(.normal, ⟨[(2, .one (.fix (.ptr 0 0))), (3, .one (.kd (.val sI))), (11, .one (.kd (.val .bool)))], [[.kd (.val srule_prop)]]⟩)])]
noncomputable def S_123 : Spec := specO ti_123.gs (kinds to_123.gs) prop_ruleOf
abbrev ti_107 : Tm := ⟨[(0, .one (.kd (.val sI))), (1, .one (.kd (.val sI)))], []⟩
abbrev to_107 : Tm := ⟨[(0, .one (.kd (.val .bool)))], []⟩
def an_107 : List (Nat × Ann) := [(5, .join [(4, .bool)])]
noncomputable def S_107 : Spec := specO ti_107.gs (kinds to_107.gs) prop_May
abbrev ti_91 : Tm := ⟨[(0, .one (.kd (.val sOp)))], []⟩
abbrev to_91 : Tm := ⟨[(0, .one (.kd (.val .bool)))], []⟩
def an_91 : List (Nat × Ann) := [(211, .join [(2, .bool)]), (859, .join [(2, .bool)])]
noncomputable def S_91 : Spec := specO ti_91.gs (kinds to_91.gs) op_kind
abbrev ti_66 : Tm := ⟨[(0, .one (.kd (.val sOp)))], []⟩
abbrev to_66 : Tm := ⟨[(0, .one (.kd (.val .bool)))], []⟩
def an_66 : List (Nat × Ann) := [(11, .join [(27, .bool)]), (13, .join [(2, .bool)])]
noncomputable def S_66 : Spec := specO ti_66.gs (kinds to_66.gs) op_May
abbrev ti_44 : Tm := ⟨[(0, .one (.kd (.val sOp)))], []⟩
abbrev to_44 : Tm := ⟨[(0, .one (.kd (.val .bool)))], []⟩
def an_44 : List (Nat × Ann) := [(5, .join [(2, .bool)])]
noncomputable def S_44 : Spec := specO ti_44.gs (kinds to_44.gs) tree_move
abbrev ti_62 : Tm := ⟨[(0, .one (.kd (.val sOp))), (1, .one (.kd (.val sOp)))], []⟩
abbrev to_62 : Tm := ⟨[(0, .one (.kd (.val .bool)))], []⟩
def an_62 : List (Nat × Ann) := []
noncomputable def S_62 : Spec := specO ti_62.gs (kinds to_62.gs) op_Less
abbrev ti_102 : Tm := ⟨[(0, .one (.kd (.val (.list sI)))), (1, .one (.kd (.val (.list sI))))], []⟩
abbrev to_102 : Tm := ⟨[(0, .one (.kd (.val .bool)))], []⟩
def an_102 : List (Nat × Ann) := [(57, .loop ⟨[(0, .one (.kd (.val (.list sI)))), (1, .one (.kd (.val (.list sI)))), (12, .one (.kd (.val sI))), (13, .one (.kd (.val sI)))], []⟩ [(.exit 0, ⟨[], []⟩), (.ret, ⟨[(4, .one (.kd (.val .bool)))], []⟩)])]
noncomputable def S_102 : Spec := specO ti_102.gs (kinds to_102.gs) slices_Equal_int
abbrev ti_86 : Tm := ⟨[(0, .one (.kd (.val sOp))), (1, .one (.kd (.val sOp)))], []⟩
abbrev to_86 : Tm := ⟨[(0, .one (.kd (.val .bool)))], []⟩
def an_86 : List (Nat × Ann) := [(5, .join [(4, .bool)])]
noncomputable def S_86 : Spec := specO ti_86.gs (kinds to_86.gs) op_Same
abbrev ti_63 : Tm := ⟨[(0, .one (.kd (.val sEntry))), (1, .one (.kd (.val sEntry)))], []⟩
abbrev to_63 : Tm := ⟨[(0, .one (.kd (.val .bool)))], []⟩
def an_63 : List (Nat × Ann) := [(5, .join [(4, .bool)])]
noncomputable def S_63 : Spec := specO ti_63.gs (kinds to_63.gs) tree_same
abbrev ti_69 : Tm := ⟨[(0, .one (.kd (.val sOp)))], []⟩
abbrev to_69 : Tm := ⟨[(0, .one (.kd (.val sOp)))], []⟩
def an_69 : List (Nat × Ann) := []
noncomputable def S_69 : Spec := specO ti_69.gs (kinds to_69.gs) op_Own
abbrev ti_87 : Tm := ⟨[(0, .one (.kd (.at_ (.list sNode)))), (1, .one (.kd (.val sStamp))), (2, .one (.kd (.val sStamp)))], []⟩
abbrev to_87 : Tm := ⟨[(0, .one (.kd (.val .bool)))], []⟩
def an_87 : List (Nat × Ann) := [(2, .lab 0 ⟨[(0, .one (.kd (.at_ (.list sNode)))), (4, .one (.fix (.ptr 0 0))), (5, .one (.fix (.ptr 1 0)))], [[.kd (.val sStamp)], [.kd (.val sStamp)]]⟩ [(.ret, ⟨[(6, .one (.kd (.val .bool)))], []⟩)])]
noncomputable def S_87 : Spec := specO ti_87.gs (kinds to_87.gs) tree_work_circle
abbrev ti_64 : Tm := ⟨[(0, .one (.fix (.ptr 0 0))), (1, .one (.kd (.val sOp)))], [[.kd (.own false 5 sNode)]]⟩
abbrev to_64 : Tm := ⟨[(0, .one (.kd (.val sEntry)))], [[.kd (.own false 5 sNode)]]⟩
def an_64 : List (Nat × Ann) := [(60, .cut [(.normal, ⟨[(0, .one (.fix (.ptr 0 0))), (3, .one (.fix (.ptr 1 0))), (4, .one (.fix (.ptr 2 0))), (5, .one (.fix (.ptr 3 0))), (6, .one (.kd (.val sI))), (7, .one (.kd (.val .bool)))], [[.kd (.own false 5 sNode)], [.kd (.val sOp)], [.kd (.val sEntry)], [.kd (.val sEntry)]]⟩)])]
noncomputable def S_64 : Spec := specK ti_64 to_64 tree_work_do
abbrev ti_65 : Tm := ⟨[(0, .one (.kd (.val (.list sNode)))), (1, .one (.kd (.val (.list sNode))))], []⟩
abbrev to_65 : Tm := ⟨[(0, .one (.kd (.val .bool)))], []⟩
def an_65 : List (Nat × Ann) := [(57, .loop ⟨[(0, .one (.kd (.val (.list sNode)))), (1, .one (.kd (.val (.list sNode)))), (12, .one (.kd (.val sI))), (13, .one (.kd (.val sI)))], []⟩ [(.exit 0, ⟨[], []⟩), (.ret, ⟨[(4, .one (.kd (.val .bool)))], []⟩)])]
noncomputable def S_65 : Spec := specO ti_65.gs (kinds to_65.gs) slices_Equal_Node
abbrev ti_42 : Tm := ⟨[(0, .one (.kd (.val sTree)))], []⟩
abbrev to_42 : Tm := ⟨[(0, .one (.kd (.val .bool)))], []⟩
def an_42 : List (Nat × Ann) := [(57, .loop ⟨[(1, .one (.fix (.ptr 0 0))), (3, .one (.fix (.ptr 1 0))), (9, .one (.kd (.val (.list sEntry)))), (10, .one (.kd (.val sI))), (11, .one (.kd (.val sI)))], [[.kd (.val sTree)], [.kd (.own false 5 sNode)]]⟩ [(.exit 0, ⟨[(1, .one (.fix (.ptr 0 0))), (3, .one (.fix (.ptr 1 0)))], [[.kd (.val sTree)], [.kd (.own false 5 sNode)]]⟩), (.ret, ⟨[(2, .one (.kd (.val .bool)))], []⟩)])]
noncomputable def S_42 : Spec := specO ti_42.gs (kinds to_42.gs) tree_May
abbrev ti_53 : Tm := ⟨[(0, .one (.fix (.ptr 0 0))), (1, .one (.kd (.val sEntry)))], [[.kd (.own false 5 sNode)]]⟩
abbrev to_53 : Tm := ⟨[], [[.kd (.own false 5 sNode)]]⟩
def an_53 : List (Nat × Ann) := []
noncomputable def S_53 : Spec := specK ti_53 to_53 tree_work_undo
abbrev ti_45 : Tm := ⟨[(0, .agg [.kd (.own false 5 sNode), .kd (.own false 17 sEntry)]), (1, .one (.kd (.val sOp)))], []⟩
abbrev to_45 : Tm := ⟨[(0, .agg [.kd (.own false 5 sNode), .kd (.own false 17 sEntry)]), (1, .one (.kd (.val sI)))], []⟩
def an_45 : List (Nat × Ann) := [(2, .lab 0 ⟨[(2, .one (.fix (.ptr 0 0))), (3, .one (.fix (.ptr 1 0))), (4, .one (.fix (.ptr 2 0))), (6, .one (.fix (.ptr 3 0))), (7, .one (.kd (.val sI)))], [[.fix (.undef), .kd (.own false 17 sEntry)], [.kd (.val sOp)], [.kd (.val sTree)], [.kd (.own false 5 sNode)]]⟩ [(.ret, ⟨[(4, .one (.fix (.ptr 2 0))), (5, .one (.kd (.val sI)))], [[.fix (.undef), .fix (.undef)], [.fix (.undef), .fix (.undef), .fix (.undef), .fix (.undef), .fix (.undef), .fix (.undef), .fix (.undef), .fix (.undef), .fix (.undef), .fix (.undef), .fix (.undef), .fix (.undef)], [.kd (.own false 5 sNode), .kd (.own false 17 sEntry)], [.fix (.undef)]]⟩)]), (59, .join [(32, .bool)]), (251, .join [(60, .bool)]), (2041, .loop ⟨[(4, .one (.fix (.ptr 2 0))), (6, .one (.fix (.ptr 3 0))), (10, .one (.kd (.own false 17 sEntry))), (85, .one (.kd (.view false (.list sEntry)))), (86, .one (.kd (.val sI))), (87, .one (.kd (.val sI)))], [[.fix (.undef), .kd (.view false (.list sEntry))], [.kd (.val sOp)], [.kd (.val sTree)], [.kd (.own false 5 sNode)]]⟩ [(.exit 2, ⟨[(4, .one (.fix (.ptr 2 0))), (6, .one (.fix (.ptr 3 0))), (10, .one (.kd (.own false 17 sEntry)))], [[.fix (.undef), .kd (.view false (.list sEntry))], [.kd (.val sOp)], [.kd (.val sTree)], [.kd (.own false 5 sNode)]]⟩)]), (4049, .loop ⟨[(4, .one (.fix (.ptr 2 0))), (6, .one (.fix (.ptr 3 0))), (8, .one (.kd (.view false (.list sEntry)))), (62, .one (.kd (.val sI))), (63, .one (.kd (.val sI)))], [[.fix (.undef), .kd (.view false (.list sEntry))], [.kd (.val sOp)], [.kd (.val sTree)], [.kd (.own false 5 sNode)]]⟩ [(.exit 0, ⟨[(4, .one (.fix (.ptr 2 0)))], [[.fix (.undef), .kd (.view false (.list sEntry))], [.kd (.val sOp)], [.kd (.val sTree)], [.kd (.own false 5 sNode)]]⟩)])]
noncomputable def S_45 : Spec := specK ti_45 to_45 tree_Put
abbrev ti_46 : Tm := ⟨[(0, .one (.kd (.val sTree)))], []⟩
abbrev to_46 : Tm := ⟨[(0, .agg [.kd (.own false 5 sNode), .kd (.own false 17 sEntry)])], []⟩
def an_46 : List (Nat × Ann) := [(57, .loop ⟨[(1, .one (.fix (.ptr 0 0))), (2, .one (.fix (.ptr 1 0))), (14, .one (.kd (.val sI))), (15, .one (.kd (.val sI)))], [[.kd (.own false 5 sNode), .kd (.own false 17 sEntry)], [.kd (.val sTree)]]⟩ [(.exit 0, ⟨[(1, .one (.fix (.ptr 0 0))), (2, .one (.fix (.ptr 1 0)))], [[.kd (.own false 5 sNode), .kd (.own false 17 sEntry)], [.kd (.val sTree)]]⟩)])]
noncomputable def S_46 : Spec := specK ti_46 to_46 tree_Own
abbrev ti_16 : Tm := ⟨[(0, .one (.kd (.val sTree))), (1, .one (.kd (.val sOp)))], []⟩
abbrev to_16 : Tm := ⟨[(0, .one (.kd (.val sTree))), (1, .one (.kd (.val sI)))], []⟩
def an_16 : List (Nat × Ann) := [(11, .join [(13, .bool)])]
noncomputable def S_16 : Spec := specO ti_16.gs (kinds to_16.gs) tree_Apply
abbrev ti_56 : Tm := ⟨[(0, .one (.kd (.val sTree))), (1, .one (.kd (.val sStamp)))], []⟩
abbrev to_56 : Tm := ⟨[(0, .one (.kd (.val (.list sNode))))], []⟩
def an_56 : List (Nat × Ann) := [(25, .loop ⟨[(3, .one (.fix (.ptr 1 0))), (4, .one (.kd (.own false 5 sNode))), (8, .one (.kd (.val (.list sNode)))), (9, .one (.kd (.val sI))), (10, .one (.kd (.val sI)))], [[.kd (.val sTree)], [.kd (.val sStamp)]]⟩ [(.exit 0, ⟨[(4, .one (.kd (.own false 5 sNode)))], [[.kd (.val sTree)], [.kd (.val sStamp)]]⟩)])]
noncomputable def S_56 : Spec := specO ti_56.gs (kinds to_56.gs) tree_Children
abbrev ti_27 : Tm := ⟨[(0, .one (.kd (.val sTree))), (1, .one (.kd (.val sStamp)))], []⟩
abbrev to_27 : Tm := ⟨[(0, .one (.kd (.own false 2 sStamp))), (1, .one (.kd (.val sI)))], []⟩
def an_27 : List (Nat × Ann) := [(57, .loop ⟨[(4, .one (.kd (.own false 2 sStamp))), (13, .one (.kd (.val (.list sNode)))), (14, .one (.kd (.val sI))), (15, .one (.kd (.val sI)))], [[.kd (.val sTree)], [.kd (.val sStamp)]]⟩ [(.exit 0, ⟨[(4, .one (.kd (.own false 2 sStamp)))], [[.kd (.val sTree)], [.kd (.val sStamp)]]⟩)])]
noncomputable def S_27 : Spec := specK ti_27 to_27 tree_Kids
abbrev ti_52 : Tm := ⟨[], []⟩
abbrev to_52 : Tm := ⟨[(0, .one (.kd (.val sOp)))], []⟩
def an_52 : List (Nat × Ann) := []
noncomputable def S_52 : Spec := specT ti_52.gs (kinds to_52.gs) arraslaw10_O
abbrev ti_22 : Tm := ⟨[], []⟩
abbrev to_22 : Tm := ⟨[(0, .one (.kd (.val .bool)))], []⟩
def an_22 : List (Nat × Ann) := [(29, .join [(0, .bool)])]
noncomputable def S_22 : Spec := specO ti_22.gs (kinds to_22.gs) arraslaw16_wakes
abbrev ti_55 : Tm := ⟨[(0, .one (.kd (.val sTree))), (1, .one (.kd (.val sStamp)))], []⟩
abbrev to_55 : Tm := ⟨[(0, .one (.kd (.val sNode))), (1, .one (.kd (.val .bool)))], []⟩
def an_55 : List (Nat × Ann) := []
noncomputable def S_55 : Spec := specO ti_55.gs (kinds to_55.gs) tree_Node
abbrev ti_26 : Tm := ⟨[(0, .one (.kd (.val sTree))), (1, .one (.kd (.val sStamp)))], []⟩
abbrev to_26 : Tm := ⟨[(0, .one (.kd (.val sNode))), (1, .one (.kd (.val sI)))], []⟩
def an_26 : List (Nat × Ann) := []
noncomputable def S_26 : Spec := specO ti_26.gs (kinds to_26.gs) tree_Find
abbrev ti_57 : Tm := ⟨[(0, .one (.kd (.val sTree))), (1, .one (.kd (.val sStamp)))], []⟩
abbrev to_57 : Tm := ⟨[(0, .one (.kd (.own false 2 sStamp)))], []⟩
def an_57 : List (Nat × Ann) := [(2, .lab 0 ⟨[(2, .one (.fix (.ptr 0 0))), (3, .one (.fix (.ptr 1 0))), (4, .one (.kd (.own false 2 sStamp))), (5, .one (.fix (.ptr 2 0)))], [[.kd (.val sTree)], [.kd (.val sStamp)], [.kd (.val sNode)]]⟩ [(.ret, ⟨[(4, .one (.kd (.own false 2 sStamp)))], []⟩)])]
noncomputable def S_57 : Spec := specK ti_57 to_57 tree_Up
abbrev ti_28 : Tm := ⟨[(0, .one (.kd (.val sTree))), (1, .one (.kd (.val sStamp)))], []⟩
abbrev to_28 : Tm := ⟨[(0, .one (.kd (.own false 2 sStamp))), (1, .one (.kd (.val sI)))], []⟩
def an_28 : List (Nat × Ann) := []
noncomputable def S_28 : Spec := specK ti_28 to_28 tree_Above
abbrev ti_58 : Tm := ⟨[(0, .one (.kd (.val sTree))), (1, .one (.kd (.val sStamp)))], []⟩
abbrev to_58 : Tm := ⟨[(0, .one (.kd (.val .bool)))], []⟩
def an_58 : List (Nat × Ann) := [(13, .join [(4, .bool)])]
noncomputable def S_58 : Spec := specO ti_58.gs (kinds to_58.gs) tree_Lives
abbrev ti_29 : Tm := ⟨[(0, .one (.kd (.val sTree))), (1, .one (.kd (.val sStamp)))], []⟩
abbrev to_29 : Tm := ⟨[(0, .one (.kd (.val .bool))), (1, .one (.kd (.val sI)))], []⟩
def an_29 : List (Nat × Ann) := []
noncomputable def S_29 : Spec := specO ti_29.gs (kinds to_29.gs) tree_Live
abbrev ti_31 : Tm := ⟨[(0, .one (.kd (.val sTree))), (1, .one (.kd (.val sStamp)))], []⟩
abbrev to_31 : Tm := ⟨[(0, .one (.kd (.val (.list sStamp)))), (1, .one (.kd (.val .bool)))], []⟩
def an_31 : List (Nat × Ann) := [(123, .loop ⟨[(2, .one (.fix (.ptr 0 0))), (6, .one (.kd (.val sI))), (7, .one (.kd (.own false 2 sStamp)))], [[.kd (.val sTree)], [.kd (.val sStamp)]]⟩ [(.exit 0, ⟨[(7, .one (.kd (.own false 2 sStamp)))], [[.kd (.val sTree)], [.kd (.val sStamp)]]⟩)])]
noncomputable def S_31 : Spec := specO ti_31.gs (kinds to_31.gs) arrasref16_Above
abbrev ti_32 : Tm := ⟨[(0, .one (.kd (.val (.list sStamp)))), (1, .one (.kd (.val (.list sStamp))))], []⟩
abbrev to_32 : Tm := ⟨[(0, .one (.kd (.val .bool)))], []⟩
def an_32 : List (Nat × Ann) := [(57, .loop ⟨[(0, .one (.kd (.val (.list sStamp)))), (1, .one (.kd (.val (.list sStamp)))), (5, .one (.kd (.val sI)))], []⟩ [(.exit 0, ⟨[], []⟩), (.ret, ⟨[(4, .one (.kd (.val .bool)))], []⟩)])]
noncomputable def S_32 : Spec := specO ti_32.gs (kinds to_32.gs) arrasref0_EqStamps
abbrev ti_33 : Tm := ⟨[(0, .one (.kd (.val sTree))), (1, .one (.kd (.val sStamp)))], []⟩
abbrev to_33 : Tm := ⟨[(0, .one (.kd (.val (.list sStamp))))], []⟩
def an_33 : List (Nat × Ann) := [(57, .loop ⟨[(2, .one (.fix (.ptr 0 0))), (3, .one (.fix (.ptr 1 0))), (5, .one (.kd (.own false 5 sNode))), (6, .one (.kd (.val sI)))], [[.kd (.val sTree)], [.kd (.val sStamp)]]⟩ [(.exit 0, ⟨[(5, .one (.kd (.own false 5 sNode)))], [[.kd (.val sTree)], [.kd (.val sStamp)]]⟩)]), (249, .loop ⟨[(5, .one (.kd (.own false 5 sNode))), (10, .one (.kd (.own false 2 sStamp))), (11, .one (.kd (.val sI)))], [[.kd (.val sTree)], [.kd (.val sStamp)]]⟩ [(.exit 4, ⟨[(10, .one (.kd (.own false 2 sStamp)))], [[.kd (.val sTree)], [.kd (.val sStamp)]]⟩)]), (29851, .loop ⟨[(2, .one (.fix (.ptr 0 0))), (3, .one (.fix (.ptr 1 0))), (5, .one (.kd (.own false 5 sNode))), (6, .one (.kd (.val sI))), (7, .one (.fix (.ptr 2 0))), (8, .one (.kd (.val sI)))], [[.kd (.val sTree)], [.kd (.val sStamp)], [.kd (.val sNode)]]⟩ [(.exit 2, ⟨[(2, .one (.fix (.ptr 0 0))), (3, .one (.fix (.ptr 1 0))), (5, .one (.kd (.own false 5 sNode))), (6, .one (.kd (.val sI))), (7, .one (.fix (.ptr 2 0))), (8, .one (.kd (.val sI)))], [[.kd (.val sTree)], [.kd (.val sStamp)], [.kd (.val sNode)]]⟩)]), (238815, .join [(41, .bool)])]
noncomputable def S_33 : Spec := specO ti_33.gs (kinds to_33.gs) arrasref16_Kids
abbrev ti_34 : Tm := ⟨[(0, .one (.kd (.val sTree))), (1, .one (.kd (.val sStamp)))], []⟩
abbrev to_34 : Tm := ⟨[(0, .one (.kd (.val .bool)))], []⟩
def an_34 : List (Nat × Ann) := [(29, .join [(4, .bool)])]
noncomputable def S_34 : Spec := specO ti_34.gs (kinds to_34.gs) arrasref16_Live
abbrev ti_35 : Tm := ⟨[(0, .one (.kd (.own false 2 sStamp)))], []⟩
abbrev to_35 : Tm := ⟨[], []⟩
def an_35 : List (Nat × Ann) := [(5, .loop ⟨[(0, .one (.kd (.own false 2 sStamp))), (2, .one (.kd (.val sI)))], []⟩ [(.exit 0, ⟨[], []⟩)])]
noncomputable def S_35 : Spec := specK ti_35 to_35 arraslaw0_Stamps
abbrev ti_5 : Tm := ⟨[(0, .one (.kd (.val sScript_arraslaw16)))], []⟩
abbrev to_5 : Tm := ⟨[(0, .one (.kd (.val .bool)))], []⟩
def an_5 : List (Nat × Ann) := [(249, .loop ⟨[(1, .one (.fix (.ptr 0 0))), (3, .one (.kd (.val .bool))), (4, .one (.kd (.own false 2 sStamp))), (5, .one (.kd (.val sI)))], [[.kd (.val sScript_arraslaw16)]]⟩ [(.exit 0, ⟨[(1, .one (.fix (.ptr 0 0))), (3, .one (.kd (.val .bool))), (4, .one (.kd (.own false 2 sStamp)))], [[.kd (.val sScript_arraslaw16)]]⟩)]), (505, .loop ⟨[(1, .one (.fix (.ptr 0 0))), (3, .one (.kd (.val .bool))), (4, .one (.kd (.own false 2 sStamp))), (6, .one (.kd (.val sI)))], [[.kd (.val sScript_arraslaw16)]]⟩ [(.exit 2, ⟨[], [[.kd (.val sScript_arraslaw16)]]⟩), (.ret, ⟨[(2, .one (.kd (.val .bool)))], []⟩)]), (4047, .join [(55, .bool)]), (8295399, .join [(109, .bool)]), (8295419, .join [(157, .bool)]), (16590843, .join [(196, .bool)])]
noncomputable def S_5 : Spec := specO ti_5.gs (kinds to_5.gs) arraslaw16_TreeAsks
theorem k_67 : SpecOk (calls tbS (ex tbS)) 67 S_67 := cloneS_ok (zero := [.int .i64 0, .int .i64 0, .int .i64 0, .nils, .int .i64 0, .int .i64 0, .int .i64 0, .int .i64 0, .int .i64 0, .str ⟨#[]⟩, .int .i64 0, .int .i64 0, .bool false, .int .i64 0, .int .i64 0, .str ⟨#[]⟩, .bool false]) (by kernel_rfl) rfl rfl
theorem k_68 : SpecOk (calls tbS (ex tbS)) 68 S_68 := cloneS_ok (zero := [.int .i64 0, .int .i64 0, .int .i64 0, .int .i64 0, .str ⟨#[]⟩]) (by kernel_rfl) rfl rfl
theorem k_78 : SpecOk (calls tbS (ex tbS)) 78 S_78 := deleteS_ok (tb0 := tb0) (zero := [.int .i64 0, .int .i64 0, .int .i64 0, .int .i64 0, .str ⟨#[]⟩]) rfl (by kernel_rfl) rfl (by decide)
theorem k_88 : SpecOk (calls tbS (ex tbS)) 88 S_88 := insertS_ok rfl
theorem k_92 : SpecOk (calls tbS (ex tbS)) 92 S_92 := cloneS_ok (zero := [.int .i64 0]) (by kernel_rfl) rfl rfl
theorem k_100 : SpecOk (calls tbS (ex tbS)) 100 S_100 := cmpStrS_ok rfl
theorem k0_100 : SpecOk (calls tb0 (ex tb0)) 100 S_100 := cmpStrS_ok rfl
theorem e0_82 (x : St ti_82) : (symF tb0 (spOf []) 82 (anOf an_82) 1000 ti_82 to_82 x).sem = cmp_Or_int x := by kernel_rfl
theorem k0_82 : SpecOk (calls tb0 (ex tb0)) 82 S_82 := plugO (f := 82) (an := anOf an_82) (fuel := 1000) (ti := ti_82) (to := to_82) (F := cmp_Or_int) (specsOk_nil) ⟨rfl, by kernel_rfl, by kernel_rfl, rfl, by kernel_rfl, by kernel_rfl⟩ (by kernel_rfl) rfl e0_82
theorem e_82 (x : St ti_82) : (symF tbS (spOf []) 82 (anOf an_82) 1000 ti_82 to_82 x).sem = cmp_Or_int x := by kernel_rfl
theorem k_82 : SpecOk (calls tbS (ex tbS)) 82 S_82 := plugO (f := 82) (an := anOf an_82) (fuel := 1000) (ti := ti_82) (to := to_82) (F := cmp_Or_int) (specsOk_nil) ⟨rfl, by kernel_rfl, by kernel_rfl, rfl, by kernel_rfl, by kernel_rfl⟩ (by kernel_rfl) rfl e_82
theorem se0_83 (x : St ti_83) : (symF tb0 (spOf [(100, S_100)]) 83 (anOf an_83) 1000 ti_83 to_83 x).sure = true := by kernel_rfl
theorem e0_83 (x : St ti_83) (d : St to_83) : (symF tb0 (spOf [(100, S_100)]) 83 (anOf an_83) 1000 ti_83 to_83 x).pick d = strings_Compare x := by kernel_rfl
theorem k0_83 : SpecOk (calls tb0 (ex tb0)) 83 S_83 := plugT (f := 83) (an := anOf an_83) (fuel := 1000) (ti := ti_83) (to := to_83) (F := strings_Compare) (specsOk_cons k0_100 (specsOk_nil)) ⟨rfl, by kernel_rfl, by kernel_rfl, rfl, by kernel_rfl, by kernel_rfl⟩ (by kernel_rfl) rfl se0_83 e0_83
theorem se_83 (x : St ti_83) : (symF tbS (spOf [(100, S_100)]) 83 (anOf an_83) 1000 ti_83 to_83 x).sure = true := by kernel_rfl
theorem e_83 (x : St ti_83) (d : St to_83) : (symF tbS (spOf [(100, S_100)]) 83 (anOf an_83) 1000 ti_83 to_83 x).pick d = strings_Compare x := by kernel_rfl
theorem k_83 : SpecOk (calls tbS (ex tbS)) 83 S_83 := plugT (f := 83) (an := anOf an_83) (fuel := 1000) (ti := ti_83) (to := to_83) (F := strings_Compare) (specsOk_cons k_100 (specsOk_nil)) ⟨rfl, by kernel_rfl, by kernel_rfl, rfl, by kernel_rfl, by kernel_rfl⟩ (by kernel_rfl) rfl se_83 e_83
theorem se0_119 (x : St ti_119) : (symF tb0 (spOf []) 119 (anOf an_119) 1000 ti_119 to_119 x).sure = true := by kernel_rfl
theorem e0_119 (x : St ti_119) (d : St to_119) : (symF tb0 (spOf []) 119 (anOf an_119) 1000 ti_119 to_119 x).pick d = cmp_isNaN_int x := by kernel_rfl
theorem k0_119 : SpecOk (calls tb0 (ex tb0)) 119 S_119 := plugT (f := 119) (an := anOf an_119) (fuel := 1000) (ti := ti_119) (to := to_119) (F := cmp_isNaN_int) (specsOk_nil) ⟨rfl, by kernel_rfl, by kernel_rfl, rfl, by kernel_rfl, by kernel_rfl⟩ (by kernel_rfl) rfl se0_119 e0_119
theorem se_119 (x : St ti_119) : (symF tbS (spOf []) 119 (anOf an_119) 1000 ti_119 to_119 x).sure = true := by kernel_rfl
theorem e_119 (x : St ti_119) (d : St to_119) : (symF tbS (spOf []) 119 (anOf an_119) 1000 ti_119 to_119 x).pick d = cmp_isNaN_int x := by kernel_rfl
theorem k_119 : SpecOk (calls tbS (ex tbS)) 119 S_119 := plugT (f := 119) (an := anOf an_119) (fuel := 1000) (ti := ti_119) (to := to_119) (F := cmp_isNaN_int) (specsOk_nil) ⟨rfl, by kernel_rfl, by kernel_rfl, rfl, by kernel_rfl, by kernel_rfl⟩ (by kernel_rfl) rfl se_119 e_119
theorem se0_101 (x : St ti_101) : (symF tb0 (spOf [(119, S_119)]) 101 (anOf an_101) 1000 ti_101 to_101 x).sure = true := by kernel_rfl
theorem e0_101 (x : St ti_101) (d : St to_101) : (symF tb0 (spOf [(119, S_119)]) 101 (anOf an_101) 1000 ti_101 to_101 x).pick d = cmp_Compare_int x := by kernel_rfl
theorem k0_101 : SpecOk (calls tb0 (ex tb0)) 101 S_101 := plugT (f := 101) (an := anOf an_101) (fuel := 1000) (ti := ti_101) (to := to_101) (F := cmp_Compare_int) (specsOk_cons k0_119 (specsOk_nil)) ⟨rfl, by kernel_rfl, by kernel_rfl, rfl, by kernel_rfl, by kernel_rfl⟩ (by kernel_rfl) rfl se0_101 e0_101
theorem se_101 (x : St ti_101) : (symF tbS (spOf [(119, S_119)]) 101 (anOf an_101) 1000 ti_101 to_101 x).sure = true := by kernel_rfl
theorem e_101 (x : St ti_101) (d : St to_101) : (symF tbS (spOf [(119, S_119)]) 101 (anOf an_101) 1000 ti_101 to_101 x).pick d = cmp_Compare_int x := by kernel_rfl
theorem k_101 : SpecOk (calls tbS (ex tbS)) 101 S_101 := plugT (f := 101) (an := anOf an_101) (fuel := 1000) (ti := ti_101) (to := to_101) (F := cmp_Compare_int) (specsOk_cons k_119 (specsOk_nil)) ⟨rfl, by kernel_rfl, by kernel_rfl, rfl, by kernel_rfl, by kernel_rfl⟩ (by kernel_rfl) rfl se_101 e_101
theorem e0_84 (x : St ti_84) : (symF tb0 (spOf [(82, S_82), (101, S_101)]) 84 (anOf an_84) 1000 ti_84 to_84 x).sem = stamp_Cmp x := by kernel_rfl
theorem k0_84 : SpecOk (calls tb0 (ex tb0)) 84 S_84 := plugO (f := 84) (an := anOf an_84) (fuel := 1000) (ti := ti_84) (to := to_84) (F := stamp_Cmp) (specsOk_cons k0_82 (specsOk_cons k0_101 (specsOk_nil))) ⟨rfl, by kernel_rfl, by kernel_rfl, rfl, by kernel_rfl, by kernel_rfl⟩ (by kernel_rfl) rfl e0_84
theorem e_84 (x : St ti_84) : (symF tbS (spOf [(82, S_82), (101, S_101)]) 84 (anOf an_84) 1000 ti_84 to_84 x).sem = stamp_Cmp x := by kernel_rfl
theorem k_84 : SpecOk (calls tbS (ex tbS)) 84 S_84 := plugO (f := 84) (an := anOf an_84) (fuel := 1000) (ti := ti_84) (to := to_84) (F := stamp_Cmp) (specsOk_cons k_82 (specsOk_cons k_101 (specsOk_nil))) ⟨rfl, by kernel_rfl, by kernel_rfl, rfl, by kernel_rfl, by kernel_rfl⟩ (by kernel_rfl) rfl e_84
theorem e0_81 (x : St ti_81) : (symF tb0 (spOf [(82, S_82), (83, S_83), (84, S_84)]) 81 (anOf an_81) 1000 ti_81 to_81 x).sem = tree_Children_1 x := by kernel_rfl
theorem k0_81 : SpecOk (calls tb0 (ex tb0)) 81 S_81 := plugO (f := 81) (an := anOf an_81) (fuel := 1000) (ti := ti_81) (to := to_81) (F := tree_Children_1) (specsOk_cons k0_82 (specsOk_cons k0_83 (specsOk_cons k0_84 (specsOk_nil)))) ⟨rfl, by kernel_rfl, by kernel_rfl, rfl, by kernel_rfl, by kernel_rfl⟩ (by kernel_rfl) rfl e0_81
theorem e_81 (x : St ti_81) : (symF tbS (spOf [(82, S_82), (83, S_83), (84, S_84)]) 81 (anOf an_81) 1000 ti_81 to_81 x).sem = tree_Children_1 x := by kernel_rfl
theorem k_81 : SpecOk (calls tbS (ex tbS)) 81 S_81 := plugO (f := 81) (an := anOf an_81) (fuel := 1000) (ti := ti_81) (to := to_81) (F := tree_Children_1) (specsOk_cons k_82 (specsOk_cons k_83 (specsOk_cons k_84 (specsOk_nil)))) ⟨rfl, by kernel_rfl, by kernel_rfl, rfl, by kernel_rfl, by kernel_rfl⟩ (by kernel_rfl) rfl e_81
theorem k_80 : SpecOk (calls tbS (ex tbS)) 80 S_80 := sortS_ok rfl swo_slices_SortFunc_Node rfl
theorem e_97 (x : St ti_97) : (symF tbS (spOf [(84, S_84)]) 97 (anOf an_97) 1000 ti_97 to_97 x).sem = tree_find_1 x := by kernel_rfl
theorem k_97 : SpecOk (calls tbS (ex tbS)) 97 S_97 := plugO (f := 97) (an := anOf an_97) (fuel := 1000) (ti := ti_97) (to := to_97) (F := tree_find_1) (specsOk_cons k_84 (specsOk_nil)) ⟨rfl, by kernel_rfl, by kernel_rfl, rfl, by kernel_rfl, by kernel_rfl⟩ (by kernel_rfl) rfl e_97
theorem e_96 (x : St ti_96) : (symF tbS (spOf [(97, S_97)]) 96 (anOf an_96) 1000 ti_96 to_96 x).sem = slices_BinarySearchFunc_Node_Stamp x := by kernel_rfl
theorem k_96 : SpecOk (calls tbS (ex tbS)) 96 S_96 := plugO (f := 96) (an := anOf an_96) (fuel := 1000) (ti := ti_96) (to := to_96) (F := slices_BinarySearchFunc_Node_Stamp) (specsOk_cons k_97 (specsOk_nil)) ⟨rfl, by kernel_rfl, by kernel_rfl, rfl, by kernel_rfl, by kernel_rfl⟩ (by kernel_rfl) rfl e_96
theorem e_77 (x : St ti_77) : (symF tbS (spOf [(96, S_96)]) 77 (anOf an_77) 1000 ti_77 to_77 x).sem = tree_find x := by kernel_rfl
theorem k_77 : SpecOk (calls tbS (ex tbS)) 77 S_77 := plugO (f := 77) (an := anOf an_77) (fuel := 1000) (ti := ti_77) (to := to_77) (F := tree_find) (specsOk_cons k_96 (specsOk_nil)) ⟨rfl, by kernel_rfl, by kernel_rfl, rfl, by kernel_rfl, by kernel_rfl⟩ (by kernel_rfl) rfl e_77
theorem se_60 (x : St ti_60) : (symF tbS (spOf []) 60 (anOf an_60) 1000 ti_60 to_60 x).sure = true := by kernel_rfl
theorem e_60 (x : St ti_60) (d : St to_60) : (symF tbS (spOf []) 60 (anOf an_60) 1000 ti_60 to_60 x).pick d = arraslaw0_OpWeight x := by kernel_rfl
theorem k_60 : SpecOk (calls tbS (ex tbS)) 60 S_60 := plugT (f := 60) (an := anOf an_60) (fuel := 1000) (ti := ti_60) (to := to_60) (F := arraslaw0_OpWeight) (specsOk_nil) ⟨rfl, by kernel_rfl, by kernel_rfl, rfl, by kernel_rfl, by kernel_rfl⟩ (by kernel_rfl) rfl se_60 e_60
theorem e_37 (x : St ti_37) : (symF tbS (spOf [(60, S_60)]) 37 (anOf an_37) 1000 ti_37 to_37 x).sem = arraslaw0_TreeWeight x := by kernel_rfl
theorem k_37 : SpecOk (calls tbS (ex tbS)) 37 S_37 := plugO (f := 37) (an := anOf an_37) (fuel := 1000) (ti := ti_37) (to := to_37) (F := arraslaw0_TreeWeight) (specsOk_cons k_60 (specsOk_nil)) ⟨rfl, by kernel_rfl, by kernel_rfl, rfl, by kernel_rfl, by kernel_rfl⟩ (by kernel_rfl) rfl e_37
theorem e_38 (x : St ti_38) : (symF tbS (spOf [(60, S_60)]) 38 (anOf an_38) 1000 ti_38 to_38 x).sem = arraslaw0_OpsWeight x := by kernel_rfl
theorem k_38 : SpecOk (calls tbS (ex tbS)) 38 S_38 := plugO (f := 38) (an := anOf an_38) (fuel := 1000) (ti := ti_38) (to := to_38) (F := arraslaw0_OpsWeight) (specsOk_cons k_60 (specsOk_nil)) ⟨rfl, by kernel_rfl, by kernel_rfl, rfl, by kernel_rfl, by kernel_rfl⟩ (by kernel_rfl) rfl e_38
theorem e_10 (x : St ti_10) : (symF tbS (spOf [(37, S_37), (38, S_38)]) 10 (anOf an_10) 1000 ti_10 to_10 x).sem = arraslaw16_heavy x := by kernel_rfl
theorem k_10 : SpecOk (calls tbS (ex tbS)) 10 S_10 := plugO (f := 10) (an := anOf an_10) (fuel := 1000) (ti := ti_10) (to := to_10) (F := arraslaw16_heavy) (specsOk_cons k_37 (specsOk_cons k_38 (specsOk_nil))) ⟨rfl, by kernel_rfl, by kernel_rfl, rfl, by kernel_rfl, by kernel_rfl⟩ (by kernel_rfl) rfl e_10
theorem e_47 (x : St ti_47) : (symF tbS (spOf []) 47 (anOf an_47) 1000 ti_47 to_47 x).sem = arrasref0_EqNodes x := by kernel_rfl
theorem k_47 : SpecOk (calls tbS (ex tbS)) 47 S_47 := plugO (f := 47) (an := anOf an_47) (fuel := 1000) (ti := ti_47) (to := to_47) (F := arrasref0_EqNodes) (specsOk_nil) ⟨rfl, by kernel_rfl, by kernel_rfl, rfl, by kernel_rfl, by kernel_rfl⟩ (by kernel_rfl) rfl e_47
theorem e_49 (x : St ti_49) : (symF tbS (spOf []) 49 (anOf an_49) 1000 ti_49 to_49 x).sem = arrasref0_EqNumbers x := by kernel_rfl
theorem k_49 : SpecOk (calls tbS (ex tbS)) 49 S_49 := plugO (f := 49) (an := anOf an_49) (fuel := 1000) (ti := ti_49) (to := to_49) (F := arrasref0_EqNumbers) (specsOk_nil) ⟨rfl, by kernel_rfl, by kernel_rfl, rfl, by kernel_rfl, by kernel_rfl⟩ (by kernel_rfl) rfl e_49
theorem e_18 (x : St ti_18) : (symF tbS (spOf [(49, S_49)]) 18 (anOf an_18) 1000 ti_18 to_18 x).sem = arrasref0_EqOp x := by kernel_rfl
theorem k_18 : SpecOk (calls tbS (ex tbS)) 18 S_18 := plugO (f := 18) (an := anOf an_18) (fuel := 1000) (ti := ti_18) (to := to_18) (F := arrasref0_EqOp) (specsOk_cons k_49 (specsOk_nil)) ⟨rfl, by kernel_rfl, by kernel_rfl, rfl, by kernel_rfl, by kernel_rfl⟩ (by kernel_rfl) rfl e_18
theorem e_70 (x : St ti_70) : (symF tbS (spOf [(18, S_18)]) 70 (anOf an_70) 1000 ti_70 to_70 x).sem = arrasref0_EqEntry x := by kernel_rfl
theorem k_70 : SpecOk (calls tbS (ex tbS)) 70 S_70 := plugO (f := 70) (an := anOf an_70) (fuel := 1000) (ti := ti_70) (to := to_70) (F := arrasref0_EqEntry) (specsOk_cons k_18 (specsOk_nil)) ⟨rfl, by kernel_rfl, by kernel_rfl, rfl, by kernel_rfl, by kernel_rfl⟩ (by kernel_rfl) rfl e_70
theorem e_48 (x : St ti_48) : (symF tbS (spOf [(70, S_70)]) 48 (anOf an_48) 1000 ti_48 to_48 x).sem = arrasref0_EqMoves x := by kernel_rfl
theorem k_48 : SpecOk (calls tbS (ex tbS)) 48 S_48 := plugO (f := 48) (an := anOf an_48) (fuel := 1000) (ti := ti_48) (to := to_48) (F := arrasref0_EqMoves) (specsOk_cons k_70 (specsOk_nil)) ⟨rfl, by kernel_rfl, by kernel_rfl, rfl, by kernel_rfl, by kernel_rfl⟩ (by kernel_rfl) rfl e_48
theorem e_17 (x : St ti_17) : (symF tbS (spOf [(47, S_47), (48, S_48)]) 17 (anOf an_17) 1000 ti_17 to_17 x).sem = arrasref0_EqTree x := by kernel_rfl
theorem k_17 : SpecOk (calls tbS (ex tbS)) 17 S_17 := plugO (f := 17) (an := anOf an_17) (fuel := 1000) (ti := ti_17) (to := to_17) (F := arrasref0_EqTree) (specsOk_cons k_47 (specsOk_cons k_48 (specsOk_nil))) ⟨rfl, by kernel_rfl, by kernel_rfl, rfl, by kernel_rfl, by kernel_rfl⟩ (by kernel_rfl) rfl e_17
theorem se_93 (x : St ti_93) : (symF tbS (spOf []) 93 (anOf an_93) 1000 ti_93 to_93 x).sure = true := by kernel_rfl
theorem e_93 (x : St ti_93) (d : St to_93) : (symF tbS (spOf []) 93 (anOf an_93) 1000 ti_93 to_93 x).pick d = arrasref0_Num x := by kernel_rfl
theorem k_93 : SpecOk (calls tbS (ex tbS)) 93 S_93 := plugT (f := 93) (an := anOf an_93) (fuel := 1000) (ti := ti_93) (to := to_93) (F := arrasref0_Num) (specsOk_nil) ⟨rfl, by kernel_rfl, by kernel_rfl, rfl, by kernel_rfl, by kernel_rfl⟩ (by kernel_rfl) rfl se_93 e_93
theorem se_71 (x : St ti_71) : (symF tbS (spOf [(93, S_93)]) 71 (anOf an_71) 1000 ti_71 to_71 x).sure = true := by kernel_rfl
theorem e_71 (x : St ti_71) (d : St to_71) : (symF tbS (spOf [(93, S_93)]) 71 (anOf an_71) 1000 ti_71 to_71 x).pick d = arrasref6_Stamp x := by kernel_rfl
theorem k_71 : SpecOk (calls tbS (ex tbS)) 71 S_71 := plugT (f := 71) (an := anOf an_71) (fuel := 1000) (ti := ti_71) (to := to_71) (F := arrasref6_Stamp) (specsOk_cons k_93 (specsOk_nil)) ⟨rfl, by kernel_rfl, by kernel_rfl, rfl, by kernel_rfl, by kernel_rfl⟩ (by kernel_rfl) rfl se_71 e_71
theorem e_72 (x : St ti_72) : (symF tbS (spOf [(93, S_93)]) 72 (anOf an_72) 1000 ti_72 to_72 x).sem = arrasref6_Vector x := by kernel_rfl
theorem k_72 : SpecOk (calls tbS (ex tbS)) 72 S_72 := plugO (f := 72) (an := anOf an_72) (fuel := 1000) (ti := ti_72) (to := to_72) (F := arrasref6_Vector) (specsOk_cons k_93 (specsOk_nil)) ⟨rfl, by kernel_rfl, by kernel_rfl, rfl, by kernel_rfl, by kernel_rfl⟩ (by kernel_rfl) rfl e_72
theorem se_59 (x : St ti_59) : (symF tbS (spOf []) 59 (anOf an_59) 1000 ti_59 to_59 x).sure = true := by kernel_rfl
theorem e_59 (x : St ti_59) (d : St to_59) : (symF tbS (spOf []) 59 (anOf an_59) 1000 ti_59 to_59 x).pick d = arrasref6_Root x := by kernel_rfl
theorem k_59 : SpecOk (calls tbS (ex tbS)) 59 S_59 := plugT (f := 59) (an := anOf an_59) (fuel := 1000) (ti := ti_59) (to := to_59) (F := arrasref6_Root) (specsOk_nil) ⟨rfl, by kernel_rfl, by kernel_rfl, rfl, by kernel_rfl, by kernel_rfl⟩ (by kernel_rfl) rfl se_59 e_59
theorem se_94 (x : St ti_94) : (symF tbS (spOf []) 94 (anOf an_94) 1000 ti_94 to_94 x).sure = true := by kernel_rfl
theorem e_94 (x : St ti_94) (d : St to_94) : (symF tbS (spOf []) 94 (anOf an_94) 1000 ti_94 to_94 x).pick d = arrasref6_Trash x := by kernel_rfl
theorem k_94 : SpecOk (calls tbS (ex tbS)) 94 S_94 := plugT (f := 94) (an := anOf an_94) (fuel := 1000) (ti := ti_94) (to := to_94) (F := arrasref6_Trash) (specsOk_nil) ⟨rfl, by kernel_rfl, by kernel_rfl, rfl, by kernel_rfl, by kernel_rfl⟩ (by kernel_rfl) rfl se_94 e_94
theorem se_73 (x : St ti_73) : (symF tbS (spOf [(59, S_59), (71, S_71), (94, S_94)]) 73 (anOf an_73) 1000 ti_73 to_73 x).sure = true := by kernel_rfl
theorem e_73 (x : St ti_73) (d : St to_73) : (symF tbS (spOf [(59, S_59), (71, S_71), (94, S_94)]) 73 (anOf an_73) 1000 ti_73 to_73 x).pick d = arrasref6_Place x := by kernel_rfl
theorem k_73 : SpecOk (calls tbS (ex tbS)) 73 S_73 := plugT (f := 73) (an := anOf an_73) (fuel := 1000) (ti := ti_73) (to := to_73) (F := arrasref6_Place) (specsOk_cons k_59 (specsOk_cons k_71 (specsOk_cons k_94 (specsOk_nil)))) ⟨rfl, by kernel_rfl, by kernel_rfl, rfl, by kernel_rfl, by kernel_rfl⟩ (by kernel_rfl) rfl se_73 e_73
theorem e_74 (x : St ti_74) : (symF tbS (spOf []) 74 (anOf an_74) 1000 ti_74 to_74 x).sem = arrasref8_Key x := by kernel_rfl
theorem k_74 : SpecOk (calls tbS (ex tbS)) 74 S_74 := plugO (f := 74) (an := anOf an_74) (fuel := 1000) (ti := ti_74) (to := to_74) (F := arrasref8_Key) (specsOk_nil) ⟨rfl, by kernel_rfl, by kernel_rfl, rfl, by kernel_rfl, by kernel_rfl⟩ (by kernel_rfl) rfl e_74
theorem e_95 (x : St ti_95) : (symF tbS (spOf []) 95 (anOf an_95) 1000 ti_95 to_95 x).sem = arrasref8_value x := by kernel_rfl
theorem k_95 : SpecOk (calls tbS (ex tbS)) 95 S_95 := plugO (f := 95) (an := anOf an_95) (fuel := 1000) (ti := ti_95) (to := to_95) (F := arrasref8_value) (specsOk_nil) ⟨rfl, by kernel_rfl, by kernel_rfl, rfl, by kernel_rfl, by kernel_rfl⟩ (by kernel_rfl) rfl e_95
theorem e_75 (x : St ti_75) : (symF tbS (spOf [(95, S_95)]) 75 (anOf an_75) 1000 ti_75 to_75 x).sem = arrasref8_Check x := by kernel_rfl
theorem k_75 : SpecOk (calls tbS (ex tbS)) 75 S_75 := plugO (f := 75) (an := anOf an_75) (fuel := 1000) (ti := ti_75) (to := to_75) (F := arrasref8_Check) (specsOk_cons k_95 (specsOk_nil)) ⟨rfl, by kernel_rfl, by kernel_rfl, rfl, by kernel_rfl, by kernel_rfl⟩ (by kernel_rfl) rfl e_75
theorem e_50 (x : St ti_50) : (symF tbS (spOf [(18, S_18), (71, S_71), (72, S_72), (73, S_73), (74, S_74), (75, S_75)]) 50 (anOf an_50) 1000 ti_50 to_50 x).sem = arrasref10_Op x := by kernel_rfl
theorem k_50 : SpecOk (calls tbS (ex tbS)) 50 S_50 := plugO (f := 50) (an := anOf an_50) (fuel := 1000) (ti := ti_50) (to := to_50) (F := arrasref10_Op) (specsOk_cons k_18 (specsOk_cons k_71 (specsOk_cons k_72 (specsOk_cons k_73 (specsOk_cons k_74 (specsOk_cons k_75 (specsOk_nil))))))) ⟨rfl, by kernel_rfl, by kernel_rfl, rfl, by kernel_rfl, by kernel_rfl⟩ (by kernel_rfl) rfl e_50
theorem e_19 (x : St ti_19) : (symF tbS (spOf [(50, S_50)]) 19 (anOf an_19) 1000 ti_19 to_19 x).sem = arrasref16_Move x := by kernel_rfl
theorem k_19 : SpecOk (calls tbS (ex tbS)) 19 S_19 := plugO (f := 19) (an := anOf an_19) (fuel := 1000) (ti := ti_19) (to := to_19) (F := arrasref16_Move) (specsOk_cons k_50 (specsOk_nil)) ⟨rfl, by kernel_rfl, by kernel_rfl, rfl, by kernel_rfl, by kernel_rfl⟩ (by kernel_rfl) rfl e_19
theorem e_24 (x : St ti_24) : (symF tbS (spOf []) 24 (anOf an_24) 1000 ti_24 to_24 x).sem = arrasref16_Moves x := by kernel_rfl
theorem k_24 : SpecOk (calls tbS (ex tbS)) 24 S_24 := plugO (f := 24) (an := anOf an_24) (fuel := 1000) (ti := ti_24) (to := to_24) (F := arrasref16_Moves) (specsOk_nil) ⟨rfl, by kernel_rfl, by kernel_rfl, rfl, by kernel_rfl, by kernel_rfl⟩ (by kernel_rfl) rfl e_24
theorem e_43 (x : St ti_43) : (symF tbS (spOf []) 43 (anOf an_43) 1000 ti_43 to_43 x).sem = arrasref0_CopyNumbers x := by kernel_rfl
theorem k_43 : SpecOk (calls tbS (ex tbS)) 43 S_43 := plugO (f := 43) (an := anOf an_43) (fuel := 1000) (ti := ti_43) (to := to_43) (F := arrasref0_CopyNumbers) (specsOk_nil) ⟨rfl, by kernel_rfl, by kernel_rfl, rfl, by kernel_rfl, by kernel_rfl⟩ (by kernel_rfl) rfl e_43
theorem e_15 (x : St ti_15) : (symF tbS (spOf [(43, S_43)]) 15 (anOf an_15) 1000 ti_15 to_15 x).sem = arrasref0_CopyOp x := by kernel_rfl
theorem k_15 : SpecOk (calls tbS (ex tbS)) 15 S_15 := plugO (f := 15) (an := anOf an_15) (fuel := 1000) (ti := ti_15) (to := to_15) (F := arrasref0_CopyOp) (specsOk_cons k_43 (specsOk_nil)) ⟨rfl, by kernel_rfl, by kernel_rfl, rfl, by kernel_rfl, by kernel_rfl⟩ (by kernel_rfl) rfl e_15
theorem e_30 (x : St ti_30) : (symF tbS (spOf []) 30 (anOf an_30) 1000 ti_30 to_30 x).sem = arrasref16_Find x := by kernel_rfl
theorem k_30 : SpecOk (calls tbS (ex tbS)) 30 S_30 := plugO (f := 30) (an := anOf an_30) (fuel := 1000) (ti := ti_30) (to := to_30) (F := arrasref16_Find) (specsOk_nil) ⟨rfl, by kernel_rfl, by kernel_rfl, rfl, by kernel_rfl, by kernel_rfl⟩ (by kernel_rfl) rfl e_30
theorem e_39 (x : St ti_39) : (symF tbS (spOf []) 39 (anOf an_39) 1000 ti_39 to_39 x).sem = arrasref0_CopyNodes x := by kernel_rfl
theorem k_39 : SpecOk (calls tbS (ex tbS)) 39 S_39 := plugK (f := 39) (an := an_39) (fuel := 1000) (ti := ti_39) (to := to_39) (F := arrasref0_CopyNodes) (specsOk_nil) ⟨by kernel_rfl, by kernel_rfl, by kernel_rfl, by kernel_rfl⟩ ⟨by kernel_rfl, by kernel_rfl, rfl, by kernel_rfl⟩ (by kernel_rfl) (by kernel_rfl) rfl e_39
theorem se_41 (x : St ti_41) : (symF tbS (spOf []) 41 (anOf an_41) 1000 ti_41 to_41 x).sure = true := by kernel_rfl
theorem e_41 (x : St ti_41) (d : St to_41) : (symF tbS (spOf []) 41 (anOf an_41) 1000 ti_41 to_41 x).pick d = arrasref6_Cmp x := by kernel_rfl
theorem k_41 : SpecOk (calls tbS (ex tbS)) 41 S_41 := plugT (f := 41) (an := anOf an_41) (fuel := 1000) (ti := ti_41) (to := to_41) (F := arrasref6_Cmp) (specsOk_nil) ⟨rfl, by kernel_rfl, by kernel_rfl, rfl, by kernel_rfl, by kernel_rfl⟩ (by kernel_rfl) rfl se_41 e_41
theorem e_79 (x : St ti_79) : (symF tbS (spOf [(30, S_30)]) 79 (anOf an_79) 1000 ti_79 to_79 x).sem = arrasref16_over x := by kernel_rfl
theorem k_79 : SpecOk (calls tbS (ex tbS)) 79 S_79 := plugO (f := 79) (an := anOf an_79) (fuel := 1000) (ti := ti_79) (to := to_79) (F := arrasref16_over) (specsOk_cons k_30 (specsOk_nil)) ⟨rfl, by kernel_rfl, by kernel_rfl, rfl, by kernel_rfl, by kernel_rfl⟩ (by kernel_rfl) rfl e_79
theorem e_54 (x : St ti_54) : (symF tbS (spOf [(15, S_15), (30, S_30), (39, S_39), (41, S_41), (79, S_79)]) 54 (anOf an_54) 1000 ti_54 to_54 x).sem = arrasref16_done x := by kernel_rfl
theorem k_54 : SpecOk (calls tbS (ex tbS)) 54 S_54 := plugO (f := 54) (an := anOf an_54) (fuel := 1000) (ti := ti_54) (to := to_54) (F := arrasref16_done) (specsOk_cons k_15 (specsOk_cons k_30 (specsOk_cons k_39 (specsOk_cons k_41 (specsOk_cons k_79 (specsOk_nil)))))) ⟨rfl, by kernel_rfl, by kernel_rfl, rfl, by kernel_rfl, by kernel_rfl⟩ (by kernel_rfl) rfl e_54
theorem e_25 (x : St ti_25) : (symF tbS (spOf [(54, S_54)]) 25 (anOf an_25) 1000 ti_25 to_25 x).sem = arrasref16_Made x := by kernel_rfl
theorem k_25 : SpecOk (calls tbS (ex tbS)) 25 S_25 := plugO (f := 25) (an := anOf an_25) (fuel := 1000) (ti := ti_25) (to := to_25) (F := arrasref16_Made) (specsOk_cons k_54 (specsOk_nil)) ⟨rfl, by kernel_rfl, by kernel_rfl, rfl, by kernel_rfl, by kernel_rfl⟩ (by kernel_rfl) rfl e_25
theorem e_12 (x : St ti_12) : (symF tbS (spOf [(17, S_17), (19, S_19), (24, S_24), (25, S_25), (41, S_41)]) 12 (anOf an_12) 1000 ti_12 to_12 x).sem = arrasref16_Tree x := by kernel_rfl
theorem k_12 : SpecOk (calls tbS (ex tbS)) 12 S_12 := plugO (f := 12) (an := anOf an_12) (fuel := 1000) (ti := ti_12) (to := to_12) (F := arrasref16_Tree) (specsOk_cons k_17 (specsOk_cons k_19 (specsOk_cons k_24 (specsOk_cons k_25 (specsOk_cons k_41 (specsOk_nil)))))) ⟨rfl, by kernel_rfl, by kernel_rfl, rfl, by kernel_rfl, by kernel_rfl⟩ (by kernel_rfl) rfl e_12
theorem se_13 (x : St ti_13) : (symF tbS (spOf []) 13 (anOf an_13) 1000 ti_13 to_13 x).sure = true := by kernel_rfl
theorem e_13 (x : St ti_13) (d : St to_13) : (symF tbS (spOf []) 13 (anOf an_13) 1000 ti_13 to_13 x).pick d = arraslaw16_num x := by kernel_rfl
theorem k_13 : SpecOk (calls tbS (ex tbS)) 13 S_13 := plugT (f := 13) (an := anOf an_13) (fuel := 1000) (ti := ti_13) (to := to_13) (F := arraslaw16_num) (specsOk_nil) ⟨rfl, by kernel_rfl, by kernel_rfl, rfl, by kernel_rfl, by kernel_rfl⟩ (by kernel_rfl) rfl se_13 e_13
theorem se_89 (x : St ti_89) : (symF tbS (spOf []) 89 (anOf an_89) 1000 ti_89 to_89 x).sure = true := by kernel_rfl
theorem e_89 (x : St ti_89) (d : St to_89) : (symF tbS (spOf []) 89 (anOf an_89) 1000 ti_89 to_89 x).pick d = stamp_Is x := by kernel_rfl
theorem k_89 : SpecOk (calls tbS (ex tbS)) 89 S_89 := plugT (f := 89) (an := anOf an_89) (fuel := 1000) (ti := ti_89) (to := to_89) (F := stamp_Is) (specsOk_nil) ⟨rfl, by kernel_rfl, by kernel_rfl, rfl, by kernel_rfl, by kernel_rfl⟩ (by kernel_rfl) rfl se_89 e_89
theorem e_90 (x : St ti_90) : (symF tbS (spOf []) 90 (anOf an_90) 1000 ti_90 to_90 x).sem = have_Is x := by kernel_rfl
theorem k_90 : SpecOk (calls tbS (ex tbS)) 90 S_90 := plugO (f := 90) (an := anOf an_90) (fuel := 1000) (ti := ti_90) (to := to_90) (F := have_Is) (specsOk_nil) ⟨rfl, by kernel_rfl, by kernel_rfl, rfl, by kernel_rfl, by kernel_rfl⟩ (by kernel_rfl) rfl e_90
theorem se_85 (x : St ti_85) : (symF tbS (spOf []) 85 (anOf an_85) 1000 ti_85 to_85 x).sure = true := by kernel_rfl
theorem e_85 (x : St ti_85) (d : St to_85) : (symF tbS (spOf []) 85 (anOf an_85) 1000 ti_85 to_85 x).pick d = stamp_Root x := by kernel_rfl
theorem k_85 : SpecOk (calls tbS (ex tbS)) 85 S_85 := plugT (f := 85) (an := anOf an_85) (fuel := 1000) (ti := ti_85) (to := to_85) (F := stamp_Root) (specsOk_nil) ⟨rfl, by kernel_rfl, by kernel_rfl, rfl, by kernel_rfl, by kernel_rfl⟩ (by kernel_rfl) rfl se_85 e_85
theorem se_121 (x : St ti_121) : (symF tbS (spOf []) 121 (anOf an_121) 1000 ti_121 to_121 x).sure = true := by kernel_rfl
theorem e_121 (x : St ti_121) (d : St to_121) : (symF tbS (spOf []) 121 (anOf an_121) 1000 ti_121 to_121 x).pick d = stamp_Trash x := by kernel_rfl
theorem k_121 : SpecOk (calls tbS (ex tbS)) 121 S_121 := plugT (f := 121) (an := anOf an_121) (fuel := 1000) (ti := ti_121) (to := to_121) (F := stamp_Trash) (specsOk_nil) ⟨rfl, by kernel_rfl, by kernel_rfl, rfl, by kernel_rfl, by kernel_rfl⟩ (by kernel_rfl) rfl se_121 e_121
theorem se_105 (x : St ti_105) : (symF tbS (spOf [(85, S_85), (89, S_89), (121, S_121)]) 105 (anOf an_105) 1000 ti_105 to_105 x).sure = true := by kernel_rfl
theorem e_105 (x : St ti_105) (d : St to_105) : (symF tbS (spOf [(85, S_85), (89, S_89), (121, S_121)]) 105 (anOf an_105) 1000 ti_105 to_105 x).pick d = stamp_Place x := by kernel_rfl
theorem k_105 : SpecOk (calls tbS (ex tbS)) 105 S_105 := plugT (f := 105) (an := anOf an_105) (fuel := 1000) (ti := ti_105) (to := to_105) (F := stamp_Place) (specsOk_cons k_85 (specsOk_cons k_89 (specsOk_cons k_121 (specsOk_nil)))) ⟨rfl, by kernel_rfl, by kernel_rfl, rfl, by kernel_rfl, by kernel_rfl⟩ (by kernel_rfl) rfl se_105 e_105
theorem e_106 (x : St ti_106) : (symF tbS (spOf []) 106 (anOf an_106) 1000 ti_106 to_106 x).sem = key_Is x := by kernel_rfl
theorem k_106 : SpecOk (calls tbS (ex tbS)) 106 S_106 := plugO (f := 106) (an := anOf an_106) (fuel := 1000) (ti := ti_106) (to := to_106) (F := key_Is) (specsOk_nil) ⟨rfl, by kernel_rfl, by kernel_rfl, rfl, by kernel_rfl, by kernel_rfl⟩ (by kernel_rfl) rfl e_106
theorem se_122 (x : St ti_122) : (symF tbS (spOf []) 122 (anOf an_122) 1000 ti_122 to_122 x).sure = true := by kernel_rfl
theorem e_122 (x : St ti_122) (d : St to_122) : (symF tbS (spOf []) 122 (anOf an_122) 1000 ti_122 to_122 x).pick d = prop_Is x := by kernel_rfl
theorem k_122 : SpecOk (calls tbS (ex tbS)) 122 S_122 := plugT (f := 122) (an := anOf an_122) (fuel := 1000) (ti := ti_122) (to := to_122) (F := prop_Is) (specsOk_nil) ⟨rfl, by kernel_rfl, by kernel_rfl, rfl, by kernel_rfl, by kernel_rfl⟩ (by kernel_rfl) rfl se_122 e_122
theorem e_123 (x : St ti_123) : (symF tbS (spOf []) 123 (anOf an_123) 1000 ti_123 to_123 x).sem = prop_ruleOf x := by kernel_rfl
theorem k_123 : SpecOk (calls tbS (ex tbS)) 123 S_123 := plugO (f := 123) (an := anOf an_123) (fuel := 1000) (ti := ti_123) (to := to_123) (F := prop_ruleOf) (specsOk_nil) ⟨rfl, by kernel_rfl, by kernel_rfl, rfl, by kernel_rfl, by kernel_rfl⟩ (by kernel_rfl) rfl e_123
theorem e_107 (x : St ti_107) : (symF tbS (spOf [(122, S_122), (123, S_123)]) 107 (anOf an_107) 1000 ti_107 to_107 x).sem = prop_May x := by kernel_rfl
theorem k_107 : SpecOk (calls tbS (ex tbS)) 107 S_107 := plugO (f := 107) (an := anOf an_107) (fuel := 1000) (ti := ti_107) (to := to_107) (F := prop_May) (specsOk_cons k_122 (specsOk_cons k_123 (specsOk_nil))) ⟨rfl, by kernel_rfl, by kernel_rfl, rfl, by kernel_rfl, by kernel_rfl⟩ (by kernel_rfl) rfl e_107
theorem e_91 (x : St ti_91) : (symF tbS (spOf [(85, S_85), (105, S_105), (106, S_106), (107, S_107)]) 91 (anOf an_91) 1000 ti_91 to_91 x).sem = op_kind x := by kernel_rfl
theorem k_91 : SpecOk (calls tbS (ex tbS)) 91 S_91 := plugO (f := 91) (an := anOf an_91) (fuel := 1000) (ti := ti_91) (to := to_91) (F := op_kind) (specsOk_cons k_85 (specsOk_cons k_105 (specsOk_cons k_106 (specsOk_cons k_107 (specsOk_nil))))) ⟨rfl, by kernel_rfl, by kernel_rfl, rfl, by kernel_rfl, by kernel_rfl⟩ (by kernel_rfl) rfl e_91
theorem e_66 (x : St ti_66) : (symF tbS (spOf [(89, S_89), (90, S_90), (91, S_91)]) 66 (anOf an_66) 1000 ti_66 to_66 x).sem = op_May x := by kernel_rfl
theorem k_66 : SpecOk (calls tbS (ex tbS)) 66 S_66 := plugO (f := 66) (an := anOf an_66) (fuel := 1000) (ti := ti_66) (to := to_66) (F := op_May) (specsOk_cons k_89 (specsOk_cons k_90 (specsOk_cons k_91 (specsOk_nil)))) ⟨rfl, by kernel_rfl, by kernel_rfl, rfl, by kernel_rfl, by kernel_rfl⟩ (by kernel_rfl) rfl e_66
theorem e_44 (x : St ti_44) : (symF tbS (spOf [(66, S_66)]) 44 (anOf an_44) 1000 ti_44 to_44 x).sem = tree_move x := by kernel_rfl
theorem k_44 : SpecOk (calls tbS (ex tbS)) 44 S_44 := plugO (f := 44) (an := anOf an_44) (fuel := 1000) (ti := ti_44) (to := to_44) (F := tree_move) (specsOk_cons k_66 (specsOk_nil)) ⟨rfl, by kernel_rfl, by kernel_rfl, rfl, by kernel_rfl, by kernel_rfl⟩ (by kernel_rfl) rfl e_44
theorem e_62 (x : St ti_62) : (symF tbS (spOf [(84, S_84)]) 62 (anOf an_62) 1000 ti_62 to_62 x).sem = op_Less x := by kernel_rfl
theorem k_62 : SpecOk (calls tbS (ex tbS)) 62 S_62 := plugO (f := 62) (an := anOf an_62) (fuel := 1000) (ti := ti_62) (to := to_62) (F := op_Less) (specsOk_cons k_84 (specsOk_nil)) ⟨rfl, by kernel_rfl, by kernel_rfl, rfl, by kernel_rfl, by kernel_rfl⟩ (by kernel_rfl) rfl e_62
theorem e_102 (x : St ti_102) : (symF tbS (spOf []) 102 (anOf an_102) 1000 ti_102 to_102 x).sem = slices_Equal_int x := by kernel_rfl
theorem k_102 : SpecOk (calls tbS (ex tbS)) 102 S_102 := plugO (f := 102) (an := anOf an_102) (fuel := 1000) (ti := ti_102) (to := to_102) (F := slices_Equal_int) (specsOk_nil) ⟨rfl, by kernel_rfl, by kernel_rfl, rfl, by kernel_rfl, by kernel_rfl⟩ (by kernel_rfl) rfl e_102
theorem e_86 (x : St ti_86) : (symF tbS (spOf [(102, S_102)]) 86 (anOf an_86) 1000 ti_86 to_86 x).sem = op_Same x := by kernel_rfl
theorem k_86 : SpecOk (calls tbS (ex tbS)) 86 S_86 := plugO (f := 86) (an := anOf an_86) (fuel := 1000) (ti := ti_86) (to := to_86) (F := op_Same) (specsOk_cons k_102 (specsOk_nil)) ⟨rfl, by kernel_rfl, by kernel_rfl, rfl, by kernel_rfl, by kernel_rfl⟩ (by kernel_rfl) rfl e_86
theorem e_63 (x : St ti_63) : (symF tbS (spOf [(86, S_86)]) 63 (anOf an_63) 1000 ti_63 to_63 x).sem = tree_same x := by kernel_rfl
theorem k_63 : SpecOk (calls tbS (ex tbS)) 63 S_63 := plugO (f := 63) (an := anOf an_63) (fuel := 1000) (ti := ti_63) (to := to_63) (F := tree_same) (specsOk_cons k_86 (specsOk_nil)) ⟨rfl, by kernel_rfl, by kernel_rfl, rfl, by kernel_rfl, by kernel_rfl⟩ (by kernel_rfl) rfl e_63
theorem e_69 (x : St ti_69) : (symF tbS (spOf [(92, S_92)]) 69 (anOf an_69) 1000 ti_69 to_69 x).sem = op_Own x := by kernel_rfl
theorem k_69 : SpecOk (calls tbS (ex tbS)) 69 S_69 := plugO (f := 69) (an := anOf an_69) (fuel := 1000) (ti := ti_69) (to := to_69) (F := op_Own) (specsOk_cons k_92 (specsOk_nil)) ⟨rfl, by kernel_rfl, by kernel_rfl, rfl, by kernel_rfl, by kernel_rfl⟩ (by kernel_rfl) rfl e_69
theorem e_87 (x : St ti_87) : (symF tbS (spOf [(77, S_77)]) 87 (anOf an_87) 1000 ti_87 to_87 x).sem = tree_work_circle x := by kernel_rfl
theorem k_87 : SpecOk (calls tbS (ex tbS)) 87 S_87 := plugO (f := 87) (an := anOf an_87) (fuel := 1000) (ti := ti_87) (to := to_87) (F := tree_work_circle) (specsOk_cons k_77 (specsOk_nil)) ⟨rfl, by kernel_rfl, by kernel_rfl, rfl, by kernel_rfl, by kernel_rfl⟩ (by kernel_rfl) rfl e_87
theorem e_64 (x : St ti_64) : (symF tbS (spOf [(69, S_69), (77, S_77), (87, S_87), (88, S_88)]) 64 (anOf an_64) 1000 ti_64 to_64 x).sem = tree_work_do x := by kernel_rfl
theorem k_64 : SpecOk (calls tbS (ex tbS)) 64 S_64 := plugK (f := 64) (an := an_64) (fuel := 1000) (ti := ti_64) (to := to_64) (F := tree_work_do) (specsOk_cons k_69 (specsOk_cons k_77 (specsOk_cons k_87 (specsOk_cons k_88 (specsOk_nil))))) ⟨by kernel_rfl, by kernel_rfl, by kernel_rfl, by kernel_rfl⟩ ⟨by kernel_rfl, by kernel_rfl, rfl, by kernel_rfl⟩ (by kernel_rfl) (by kernel_rfl) rfl e_64
theorem e_65 (x : St ti_65) : (symF tbS (spOf []) 65 (anOf an_65) 1000 ti_65 to_65 x).sem = slices_Equal_Node x := by kernel_rfl
theorem k_65 : SpecOk (calls tbS (ex tbS)) 65 S_65 := plugO (f := 65) (an := anOf an_65) (fuel := 1000) (ti := ti_65) (to := to_65) (F := slices_Equal_Node) (specsOk_nil) ⟨rfl, by kernel_rfl, by kernel_rfl, rfl, by kernel_rfl, by kernel_rfl⟩ (by kernel_rfl) rfl e_65
theorem e_42 (x : St ti_42) : (symF tbS (spOf [(44, S_44), (62, S_62), (63, S_63), (64, S_64), (65, S_65)]) 42 (anOf an_42) 1000 ti_42 to_42 x).sem = tree_May x := by kernel_rfl
theorem k_42 : SpecOk (calls tbS (ex tbS)) 42 S_42 := plugO (f := 42) (an := anOf an_42) (fuel := 1000) (ti := ti_42) (to := to_42) (F := tree_May) (specsOk_cons k_44 (specsOk_cons k_62 (specsOk_cons k_63 (specsOk_cons k_64 (specsOk_cons k_65 (specsOk_nil)))))) ⟨rfl, by kernel_rfl, by kernel_rfl, rfl, by kernel_rfl, by kernel_rfl⟩ (by kernel_rfl) rfl e_42
theorem e_53 (x : St ti_53) : (symF tbS (spOf [(77, S_77), (78, S_78)]) 53 (anOf an_53) 1000 ti_53 to_53 x).sem = tree_work_undo x := by kernel_rfl
theorem k_53 : SpecOk (calls tbS (ex tbS)) 53 S_53 := plugK (f := 53) (an := an_53) (fuel := 1000) (ti := ti_53) (to := to_53) (F := tree_work_undo) (specsOk_cons k_77 (specsOk_cons k_78 (specsOk_nil))) ⟨by kernel_rfl, by kernel_rfl, by kernel_rfl, by kernel_rfl⟩ ⟨by kernel_rfl, by kernel_rfl, rfl, by kernel_rfl⟩ (by kernel_rfl) (by kernel_rfl) rfl e_53
theorem e_45 (x : St ti_45) : (symF tbS (spOf [(53, S_53), (62, S_62), (64, S_64), (67, S_67)]) 45 (anOf an_45) 1000 ti_45 to_45 x).sem = tree_Put x := by kernel_rfl
theorem k_45 : SpecOk (calls tbS (ex tbS)) 45 S_45 := plugK (f := 45) (an := an_45) (fuel := 1000) (ti := ti_45) (to := to_45) (F := tree_Put) (specsOk_cons k_53 (specsOk_cons k_62 (specsOk_cons k_64 (specsOk_cons k_67 (specsOk_nil))))) ⟨by kernel_rfl, by kernel_rfl, by kernel_rfl, by kernel_rfl⟩ ⟨by kernel_rfl, by kernel_rfl, rfl, by kernel_rfl⟩ (by kernel_rfl) (by kernel_rfl) rfl e_45
theorem e_46 (x : St ti_46) : (symF tbS (spOf [(67, S_67), (68, S_68), (69, S_69)]) 46 (anOf an_46) 1000 ti_46 to_46 x).sem = tree_Own x := by kernel_rfl
theorem k_46 : SpecOk (calls tbS (ex tbS)) 46 S_46 := plugK (f := 46) (an := an_46) (fuel := 1000) (ti := ti_46) (to := to_46) (F := tree_Own) (specsOk_cons k_67 (specsOk_cons k_68 (specsOk_cons k_69 (specsOk_nil)))) ⟨by kernel_rfl, by kernel_rfl, by kernel_rfl, by kernel_rfl⟩ ⟨by kernel_rfl, by kernel_rfl, rfl, by kernel_rfl⟩ (by kernel_rfl) (by kernel_rfl) rfl e_46
theorem e_16 (x : St ti_16) : (symF tbS (spOf [(42, S_42), (44, S_44), (45, S_45), (46, S_46)]) 16 (anOf an_16) 1000 ti_16 to_16 x).sem = tree_Apply x := by kernel_rfl
theorem k_16 : SpecOk (calls tbS (ex tbS)) 16 S_16 := plugO (f := 16) (an := anOf an_16) (fuel := 1000) (ti := ti_16) (to := to_16) (F := tree_Apply) (specsOk_cons k_42 (specsOk_cons k_44 (specsOk_cons k_45 (specsOk_cons k_46 (specsOk_nil))))) ⟨rfl, by kernel_rfl, by kernel_rfl, rfl, by kernel_rfl, by kernel_rfl⟩ (by kernel_rfl) rfl e_16
theorem e_56 (x : St ti_56) : (symF tbS (spOf [(80, S_80)]) 56 (anOf an_56) 1000 ti_56 to_56 x).sem = tree_Children x := by kernel_rfl
theorem k_56 : SpecOk (calls tbS (ex tbS)) 56 S_56 := plugO (f := 56) (an := anOf an_56) (fuel := 1000) (ti := ti_56) (to := to_56) (F := tree_Children) (specsOk_cons k_80 (specsOk_nil)) ⟨rfl, by kernel_rfl, by kernel_rfl, rfl, by kernel_rfl, by kernel_rfl⟩ (by kernel_rfl) rfl e_56
theorem e_27 (x : St ti_27) : (symF tbS (spOf [(42, S_42), (56, S_56)]) 27 (anOf an_27) 1000 ti_27 to_27 x).sem = tree_Kids x := by kernel_rfl
theorem k_27 : SpecOk (calls tbS (ex tbS)) 27 S_27 := plugK (f := 27) (an := an_27) (fuel := 1000) (ti := ti_27) (to := to_27) (F := tree_Kids) (specsOk_cons k_42 (specsOk_cons k_56 (specsOk_nil))) ⟨by kernel_rfl, by kernel_rfl, by kernel_rfl, by kernel_rfl⟩ ⟨by kernel_rfl, by kernel_rfl, rfl, by kernel_rfl⟩ (by kernel_rfl) (by kernel_rfl) rfl e_27
theorem se_52 (x : St ti_52) : (symF tbS (spOf []) 52 (anOf an_52) 1000 ti_52 to_52 x).sure = true := by kernel_rfl
theorem e_52 (x : St ti_52) (d : St to_52) : (symF tbS (spOf []) 52 (anOf an_52) 1000 ti_52 to_52 x).pick d = arraslaw10_O x := by kernel_rfl
theorem k_52 : SpecOk (calls tbS (ex tbS)) 52 S_52 := plugT (f := 52) (an := anOf an_52) (fuel := 1000) (ti := ti_52) (to := to_52) (F := arraslaw10_O) (specsOk_nil) ⟨rfl, by kernel_rfl, by kernel_rfl, rfl, by kernel_rfl, by kernel_rfl⟩ (by kernel_rfl) rfl se_52 e_52
theorem e_22 (x : St ti_22) : (symF tbS (spOf [(13, S_13), (16, S_16), (27, S_27), (52, S_52)]) 22 (anOf an_22) 1000 ti_22 to_22 x).sem = arraslaw16_wakes x := by kernel_rfl
theorem k_22 : SpecOk (calls tbS (ex tbS)) 22 S_22 := plugO (f := 22) (an := anOf an_22) (fuel := 1000) (ti := ti_22) (to := to_22) (F := arraslaw16_wakes) (specsOk_cons k_13 (specsOk_cons k_16 (specsOk_cons k_27 (specsOk_cons k_52 (specsOk_nil))))) ⟨rfl, by kernel_rfl, by kernel_rfl, rfl, by kernel_rfl, by kernel_rfl⟩ (by kernel_rfl) rfl e_22
theorem e_55 (x : St ti_55) : (symF tbS (spOf [(77, S_77)]) 55 (anOf an_55) 1000 ti_55 to_55 x).sem = tree_Node x := by kernel_rfl
theorem k_55 : SpecOk (calls tbS (ex tbS)) 55 S_55 := plugO (f := 55) (an := anOf an_55) (fuel := 1000) (ti := ti_55) (to := to_55) (F := tree_Node) (specsOk_cons k_77 (specsOk_nil)) ⟨rfl, by kernel_rfl, by kernel_rfl, rfl, by kernel_rfl, by kernel_rfl⟩ (by kernel_rfl) rfl e_55
theorem e_26 (x : St ti_26) : (symF tbS (spOf [(42, S_42), (55, S_55)]) 26 (anOf an_26) 1000 ti_26 to_26 x).sem = tree_Find x := by kernel_rfl
theorem k_26 : SpecOk (calls tbS (ex tbS)) 26 S_26 := plugO (f := 26) (an := anOf an_26) (fuel := 1000) (ti := ti_26) (to := to_26) (F := tree_Find) (specsOk_cons k_42 (specsOk_cons k_55 (specsOk_nil))) ⟨rfl, by kernel_rfl, by kernel_rfl, rfl, by kernel_rfl, by kernel_rfl⟩ (by kernel_rfl) rfl e_26
theorem e_57 (x : St ti_57) : (symF tbS (spOf [(55, S_55)]) 57 (anOf an_57) 1000 ti_57 to_57 x).sem = tree_Up x := by kernel_rfl
theorem k_57 : SpecOk (calls tbS (ex tbS)) 57 S_57 := plugK (f := 57) (an := an_57) (fuel := 1000) (ti := ti_57) (to := to_57) (F := tree_Up) (specsOk_cons k_55 (specsOk_nil)) ⟨by kernel_rfl, by kernel_rfl, by kernel_rfl, by kernel_rfl⟩ ⟨by kernel_rfl, by kernel_rfl, rfl, by kernel_rfl⟩ (by kernel_rfl) (by kernel_rfl) rfl e_57
theorem e_28 (x : St ti_28) : (symF tbS (spOf [(42, S_42), (55, S_55), (57, S_57)]) 28 (anOf an_28) 1000 ti_28 to_28 x).sem = tree_Above x := by kernel_rfl
theorem k_28 : SpecOk (calls tbS (ex tbS)) 28 S_28 := plugK (f := 28) (an := an_28) (fuel := 1000) (ti := ti_28) (to := to_28) (F := tree_Above) (specsOk_cons k_42 (specsOk_cons k_55 (specsOk_cons k_57 (specsOk_nil)))) ⟨by kernel_rfl, by kernel_rfl, by kernel_rfl, by kernel_rfl⟩ ⟨by kernel_rfl, by kernel_rfl, rfl, by kernel_rfl⟩ (by kernel_rfl) (by kernel_rfl) rfl e_28
theorem e_58 (x : St ti_58) : (symF tbS (spOf [(57, S_57), (85, S_85)]) 58 (anOf an_58) 1000 ti_58 to_58 x).sem = tree_Lives x := by kernel_rfl
theorem k_58 : SpecOk (calls tbS (ex tbS)) 58 S_58 := plugO (f := 58) (an := anOf an_58) (fuel := 1000) (ti := ti_58) (to := to_58) (F := tree_Lives) (specsOk_cons k_57 (specsOk_cons k_85 (specsOk_nil))) ⟨rfl, by kernel_rfl, by kernel_rfl, rfl, by kernel_rfl, by kernel_rfl⟩ (by kernel_rfl) rfl e_58
theorem e_29 (x : St ti_29) : (symF tbS (spOf [(42, S_42), (58, S_58)]) 29 (anOf an_29) 1000 ti_29 to_29 x).sem = tree_Live x := by kernel_rfl
theorem k_29 : SpecOk (calls tbS (ex tbS)) 29 S_29 := plugO (f := 29) (an := anOf an_29) (fuel := 1000) (ti := ti_29) (to := to_29) (F := tree_Live) (specsOk_cons k_42 (specsOk_cons k_58 (specsOk_nil))) ⟨rfl, by kernel_rfl, by kernel_rfl, rfl, by kernel_rfl, by kernel_rfl⟩ (by kernel_rfl) rfl e_29
theorem e_31 (x : St ti_31) : (symF tbS (spOf [(30, S_30)]) 31 (anOf an_31) 1000 ti_31 to_31 x).sem = arrasref16_Above x := by kernel_rfl
theorem k_31 : SpecOk (calls tbS (ex tbS)) 31 S_31 := plugO (f := 31) (an := anOf an_31) (fuel := 1000) (ti := ti_31) (to := to_31) (F := arrasref16_Above) (specsOk_cons k_30 (specsOk_nil)) ⟨rfl, by kernel_rfl, by kernel_rfl, rfl, by kernel_rfl, by kernel_rfl⟩ (by kernel_rfl) rfl e_31
theorem e_32 (x : St ti_32) : (symF tbS (spOf []) 32 (anOf an_32) 1000 ti_32 to_32 x).sem = arrasref0_EqStamps x := by kernel_rfl
theorem k_32 : SpecOk (calls tbS (ex tbS)) 32 S_32 := plugO (f := 32) (an := anOf an_32) (fuel := 1000) (ti := ti_32) (to := to_32) (F := arrasref0_EqStamps) (specsOk_nil) ⟨rfl, by kernel_rfl, by kernel_rfl, rfl, by kernel_rfl, by kernel_rfl⟩ (by kernel_rfl) rfl e_32
theorem e_33 (x : St ti_33) : (symF tbS (spOf [(39, S_39)]) 33 (anOf an_33) 1000 ti_33 to_33 x).sem = arrasref16_Kids x := by kernel_rfl
theorem k_33 : SpecOk (calls tbS (ex tbS)) 33 S_33 := plugO (f := 33) (an := anOf an_33) (fuel := 1000) (ti := ti_33) (to := to_33) (F := arrasref16_Kids) (specsOk_cons k_39 (specsOk_nil)) ⟨rfl, by kernel_rfl, by kernel_rfl, rfl, by kernel_rfl, by kernel_rfl⟩ (by kernel_rfl) rfl e_33
theorem e_34 (x : St ti_34) : (symF tbS (spOf [(31, S_31), (59, S_59)]) 34 (anOf an_34) 1000 ti_34 to_34 x).sem = arrasref16_Live x := by kernel_rfl
theorem k_34 : SpecOk (calls tbS (ex tbS)) 34 S_34 := plugO (f := 34) (an := anOf an_34) (fuel := 1000) (ti := ti_34) (to := to_34) (F := arrasref16_Live) (specsOk_cons k_31 (specsOk_cons k_59 (specsOk_nil))) ⟨rfl, by kernel_rfl, by kernel_rfl, rfl, by kernel_rfl, by kernel_rfl⟩ (by kernel_rfl) rfl e_34
theorem e_35 (x : St ti_35) : (symF tbS (spOf []) 35 (anOf an_35) 1000 ti_35 to_35 x).sem = arraslaw0_Stamps x := by kernel_rfl
theorem k_35 : SpecOk (calls tbS (ex tbS)) 35 S_35 := plugK (f := 35) (an := an_35) (fuel := 1000) (ti := ti_35) (to := to_35) (F := arraslaw0_Stamps) (specsOk_nil) ⟨by kernel_rfl, by kernel_rfl, by kernel_rfl, by kernel_rfl⟩ ⟨by kernel_rfl, by kernel_rfl, rfl, by kernel_rfl⟩ (by kernel_rfl) (by kernel_rfl) rfl e_35
theorem e_5 (x : St ti_5) : (symF tbS (spOf [(10, S_10), (12, S_12), (13, S_13), (22, S_22), (26, S_26), (27, S_27), (28, S_28), (29, S_29), (30, S_30), (31, S_31), (32, S_32), (33, S_33), (34, S_34), (35, S_35)]) 5 (anOf an_5) 1000 ti_5 to_5 x).sem = arraslaw16_TreeAsks x := by kernel_rfl
theorem k_5 : SpecOk (calls tbS (ex tbS)) 5 S_5 := plugO (f := 5) (an := anOf an_5) (fuel := 1000) (ti := ti_5) (to := to_5) (F := arraslaw16_TreeAsks) (specsOk_cons k_10 (specsOk_cons k_12 (specsOk_cons k_13 (specsOk_cons k_22 (specsOk_cons k_26 (specsOk_cons k_27 (specsOk_cons k_28 (specsOk_cons k_29 (specsOk_cons k_30 (specsOk_cons k_31 (specsOk_cons k_32 (specsOk_cons k_33 (specsOk_cons k_34 (specsOk_cons k_35 (specsOk_nil))))))))))))))) ⟨rfl, by kernel_rfl, by kernel_rfl, rfl, by kernel_rfl, by kernel_rfl⟩ (by kernel_rfl) rfl e_5
end Go.Dv
