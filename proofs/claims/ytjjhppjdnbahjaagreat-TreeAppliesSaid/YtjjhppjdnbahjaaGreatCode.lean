/- What the code comes to: each function of the seat, by the engine. Printed by a tool (seat.py). -/
import Derived.Test.YtjjhppjdnbahjaaGreatProg
import Derived.Test.YtjjhppjdnbahjaaGreatDvI
import Derived.Test.YtjjhppjdnbahjaaGreatNat
import Derived.Test.YtjjhppjdnbahjaaGreatTrA
import Derived.Test.YtjjhppjdnbahjaaGreatScr
set_option linter.unusedVariables false
set_option linter.unusedSimpArgs false
set_option maxRecDepth 100000
open Go (IntKind)
namespace Go.Dv
abbrev polS : Pol := ⟨[0, 1, 2, 3, 4, 5, 6, 7, 8, 9, 10, 11, 13, 14, 15, 16, 18, 19, 20, 22, 23, 24, 25, 26, 27, 28, 29, 30, 32, 33, 35, 36, 38, 39, 40, 42, 43, 44, 46, 47, 48, 51, 52, 53, 55, 56, 57, 58, 59, 61, 62, 63, 64, 65, 66, 67, 68, 69, 71, 74, 75, 76, 77, 78, 80, 81, 82, 84, 85, 87, 92, 93, 94, 95, 97, 99, 100, 101, 102, 103, 104, 105, 106, 107, 108, 113, 114, 115, 116, 117, 118, 119, 120, 121, 125, 126, 127, 128, 129, 130, 132, 133, 134, 135, 136, 137, 138, 139, 140, 141, 142, 143, 144, 145, 147, 148, 149, 150, 151, 152, 153, 154, 155, 156, 157, 158, 159, 161, 162, 163, 164, 165, 166, 167, 168, 169, 170, 171, 172, 173, 174, 175, 176, 177, 178, 179, 180, 181, 182, 183, 184, 185, 186, 187, 188, 189, 190, 191, 192, 193, 194, 195, 196, 197, 198, 199, 200, 201, 202, 203, 204, 205, 206, 207, 208, 209, 210] ++ [1000012], fun f => ((([(70, [14]), (79, [16])] : List (Nat × List Nat)).lookup f).getD []), fun f => ((([(18, [12])] : List (Nat × List Nat)).lookup f).getD [])⟩
noncomputable abbrev tb0 : Table := ⟨funOf Go.Proofs.Tryz.prog polS, fun f => List.lookup f [(159, cmpPrim)]⟩
noncomputable abbrev tbS : Table := ⟨funOf Go.Proofs.Tryz.prog polS, fun f => List.lookup f [(122, insPrim 5 48), (123, cutPrim tb0 123), (125, sortPrim sNode cf_slices_SortFunc_Node 126), (159, cmpPrim)]⟩
noncomputable abbrev KS : Oracle := calls tbS (ex tbS)
noncomputable def S_17 : Spec := .w sTree
noncomputable def S_89 : Spec := cloneS 17 168
noncomputable def S_90 : Spec := cloneS 5 48
noncomputable def S_122 : Spec := insertS 5 48
noncomputable def S_123 : Spec := deleteS 5 48
noncomputable def S_124 : Spec := cloneS 1 8
noncomputable def S_125 : Spec := specI 5 sNode [.fn 126 []] slices_SortFunc_Node
noncomputable def S_159 : Spec := cmpStrS
abbrev ti_127 : Tm := ⟨[(0, .one (.kd (.val (.list sI))))], []⟩
abbrev to_127 : Tm := ⟨[(0, .one (.kd (.val sI)))], []⟩
def an_127 : List (Nat × Ann) := [(57, .loop ⟨[(3, .one (.kd (.val sI))), (6, .one (.kd (.val (.list sI)))), (7, .one (.kd (.val sI))), (8, .one (.kd (.val sI)))], []⟩ [(.exit 0, ⟨[(3, .one (.kd (.val sI)))], []⟩), (.ret, ⟨[(2, .one (.kd (.val sI)))], []⟩)])]
noncomputable def S_127 : Spec := specO ti_127.gs (kinds to_127.gs) cmp_Or_int
abbrev ti_171 : Tm := ⟨[(0, .one (.kd (.val sI)))], []⟩
abbrev to_171 : Tm := ⟨[(0, .one (.kd (.val .bool)))], []⟩
def an_171 : List (Nat × Ann) := []
noncomputable def S_171 : Spec := specT ti_171.gs (kinds to_171.gs) cmp_isNaN_int
abbrev ti_151 : Tm := ⟨[(0, .one (.kd (.val sI))), (1, .one (.kd (.val sI)))], []⟩
abbrev to_151 : Tm := ⟨[(0, .one (.kd (.val sI)))], []⟩
def an_151 : List (Nat × Ann) := []
noncomputable def S_151 : Spec := specT ti_151.gs (kinds to_151.gs) cmp_Compare_int
abbrev ti_118 : Tm := ⟨[(0, .one (.kd (.val sStamp))), (1, .one (.kd (.val sStamp)))], []⟩
abbrev to_118 : Tm := ⟨[(0, .one (.kd (.val sI)))], []⟩
def an_118 : List (Nat × Ann) := []
noncomputable def S_118 : Spec := specO ti_118.gs (kinds to_118.gs) stamp_Cmp
abbrev ti_128 : Tm := ⟨[(0, .one (.kd (.val .str))), (1, .one (.kd (.val .str)))], []⟩
abbrev to_128 : Tm := ⟨[(0, .one (.kd (.val sI)))], []⟩
def an_128 : List (Nat × Ann) := []
noncomputable def S_128 : Spec := specT ti_128.gs (kinds to_128.gs) strings_Compare
abbrev ti_126 : Tm := ⟨[(0, .one (.kd (.val sNode))), (1, .one (.kd (.val sNode)))], []⟩
abbrev to_126 : Tm := ⟨[(0, .one (.kd (.val sI)))], []⟩
def an_126 : List (Nat × Ann) := []
noncomputable def S_126 : Spec := specO ti_126.gs (kinds to_126.gs) tree_Children_1
abbrev ti_154 : Tm := ⟨[(0, .one (.kd (.val sNode))), (1, .one (.kd (.val sStamp)))], []⟩
abbrev to_154 : Tm := ⟨[(0, .one (.kd (.val sI)))], []⟩
def an_154 : List (Nat × Ann) := []
noncomputable def S_154 : Spec := specO ti_154.gs (kinds to_154.gs) tree_find_1
abbrev ti_153 : Tm := ⟨[(0, .one (.kd (.val (.list sNode)))), (1, .one (.kd (.val sStamp))), (2, .one (.fix (.fn 154 [])))], []⟩
abbrev to_153 : Tm := ⟨[(0, .one (.kd (.val sI))), (1, .one (.kd (.val .bool)))], []⟩
def an_153 : List (Nat × Ann) := [(59, .loop ⟨[(0, .one (.kd (.val (.list sNode)))), (2, .one (.fix (.fn 154 []))), (4, .one (.fix (.ptr 0 0))), (8, .one (.kd (.val sI))), (9, .one (.kd (.val sI))), (10, .one (.kd (.val sI)))], [[.kd (.val sStamp)]]⟩ [(.exit 0, ⟨[(0, .one (.kd (.val (.list sNode)))), (2, .one (.fix (.fn 154 []))), (4, .one (.fix (.ptr 0 0))), (8, .one (.kd (.val sI))), (9, .one (.kd (.val sI)))], [[.kd (.val sStamp)]]⟩)]), (61, .join [(6, sI), (7, .bool)])]
noncomputable def S_153 : Spec := specO ti_153.gs (kinds to_153.gs) slices_BinarySearchFunc_Node_Stamp
abbrev ti_121 : Tm := ⟨[(0, .one (.kd (.val (.list sNode)))), (1, .one (.kd (.val sStamp)))], []⟩
abbrev to_121 : Tm := ⟨[(0, .one (.kd (.val sI))), (1, .one (.kd (.val .bool)))], []⟩
def an_121 : List (Nat × Ann) := []
noncomputable def S_121 : Spec := specO ti_121.gs (kinds to_121.gs) tree_find
abbrev ti_81 : Tm := ⟨[(0, .one (.kd (.val sOp)))], []⟩
abbrev to_81 : Tm := ⟨[(0, .one (.kd (.val sI)))], []⟩
def an_81 : List (Nat × Ann) := []
noncomputable def S_81 : Spec := specT ti_81.gs (kinds to_81.gs) arraslaw0_OpWeight
abbrev ti_39 : Tm := ⟨[(0, .one (.kd (.val sTree)))], []⟩
abbrev to_39 : Tm := ⟨[(0, .one (.kd (.val sI)))], []⟩
def an_39 : List (Nat × Ann) := [(57, .loop ⟨[(1, .one (.fix (.ptr 0 0))), (3, .one (.kd (.val sI))), (4, .one (.kd (.val sI)))], [[.kd (.val sTree)]]⟩ [(.exit 0, ⟨[(1, .one (.fix (.ptr 0 0))), (3, .one (.kd (.val sI)))], [[.kd (.val sTree)]]⟩)]), (121, .loop ⟨[(1, .one (.fix (.ptr 0 0))), (3, .one (.kd (.val sI))), (5, .one (.kd (.val sI)))], [[.kd (.val sTree)]]⟩ [(.exit 2, ⟨[(3, .one (.kd (.val sI)))], [[.kd (.val sTree)]]⟩)]), (463, .join [(21, .bool)]), (975, .join [(41, .bool)])]
noncomputable def S_39 : Spec := specO ti_39.gs (kinds to_39.gs) arraslaw0_TreeWeight
abbrev ti_40 : Tm := ⟨[(0, .one (.kd (.val (.list sOp))))], []⟩
abbrev to_40 : Tm := ⟨[(0, .one (.kd (.val sI)))], []⟩
def an_40 : List (Nat × Ann) := [(57, .loop ⟨[(0, .one (.kd (.val (.list sOp)))), (3, .one (.kd (.val sI))), (4, .one (.kd (.val sI)))], []⟩ [(.exit 0, ⟨[(3, .one (.kd (.val sI)))], []⟩)]), (463, .join [(14, .bool)])]
noncomputable def S_40 : Spec := specO ti_40.gs (kinds to_40.gs) arraslaw0_OpsWeight
abbrev ti_6 : Tm := ⟨[(0, .one (.kd (.val sScript_arraslaw16)))], []⟩
abbrev to_6 : Tm := ⟨[(0, .one (.kd (.val .bool)))], []⟩
def an_6 : List (Nat × Ann) := [(5, .join [(2, .bool)])]
noncomputable def S_6 : Spec := specO ti_6.gs (kinds to_6.gs) arraslaw16_heavy
abbrev ti_41 : Tm := ⟨[(0, .one (.kd (.view false (.list sNode))))], []⟩
abbrev to_41 : Tm := ⟨[(0, .one (.kd (.own false 5 sNode)))], []⟩
def an_41 : List (Nat × Ann) := [(57, .loop ⟨[(0, .one (.kd (.view false (.list sNode)))), (3, .one (.kd (.own false 5 sNode))), (4, .one (.kd (.val sI)))], []⟩ [(.exit 0, ⟨[(3, .one (.kd (.own false 5 sNode)))], []⟩)])]
noncomputable def S_41 : Spec := specK ti_41 to_41 arrasref0_CopyNodes
abbrev ti_47 : Tm := ⟨[(0, .one (.kd (.val (.list sI))))], []⟩
abbrev to_47 : Tm := ⟨[(0, .one (.kd (.val (.list sI))))], []⟩
def an_47 : List (Nat × Ann) := [(57, .loop ⟨[(0, .one (.kd (.val (.list sI)))), (3, .one (.kd (.own false 1 sI))), (4, .one (.kd (.val sI)))], []⟩ [(.exit 0, ⟨[(3, .one (.kd (.own false 1 sI)))], []⟩)])]
noncomputable def S_47 : Spec := specO ti_47.gs (kinds to_47.gs) arrasref0_CopyNumbers
abbrev ti_11 : Tm := ⟨[(0, .one (.kd (.val sOp)))], []⟩
abbrev to_11 : Tm := ⟨[(0, .one (.kd (.val sOp)))], []⟩
def an_11 : List (Nat × Ann) := []
noncomputable def S_11 : Spec := specO ti_11.gs (kinds to_11.gs) arrasref0_CopyOp
abbrev ti_82 : Tm := ⟨[(0, .one (.kd (.val sEntry)))], []⟩
abbrev to_82 : Tm := ⟨[(0, .one (.kd (.val sEntry)))], []⟩
def an_82 : List (Nat × Ann) := []
noncomputable def S_82 : Spec := specO ti_82.gs (kinds to_82.gs) arrasref0_CopyEntry
abbrev ti_42 : Tm := ⟨[(0, .one (.kd (.val (.list sEntry))))], []⟩
abbrev to_42 : Tm := ⟨[(0, .one (.kd (.val (.list sEntry))))], []⟩
def an_42 : List (Nat × Ann) := [(57, .loop ⟨[(0, .one (.kd (.val (.list sEntry)))), (3, .one (.kd (.own false 17 sEntry))), (4, .one (.kd (.val sI)))], []⟩ [(.exit 0, ⟨[(3, .one (.kd (.own false 17 sEntry)))], []⟩)])]
noncomputable def S_42 : Spec := specO ti_42.gs (kinds to_42.gs) arrasref0_CopyMoves
abbrev ti_7 : Tm := ⟨[(0, .one (.kd (.val sTree)))], []⟩
abbrev to_7 : Tm := ⟨[(0, .one (.kd (.val sTree)))], []⟩
def an_7 : List (Nat × Ann) := []
noncomputable def S_7 : Spec := specO ti_7.gs (kinds to_7.gs) arrasref0_CopyTree
abbrev ti_51 : Tm := ⟨[(0, .one (.kd (.val (.list sNode)))), (1, .one (.kd (.val (.list sNode))))], []⟩
abbrev to_51 : Tm := ⟨[(0, .one (.kd (.val .bool)))], []⟩
def an_51 : List (Nat × Ann) := [(57, .loop ⟨[(0, .one (.kd (.val (.list sNode)))), (1, .one (.kd (.val (.list sNode)))), (5, .one (.kd (.val sI)))], []⟩ [(.exit 0, ⟨[], []⟩), (.ret, ⟨[(4, .one (.kd (.val .bool)))], []⟩)])]
noncomputable def S_51 : Spec := specO ti_51.gs (kinds to_51.gs) arrasref0_EqNodes
abbrev ti_53 : Tm := ⟨[(0, .one (.kd (.val (.list sI)))), (1, .one (.kd (.val (.list sI))))], []⟩
abbrev to_53 : Tm := ⟨[(0, .one (.kd (.val .bool)))], []⟩
def an_53 : List (Nat × Ann) := [(57, .loop ⟨[(0, .one (.kd (.val (.list sI)))), (1, .one (.kd (.val (.list sI)))), (5, .one (.kd (.val sI)))], []⟩ [(.exit 0, ⟨[], []⟩), (.ret, ⟨[(4, .one (.kd (.val .bool)))], []⟩)])]
noncomputable def S_53 : Spec := specO ti_53.gs (kinds to_53.gs) arrasref0_EqNumbers
abbrev ti_14 : Tm := ⟨[(0, .one (.kd (.val sOp))), (1, .one (.kd (.val sOp)))], []⟩
abbrev to_14 : Tm := ⟨[(0, .one (.kd (.val .bool)))], []⟩
def an_14 : List (Nat × Ann) := [(5, .join [(4, .bool)])]
noncomputable def S_14 : Spec := specO ti_14.gs (kinds to_14.gs) arrasref0_EqOp
abbrev ti_92 : Tm := ⟨[(0, .one (.kd (.val sEntry))), (1, .one (.kd (.val sEntry)))], []⟩
abbrev to_92 : Tm := ⟨[(0, .one (.kd (.val .bool)))], []⟩
def an_92 : List (Nat × Ann) := [(5, .join [(4, .bool)])]
noncomputable def S_92 : Spec := specO ti_92.gs (kinds to_92.gs) arrasref0_EqEntry
abbrev ti_52 : Tm := ⟨[(0, .one (.kd (.val (.list sEntry)))), (1, .one (.kd (.val (.list sEntry))))], []⟩
abbrev to_52 : Tm := ⟨[(0, .one (.kd (.val .bool)))], []⟩
def an_52 : List (Nat × Ann) := [(57, .loop ⟨[(0, .one (.kd (.val (.list sEntry)))), (1, .one (.kd (.val (.list sEntry)))), (5, .one (.kd (.val sI)))], []⟩ [(.exit 0, ⟨[], []⟩), (.ret, ⟨[(4, .one (.kd (.val .bool)))], []⟩)])]
noncomputable def S_52 : Spec := specO ti_52.gs (kinds to_52.gs) arrasref0_EqMoves
abbrev ti_13 : Tm := ⟨[(0, .one (.kd (.val sTree))), (1, .one (.kd (.val sTree)))], []⟩
abbrev to_13 : Tm := ⟨[(0, .one (.kd (.val .bool)))], []⟩
def an_13 : List (Nat × Ann) := [(5, .join [(4, .bool)])]
noncomputable def S_13 : Spec := specO ti_13.gs (kinds to_13.gs) arrasref0_EqTree
abbrev ti_99 : Tm := ⟨[(0, .one (.kd (.val sI))), (1, .one (.kd (.val sI)))], []⟩
abbrev to_99 : Tm := ⟨[(0, .one (.kd (.val .bool)))], []⟩
def an_99 : List (Nat × Ann) := [(5, .join [(4, .bool)])]
noncomputable def S_99 : Spec := specT ti_99.gs (kinds to_99.gs) arrasref0_Num
abbrev ti_61 : Tm := ⟨[(0, .one (.kd (.val sStamp)))], []⟩
abbrev to_61 : Tm := ⟨[(0, .one (.kd (.val .bool)))], []⟩
def an_61 : List (Nat × Ann) := [(5, .join [(2, .bool)])]
noncomputable def S_61 : Spec := specT ti_61.gs (kinds to_61.gs) arrasref6_Stamp
abbrev ti_74 : Tm := ⟨[(0, .one (.kd (.val (.list sI))))], []⟩
abbrev to_74 : Tm := ⟨[(0, .one (.kd (.val .bool)))], []⟩
def an_74 : List (Nat × Ann) := [(13, .join [(2, .bool)]), (25, .loop ⟨[(0, .one (.kd (.val (.list sI)))), (3, .one (.kd (.val sI)))], []⟩ [(.exit 0, ⟨[(0, .one (.kd (.val (.list sI))))], []⟩), (.ret, ⟨[(2, .one (.kd (.val .bool)))], []⟩)])]
noncomputable def S_74 : Spec := specO ti_74.gs (kinds to_74.gs) arrasref6_Vector
abbrev ti_64 : Tm := ⟨[], []⟩
abbrev to_64 : Tm := ⟨[(0, .one (.kd (.val sStamp)))], []⟩
def an_64 : List (Nat × Ann) := []
noncomputable def S_64 : Spec := specT ti_64.gs (kinds to_64.gs) arrasref6_Root
abbrev ti_113 : Tm := ⟨[], []⟩
abbrev to_113 : Tm := ⟨[(0, .one (.kd (.val sStamp)))], []⟩
def an_113 : List (Nat × Ann) := []
noncomputable def S_113 : Spec := specT ti_113.gs (kinds to_113.gs) arrasref6_Trash
abbrev ti_75 : Tm := ⟨[(0, .one (.kd (.val sStamp)))], []⟩
abbrev to_75 : Tm := ⟨[(0, .one (.kd (.val .bool)))], []⟩
def an_75 : List (Nat × Ann) := [(5, .join [(2, .bool)])]
noncomputable def S_75 : Spec := specT ti_75.gs (kinds to_75.gs) arrasref6_Place
abbrev ti_76 : Tm := ⟨[(0, .one (.kd (.val .str)))], []⟩
abbrev to_76 : Tm := ⟨[(0, .one (.kd (.val .bool)))], []⟩
def an_76 : List (Nat × Ann) := [(5, .join [(2, .bool)])]
noncomputable def S_76 : Spec := specO ti_76.gs (kinds to_76.gs) arrasref8_Key
abbrev ti_114 : Tm := ⟨[(0, .one (.kd (.val sI)))], []⟩
abbrev to_114 : Tm := ⟨[(0, .one (.kd (.val sI))), (1, .one (.kd (.val sI))), (2, .one (.kd (.val sI))), (3, .one (.kd (.val .bool)))], []⟩
def an_114 : List (Nat × Ann) := [(428, .cut [(.normal, ⟨[(6, .one (.kd (.val sI))), (9, .one (.kd (.val .bool)))], []⟩)]), (1724, .cut [(.normal, ⟨[(6, .one (.kd (.val sI))), (12, .one (.kd (.val .bool)))], []⟩)]), (6902, .cut [(.normal, ⟨[(6, .one (.kd (.val sI))), (12, .one (.kd (.val .bool)))], []⟩)]), (6908, .cut [(.normal, ⟨[(6, .one (.kd (.val sI))), (18, .one (.kd (.val .bool)))], []⟩)]), (27614, .cut [(.normal, ⟨[(6, .one (.kd (.val sI))), (12, .one (.kd (.val .bool)))], []⟩)]), (110462, .cut [(.normal, ⟨[(6, .one (.kd (.val sI))), (12, .one (.kd (.val .bool)))], []⟩)]), (442364, .cut [(.normal, ⟨[(6, .one (.kd (.val sI))), (25, .one (.kd (.val .bool)))], []⟩)]), (1769462, .cut [(.normal, ⟨[(6, .one (.kd (.val sI))), (25, .one (.kd (.val .bool)))], []⟩)])]
noncomputable def S_114 : Spec := specO ti_114.gs (kinds to_114.gs) arrasref8_value
abbrev ti_77 : Tm := ⟨[(0, .one (.kd (.val sI))), (1, .one (.kd (.val sI)))], []⟩
abbrev to_77 : Tm := ⟨[(0, .one (.kd (.val sI)))], []⟩
def an_77 : List (Nat × Ann) := [(59, .join [(25, .bool)])]
noncomputable def S_77 : Spec := specO ti_77.gs (kinds to_77.gs) arrasref8_Check
abbrev ti_35 : Tm := ⟨[(0, .one (.kd (.val sOp)))], []⟩
abbrev to_35 : Tm := ⟨[(0, .one (.kd (.val .bool)))], []⟩
def an_35 : List (Nat × Ann) := [(11, .join [(51, .bool)]), (1961, .join [(2, .bool)]), (7865, .join [(2, .bool)])]
noncomputable def S_35 : Spec := specO ti_35.gs (kinds to_35.gs) arrasref10_Op
abbrev ti_15 : Tm := ⟨[(0, .one (.kd (.val sOp)))], []⟩
abbrev to_15 : Tm := ⟨[(0, .one (.kd (.val .bool)))], []⟩
def an_15 : List (Nat × Ann) := [(5, .join [(2, .bool)])]
noncomputable def S_15 : Spec := specO ti_15.gs (kinds to_15.gs) arrasref16_Move
abbrev ti_43 : Tm := ⟨[(0, .one (.kd (.val sTree)))], []⟩
abbrev to_43 : Tm := ⟨[(0, .one (.kd (.val (.list sOp))))], []⟩
def an_43 : List (Nat × Ann) := [(57, .loop ⟨[(1, .one (.fix (.ptr 0 0))), (3, .one (.kd (.own false 12 sOp))), (4, .one (.kd (.val sI)))], [[.kd (.val sTree)]]⟩ [(.exit 0, ⟨[(3, .one (.kd (.own false 12 sOp)))], [[.kd (.val sTree)]]⟩)])]
noncomputable def S_43 : Spec := specO ti_43.gs (kinds to_43.gs) arrasref16_Moves
abbrev ti_44 : Tm := ⟨[(0, .one (.kd (.val sStamp))), (1, .one (.kd (.val sStamp)))], []⟩
abbrev to_44 : Tm := ⟨[(0, .one (.kd (.val sI)))], []⟩
def an_44 : List (Nat × Ann) := [(11, .join [(23, .bool)])]
noncomputable def S_44 : Spec := specT ti_44.gs (kinds to_44.gs) arrasref6_Cmp
abbrev ti_116 : Tm := ⟨[(0, .one (.kd (.val (.list sNode)))), (1, .one (.kd (.val sStamp)))], []⟩
abbrev to_116 : Tm := ⟨[(0, .one (.kd (.val sI)))], []⟩
def an_116 : List (Nat × Ann) := [(25, .loop ⟨[(0, .one (.kd (.val (.list sNode)))), (3, .one (.fix (.ptr 0 0))), (5, .one (.kd (.val sI)))], [[.kd (.val sStamp)]]⟩ [(.exit 0, ⟨[], [[.kd (.val sStamp)]]⟩), (.ret, ⟨[(4, .one (.kd (.val sI)))], []⟩)])]
noncomputable def S_116 : Spec := specO ti_116.gs (kinds to_116.gs) arrasref16_Find
abbrev ti_117 : Tm := ⟨[(0, .one (.kd (.val (.list sNode)))), (1, .one (.kd (.val sStamp))), (2, .one (.kd (.val sStamp)))], []⟩
abbrev to_117 : Tm := ⟨[(0, .one (.kd (.val .bool)))], []⟩
def an_117 : List (Nat × Ann) := [(25, .loop ⟨[(0, .one (.kd (.val (.list sNode)))), (4, .one (.fix (.ptr 0 0))), (5, .one (.fix (.ptr 1 0))), (7, .one (.kd (.val sI)))], [[.kd (.val sStamp)], [.kd (.val sStamp)]]⟩ [(.exit 0, ⟨[], [[.kd (.val sStamp)], [.kd (.val sStamp)]]⟩), (.ret, ⟨[(6, .one (.kd (.val .bool)))], []⟩)])]
noncomputable def S_117 : Spec := specO ti_117.gs (kinds to_117.gs) arrasref16_over
abbrev ti_83 : Tm := ⟨[(0, .one (.kd (.own false 5 sNode))), (1, .one (.kd (.val sOp)))], []⟩
abbrev to_83 : Tm := ⟨[(0, .one (.kd (.own false 5 sNode))), (1, .one (.kd (.val sEntry)))], []⟩
def an_83 : List (Nat × Ann) := [(60, .cut [(.normal, ⟨[(0, .one (.kd (.own false 5 sNode))), (3, .one (.fix (.ptr 0 0))), (5, .one (.fix (.ptr 1 0))), (6, .one (.fix (.ptr 2 0))), (7, .one (.kd (.val sI)))], [[.kd (.val sOp)], [.kd (.val sEntry)], [.kd (.val sEntry)]]⟩)]), (8185, .loop ⟨[(0, .one (.kd (.own false 5 sNode))), (3, .one (.fix (.ptr 0 0))), (5, .one (.fix (.ptr 1 0))), (6, .one (.fix (.ptr 2 0))), (8, .one (.fix (.ptr 3 0))), (10, .one (.kd (.own false 5 sNode))), (11, .one (.kd (.val .bool))), (12, .one (.kd (.val sI)))], [[.kd (.val sOp)], [.kd (.val sEntry)], [.kd (.val sEntry)], [.kd (.val sNode)]]⟩ [(.exit 0, ⟨[(5, .one (.fix (.ptr 1 0))), (6, .one (.fix (.ptr 2 0))), (8, .one (.fix (.ptr 3 0))), (10, .one (.kd (.own false 5 sNode))), (11, .one (.kd (.val .bool)))], [[.kd (.val sOp)], [.kd (.val sEntry)], [.kd (.val sEntry)], [.kd (.val sNode)]]⟩)]), (523919, .join [(79, .bool)])]
noncomputable def S_83 : Spec := specK ti_83 to_83 arrasref16_done
abbrev ti_45 : Tm := ⟨[(0, .one (.kd (.view false (.list sOp))))], []⟩
abbrev to_45 : Tm := ⟨[(0, .agg [.kd (.own false 5 sNode), .kd (.own false 17 sEntry)])], []⟩
def an_45 : List (Nat × Ann) := [(57, .loop ⟨[(0, .one (.kd (.view false (.list sOp)))), (2, .one (.fix (.ptr 0 0))), (3, .one (.fix (.ptr 1 0))), (4, .one (.kd (.val sI)))], [[.fix (.nil), .fix (.nil)], [.kd (.own false 5 sNode), .kd (.own false 17 sEntry)]]⟩ [(.exit 0, ⟨[(2, .one (.fix (.ptr 0 0))), (3, .one (.fix (.ptr 1 0)))], [[.fix (.nil), .fix (.nil)], [.kd (.own false 5 sNode), .kd (.own false 17 sEntry)]]⟩)])]
noncomputable def S_45 : Spec := specK ti_45 to_45 arrasref16_Made
abbrev ti_8 : Tm := ⟨[(0, .one (.kd (.val sTree)))], []⟩
abbrev to_8 : Tm := ⟨[(0, .one (.kd (.val .bool)))], []⟩
def an_8 : List (Nat × Ann) := [(57, .loop ⟨[(1, .one (.fix (.ptr 0 0))), (3, .one (.kd (.val (.list sOp)))), (4, .one (.kd (.val sI)))], [[.kd (.val sTree)]]⟩ [(.exit 0, ⟨[(1, .one (.fix (.ptr 0 0))), (3, .one (.kd (.val (.list sOp))))], [[.kd (.val sTree)]]⟩), (.ret, ⟨[(2, .one (.kd (.val .bool)))], []⟩)]), (1863, .join [(37, .bool)])]
noncomputable def S_8 : Spec := specO ti_8.gs (kinds to_8.gs) arrasref16_Tree
abbrev ti_9 : Tm := ⟨[(0, .one (.kd (.val sI)))], []⟩
abbrev to_9 : Tm := ⟨[(0, .one (.kd (.val sI)))], []⟩
def an_9 : List (Nat × Ann) := []
noncomputable def S_9 : Spec := specT ti_9.gs (kinds to_9.gs) arraslaw16_num
abbrev ti_105 : Tm := ⟨[(0, .one (.kd (.val sStamp)))], []⟩
abbrev to_105 : Tm := ⟨[(0, .one (.kd (.val .bool)))], []⟩
def an_105 : List (Nat × Ann) := [(5, .join [(2, .bool)])]
noncomputable def S_105 : Spec := specT ti_105.gs (kinds to_105.gs) stamp_Is
abbrev ti_106 : Tm := ⟨[(0, .one (.kd (.val (.list sI))))], []⟩
abbrev to_106 : Tm := ⟨[(0, .one (.kd (.val .bool)))], []⟩
def an_106 : List (Nat × Ann) := [(2, .lab 0 ⟨[(0, .one (.kd (.val (.list sI)))), (3, .one (.kd (.val sI)))], []⟩ [(.ret, ⟨[(2, .one (.kd (.val .bool)))], []⟩)]), (123, .join [(25, .bool)]), (243, .join [(2, .bool)])]
noncomputable def S_106 : Spec := specO ti_106.gs (kinds to_106.gs) have_Is
abbrev ti_97 : Tm := ⟨[], []⟩
abbrev to_97 : Tm := ⟨[(0, .one (.kd (.val sStamp)))], []⟩
def an_97 : List (Nat × Ann) := []
noncomputable def S_97 : Spec := specT ti_97.gs (kinds to_97.gs) stamp_Root
abbrev ti_162 : Tm := ⟨[], []⟩
abbrev to_162 : Tm := ⟨[(0, .one (.kd (.val sStamp)))], []⟩
def an_162 : List (Nat × Ann) := []
noncomputable def S_162 : Spec := specT ti_162.gs (kinds to_162.gs) stamp_Trash
abbrev ti_138 : Tm := ⟨[(0, .one (.kd (.val sStamp)))], []⟩
abbrev to_138 : Tm := ⟨[(0, .one (.kd (.val .bool)))], []⟩
def an_138 : List (Nat × Ann) := [(5, .join [(2, .bool)])]
noncomputable def S_138 : Spec := specT ti_138.gs (kinds to_138.gs) stamp_Place
abbrev ti_139 : Tm := ⟨[(0, .one (.kd (.val .str)))], []⟩
abbrev to_139 : Tm := ⟨[(0, .one (.kd (.val .bool)))], []⟩
def an_139 : List (Nat × Ann) := [(5, .join [(2, .bool)])]
noncomputable def S_139 : Spec := specO ti_139.gs (kinds to_139.gs) key_Is
abbrev ti_132 : Tm := ⟨[(0, .one (.kd (.val sI)))], []⟩
abbrev to_132 : Tm := ⟨[(0, .one (.kd (.val srule_prop)))], []⟩
def an_132 : List (Nat × Ann) := [(428, .cut [(.normal, ⟨[(2, .one (.fix (.ptr 0 0))), (3, .one (.kd (.val sI))), (7, .one (.kd (.val .bool)))], [[.kd (.val srule_prop)]]⟩)]), (1724, .cut [(.normal, ⟨[(2, .one (.fix (.ptr 0 0))), (3, .one (.kd (.val sI))), (11, .one (.kd (.val .bool)))], [[.kd (.val srule_prop)]]⟩)]), (6902, .cut [(.normal, ⟨[(2, .one (.fix (.ptr 0 0))), (3, .one (.kd (.val sI))), (11, .one (.kd (.val .bool)))], [[.kd (.val srule_prop)]]⟩)]), (6908, .cut [(.normal, ⟨[(2, .one (.fix (.ptr 0 0))), (3, .one (.kd (.val sI))), (18, .one (.kd (.val .bool)))], [[.kd (.val srule_prop)]]⟩)]), (27614, .cut [(.normal, ⟨[(2, .one (.fix (.ptr 0 0))), (3, .one (.kd (.val sI))), (11, .one (.kd (.val .bool)))], [[.kd (.val srule_prop)]]⟩)]), (110462, .cut [(.normal, ⟨[(2, .one (.fix (.ptr 0 0))), (3, .one (.kd (.val sI))), (11, .one (.kd (.val .bool)))], [[.kd (.val srule_prop)]]⟩)])]
noncomputable def S_132 : Spec := specO ti_132.gs (kinds to_132.gs) prop_ruleOf
abbrev ti_163 : Tm := ⟨[(0, .one (.kd (.val sI)))], []⟩
abbrev to_163 : Tm := ⟨[(0, .one (.kd (.val .bool)))], []⟩
def an_163 : List (Nat × Ann) := [(5, .join [(2, .bool)])]
noncomputable def S_163 : Spec := specT ti_163.gs (kinds to_163.gs) prop_Is
abbrev ti_140 : Tm := ⟨[(0, .one (.kd (.val sI))), (1, .one (.kd (.val sI)))], []⟩
abbrev to_140 : Tm := ⟨[(0, .one (.kd (.val .bool)))], []⟩
def an_140 : List (Nat × Ann) := [(5, .join [(4, .bool)])]
noncomputable def S_140 : Spec := specO ti_140.gs (kinds to_140.gs) prop_May
abbrev ti_107 : Tm := ⟨[(0, .one (.kd (.val sOp)))], []⟩
abbrev to_107 : Tm := ⟨[(0, .one (.kd (.val .bool)))], []⟩
def an_107 : List (Nat × Ann) := [(211, .join [(2, .bool)]), (859, .join [(2, .bool)])]
noncomputable def S_107 : Spec := specO ti_107.gs (kinds to_107.gs) op_kind
abbrev ti_71 : Tm := ⟨[(0, .one (.kd (.val sOp)))], []⟩
abbrev to_71 : Tm := ⟨[(0, .one (.kd (.val .bool)))], []⟩
def an_71 : List (Nat × Ann) := [(11, .join [(27, .bool)]), (13, .join [(2, .bool)])]
noncomputable def S_71 : Spec := specO ti_71.gs (kinds to_71.gs) op_May
abbrev ti_48 : Tm := ⟨[(0, .one (.kd (.val sOp)))], []⟩
abbrev to_48 : Tm := ⟨[(0, .one (.kd (.val .bool)))], []⟩
def an_48 : List (Nat × Ann) := [(5, .join [(2, .bool)])]
noncomputable def S_48 : Spec := specO ti_48.gs (kinds to_48.gs) tree_move
abbrev ti_84 : Tm := ⟨[(0, .one (.kd (.val sOp))), (1, .one (.kd (.val sOp)))], []⟩
abbrev to_84 : Tm := ⟨[(0, .one (.kd (.val .bool)))], []⟩
def an_84 : List (Nat × Ann) := []
noncomputable def S_84 : Spec := specO ti_84.gs (kinds to_84.gs) op_Less
abbrev ti_152 : Tm := ⟨[(0, .one (.kd (.val (.list sI)))), (1, .one (.kd (.val (.list sI))))], []⟩
abbrev to_152 : Tm := ⟨[(0, .one (.kd (.val .bool)))], []⟩
def an_152 : List (Nat × Ann) := [(57, .loop ⟨[(0, .one (.kd (.val (.list sI)))), (1, .one (.kd (.val (.list sI)))), (12, .one (.kd (.val sI))), (13, .one (.kd (.val sI)))], []⟩ [(.exit 0, ⟨[], []⟩), (.ret, ⟨[(4, .one (.kd (.val .bool)))], []⟩)])]
noncomputable def S_152 : Spec := specO ti_152.gs (kinds to_152.gs) slices_Equal_int
abbrev ti_119 : Tm := ⟨[(0, .one (.kd (.val sOp))), (1, .one (.kd (.val sOp)))], []⟩
abbrev to_119 : Tm := ⟨[(0, .one (.kd (.val .bool)))], []⟩
def an_119 : List (Nat × Ann) := [(5, .join [(4, .bool)])]
noncomputable def S_119 : Spec := specO ti_119.gs (kinds to_119.gs) op_Same
abbrev ti_85 : Tm := ⟨[(0, .one (.kd (.val sEntry))), (1, .one (.kd (.val sEntry)))], []⟩
abbrev to_85 : Tm := ⟨[(0, .one (.kd (.val .bool)))], []⟩
def an_85 : List (Nat × Ann) := [(5, .join [(4, .bool)])]
noncomputable def S_85 : Spec := specO ti_85.gs (kinds to_85.gs) tree_same
abbrev ti_91 : Tm := ⟨[(0, .one (.kd (.view false sOp)))], []⟩
abbrev to_91 : Tm := ⟨[(0, .agg [.kd (.val sStamp), .kd (.val sI), .kd (.own false 1 sI), .kd (.val (.pair sI (.pair sStamp (.pair sStamp (.pair .str sStamp)))))])], []⟩
def an_91 : List (Nat × Ann) := []
noncomputable def S_91 : Spec := specK ti_91 to_91 op_Own
abbrev ti_120 : Tm := ⟨[(0, .one (.kd (.at_ (.list sNode)))), (1, .one (.kd (.val sStamp))), (2, .one (.kd (.val sStamp)))], []⟩
abbrev to_120 : Tm := ⟨[(0, .one (.kd (.val .bool)))], []⟩
def an_120 : List (Nat × Ann) := [(2, .lab 0 ⟨[(0, .one (.kd (.at_ (.list sNode)))), (4, .one (.fix (.ptr 0 0))), (5, .one (.fix (.ptr 1 0)))], [[.kd (.val sStamp)], [.kd (.val sStamp)]]⟩ [(.ret, ⟨[(6, .one (.kd (.val .bool)))], []⟩)])]
noncomputable def S_120 : Spec := specO ti_120.gs (kinds to_120.gs) tree_work_circle
abbrev ti_86 : Tm := ⟨[(0, .one (.fix (.ptr 0 0))), (1, .one (.kd (.view false sOp)))], [[.kd (.own false 5 sNode)]]⟩
abbrev to_86 : Tm := ⟨[(0, .agg [.kd (.val sStamp), .kd (.val sI), .kd (.own false 1 sI), .kd (.val (.pair sI (.pair sStamp (.pair sStamp (.pair .str sStamp))))), .kd (.val (.pair .bool (.pair sStamp (.pair .str .bool))))])], [[.kd (.own false 5 sNode)]]⟩
def an_86 : List (Nat × Ann) := [(60, .cut [(.normal, ⟨[(0, .one (.fix (.ptr 0 0))), (3, .one (.fix (.ptr 1 0))), (4, .one (.fix (.ptr 2 0))), (5, .one (.fix (.ptr 3 0))), (6, .one (.kd (.val sI))), (7, .one (.kd (.val .bool)))], [[.kd (.own false 5 sNode)], [.kd (.view false sOp)], [.kd (.val sEntry)], [.kd (.val sStamp), .kd (.val sI), .kd (.own false 1 sI), .kd (.val (.pair sI (.pair sStamp (.pair sStamp (.pair .str sStamp))))), .kd (.val (.pair .bool (.pair sStamp (.pair .str .bool))))]]⟩)])]
noncomputable def S_86 : Spec := specK ti_86 to_86 tree_work_do
abbrev ti_87 : Tm := ⟨[(0, .one (.kd (.val (.list sNode)))), (1, .one (.kd (.val (.list sNode))))], []⟩
abbrev to_87 : Tm := ⟨[(0, .one (.kd (.val .bool)))], []⟩
def an_87 : List (Nat × Ann) := [(57, .loop ⟨[(0, .one (.kd (.val (.list sNode)))), (1, .one (.kd (.val (.list sNode)))), (12, .one (.kd (.val sI))), (13, .one (.kd (.val sI)))], []⟩ [(.exit 0, ⟨[], []⟩), (.ret, ⟨[(4, .one (.kd (.val .bool)))], []⟩)])]
noncomputable def S_87 : Spec := specO ti_87.gs (kinds to_87.gs) slices_Equal_Node
abbrev ti_46 : Tm := ⟨[(0, .one (.kd (.val sTree)))], []⟩
abbrev to_46 : Tm := ⟨[(0, .one (.kd (.val .bool)))], []⟩
def an_46 : List (Nat × Ann) := [(57, .loop ⟨[(1, .one (.fix (.ptr 0 0))), (3, .one (.fix (.ptr 1 0))), (9, .one (.kd (.val (.list sEntry)))), (10, .one (.kd (.val sI))), (11, .one (.kd (.val sI)))], [[.kd (.val sTree)], [.kd (.own false 5 sNode)]]⟩ [(.exit 0, ⟨[(1, .one (.fix (.ptr 0 0))), (3, .one (.fix (.ptr 1 0)))], [[.kd (.val sTree)], [.kd (.own false 5 sNode)]]⟩), (.ret, ⟨[(2, .one (.kd (.val .bool)))], []⟩)])]
noncomputable def S_46 : Spec := specO ti_46.gs (kinds to_46.gs) tree_May
abbrev ti_10 : Tm := ⟨[(0, .one (.kd (.val sTree)))], []⟩
abbrev to_10 : Tm := ⟨[(0, .one (.kd (.val sI)))], []⟩
def an_10 : List (Nat × Ann) := []
noncomputable def S_10 : Spec := specO ti_10.gs (kinds to_10.gs) tree_Check
abbrev ti_88 : Tm := ⟨[(0, .one (.fix (.ptr 0 0))), (1, .one (.kd (.view true sEntry)))], [[.kd (.own false 5 sNode)]]⟩
abbrev to_88 : Tm := ⟨[], [[.kd (.own false 5 sNode)]]⟩
def an_88 : List (Nat × Ann) := []
noncomputable def S_88 : Spec := specK ti_88 to_88 tree_work_undo
abbrev ti_49 : Tm := ⟨[(0, .agg [.kd (.own false 5 sNode), .kd (.own true 17 sEntry)]), (1, .one (.kd (.val sOp)))], []⟩
abbrev to_49 : Tm := ⟨[(0, .agg [.kd (.own false 5 sNode), .kd (.own true 17 sEntry)]), (1, .one (.kd (.val sI)))], []⟩
def an_49 : List (Nat × Ann) := [(2, .lab 0 ⟨[(2, .one (.fix (.ptr 0 0))), (3, .one (.fix (.ptr 1 0))), (4, .one (.fix (.ptr 2 0))), (6, .one (.fix (.ptr 3 0))), (7, .one (.kd (.val sI)))], [[.fix (.undef), .kd (.own true 17 sEntry)], [.kd (.val sOp)], [.kd (.val sTree)], [.kd (.own false 5 sNode)]]⟩ [(.ret, ⟨[(4, .one (.fix (.ptr 2 0))), (5, .one (.kd (.val sI)))], [[.fix (.undef), .fix (.undef)], [.fix (.undef), .fix (.undef), .fix (.undef), .fix (.undef), .fix (.undef), .fix (.undef), .fix (.undef), .fix (.undef), .fix (.undef), .fix (.undef), .fix (.undef), .fix (.undef)], [.kd (.own false 5 sNode), .kd (.own true 17 sEntry)], [.fix (.undef)]]⟩)]), (59, .join [(32, .bool)]), (251, .join [(60, .bool)]), (2041, .loop ⟨[(4, .one (.fix (.ptr 2 0))), (6, .one (.fix (.ptr 3 0))), (10, .one (.kd (.own true 17 sEntry))), (85, .one (.kd (.view true (.list sEntry)))), (86, .one (.kd (.val sI))), (87, .one (.kd (.val sI)))], [[.fix (.undef), .kd (.view true (.list sEntry))], [.kd (.val sOp)], [.kd (.val sTree)], [.kd (.own false 5 sNode)]]⟩ [(.exit 2, ⟨[(4, .one (.fix (.ptr 2 0))), (6, .one (.fix (.ptr 3 0))), (10, .one (.kd (.own true 17 sEntry)))], [[.fix (.undef), .kd (.view true (.list sEntry))], [.kd (.val sOp)], [.kd (.val sTree)], [.kd (.own false 5 sNode)]]⟩)]), (4049, .loop ⟨[(4, .one (.fix (.ptr 2 0))), (6, .one (.fix (.ptr 3 0))), (8, .one (.kd (.view true (.list sEntry)))), (62, .one (.kd (.val sI))), (63, .one (.kd (.val sI)))], [[.fix (.undef), .kd (.view true (.list sEntry))], [.kd (.val sOp)], [.kd (.val sTree)], [.kd (.own false 5 sNode)]]⟩ [(.exit 0, ⟨[(4, .one (.fix (.ptr 2 0)))], [[.fix (.undef), .kd (.view true (.list sEntry))], [.kd (.val sOp)], [.kd (.val sTree)], [.kd (.own false 5 sNode)]]⟩)])]
noncomputable def S_49 : Spec := specK ti_49 to_49 tree_Put
abbrev ti_50 : Tm := ⟨[(0, .one (.kd (.val sTree)))], []⟩
abbrev to_50 : Tm := ⟨[(0, .agg [.kd (.own false 5 sNode), .kd (.own true 17 sEntry)])], []⟩
def an_50 : List (Nat × Ann) := [(14, .thaw), (57, .loop ⟨[(1, .one (.fix (.ptr 0 0))), (2, .one (.fix (.ptr 1 0))), (14, .one (.kd (.val sI))), (15, .one (.kd (.val sI)))], [[.kd (.own false 5 sNode), .kd (.own true 17 (.mark sEntry))], [.kd (.val sTree)]]⟩ [(.exit 0, ⟨[(1, .one (.fix (.ptr 0 0))), (2, .one (.fix (.ptr 1 0)))], [[.kd (.own false 5 sNode), .kd (.own true 17 (.mark sEntry))], [.kd (.val sTree)]]⟩)])]
noncomputable def S_50 : Spec := specK ti_50 to_50 tree_Own
abbrev ti_12 : Tm := ⟨[(0, .one (.kd (.val sTree))), (1, .one (.kd (.val sOp)))], []⟩
abbrev to_12 : Tm := ⟨[(0, .agg [.kd (.own false 5 sNode), .kd (.own true 17 sEntry)]), (1, .one (.kd (.val sI)))], []⟩
def an_12 : List (Nat × Ann) := [(11, .join [(13, .bool)])]
noncomputable def S_12 : Spec := specK ti_12 to_12 tree_Apply
abbrev ti_16 : Tm := ⟨[(0, .one (.kd (.val sTree))), (1, .one (.kd (.val sOp)))], []⟩
abbrev to_16 : Tm := ⟨[(0, .one (.kd (.val sTree))), (1, .one (.kd (.val .bool)))], []⟩
def an_16 : List (Nat × Ann) := [(249, .loop ⟨[(2, .one (.fix (.ptr 0 0))), (3, .one (.fix (.ptr 1 0))), (4, .one (.fix (.ptr 2 0))), (6, .one (.kd (.own false 12 sOp))), (7, .one (.kd (.val .bool))), (8, .one (.kd (.val (.list sOp)))), (9, .one (.kd (.val sI)))], [[.kd (.val sTree)], [.kd (.val sOp)], [.kd (.val sTree)]]⟩ [(.exit 0, ⟨[(3, .one (.fix (.ptr 1 0))), (4, .one (.fix (.ptr 2 0))), (6, .one (.kd (.own false 12 sOp))), (7, .one (.kd (.val .bool)))], [[.kd (.val sTree)], [.kd (.val sOp)], [.kd (.val sTree)]]⟩), (.ret, ⟨[(4, .one (.fix (.ptr 2 0))), (5, .one (.kd (.val .bool)))], [[.fix (.undef), .fix (.undef)], [.fix (.undef), .fix (.undef), .fix (.undef), .fix (.undef), .fix (.undef), .fix (.undef), .fix (.undef), .fix (.undef), .fix (.undef), .fix (.undef), .fix (.undef), .fix (.undef)], [.kd (.val sTree)]]⟩)]), (64075, .join [(35, .bool)])]
noncomputable def S_16 : Spec := specO ti_16.gs (kinds to_16.gs) arrasref16_Apply
abbrev ti_55 : Tm := ⟨[], []⟩
abbrev to_55 : Tm := ⟨[(0, .one (.kd (.val sOp)))], []⟩
def an_55 : List (Nat × Ann) := []
noncomputable def S_55 : Spec := specT ti_55.gs (kinds to_55.gs) arraslaw10_O
abbrev ti_93 : Tm := ⟨[(0, .one (.kd (.val sTree))), (1, .one (.kd (.val sStamp)))], []⟩
abbrev to_93 : Tm := ⟨[(0, .one (.kd (.val (.list sNode))))], []⟩
def an_93 : List (Nat × Ann) := [(25, .loop ⟨[(3, .one (.fix (.ptr 1 0))), (4, .one (.kd (.own false 5 sNode))), (8, .one (.kd (.val (.list sNode)))), (9, .one (.kd (.val sI))), (10, .one (.kd (.val sI)))], [[.kd (.val sTree)], [.kd (.val sStamp)]]⟩ [(.exit 0, ⟨[(4, .one (.kd (.own false 5 sNode)))], [[.kd (.val sTree)], [.kd (.val sStamp)]]⟩)])]
noncomputable def S_93 : Spec := specO ti_93.gs (kinds to_93.gs) tree_Children
abbrev ti_56 : Tm := ⟨[(0, .one (.kd (.val sTree))), (1, .one (.kd (.val sStamp)))], []⟩
abbrev to_56 : Tm := ⟨[(0, .one (.kd (.val (.list sStamp)))), (1, .one (.kd (.val sI)))], []⟩
def an_56 : List (Nat × Ann) := [(57, .loop ⟨[(4, .one (.kd (.own false 2 sStamp))), (13, .one (.kd (.val (.list sNode)))), (14, .one (.kd (.val sI))), (15, .one (.kd (.val sI)))], [[.kd (.val sTree)], [.kd (.val sStamp)]]⟩ [(.exit 0, ⟨[(4, .one (.kd (.own false 2 sStamp)))], [[.kd (.val sTree)], [.kd (.val sStamp)]]⟩)])]
noncomputable def S_56 : Spec := specO ti_56.gs (kinds to_56.gs) tree_Kids
abbrev ti_1000012 : Tm := ⟨[(0, .one (.kd (.val sTree))), (1, .one (.kd (.val sOp)))], []⟩
abbrev to_1000012 : Tm := ⟨[(0, .one (.kd (.val sTree))), (1, .one (.kd (.val sI)))], []⟩
def an_1000012 : List (Nat × Ann) := [(11, .join [(13, .bool)])]
noncomputable def S_1000012 : Spec := specO ti_1000012.gs (kinds to_1000012.gs) tree_Apply_v
abbrev ti_18 : Tm := ⟨[], []⟩
abbrev to_18 : Tm := ⟨[(0, .one (.kd (.val .bool)))], []⟩
def an_18 : List (Nat × Ann) := [(29, .join [(0, .bool)])]
noncomputable def S_18 : Spec := specO ti_18.gs (kinds to_18.gs) arraslaw16_wakes
abbrev ti_3 : Tm := ⟨[(0, .one (.kd (.val sScript_arraslaw16)))], []⟩
abbrev to_3 : Tm := ⟨[(0, .one (.kd (.val .bool)))], []⟩
def an_3 : List (Nat × Ann) := [(121, .loop ⟨[(1, .one (.fix (.ptr 0 0))), (3, .one (.fix (.ptr 1 0))), (4, .one (.kd (.val sI)))], [[.kd (.val sScript_arraslaw16)], [.kd (.val sTree)]]⟩ [(.exit 0, ⟨[], [[.kd (.val sScript_arraslaw16)], [.kd (.val sTree)]]⟩), (.ret, ⟨[(2, .one (.kd (.val .bool)))], []⟩)]), (975, .join [(26, .bool)]), (31307, .join [(45, .bool)]), (250491, .join [(73, .bool)]), (500987, .join [(84, .bool)]), (4007931, .join [(111, .bool)]), (16031739, .join [(127, .bool)])]
noncomputable def S_3 : Spec := specO ti_3.gs (kinds to_3.gs) arraslaw16_TreeApplies
theorem k_17 : SpecOk KS 17 S_17 := by
  have h : WOk KS 17 sTree := tree_w (g := 54) (num := 70) rfl (by kernel_rfl) rfl (by kernel_rfl) rfl (by kernel_rfl)
  exact h
theorem k_89 : SpecOk KS 89 S_89 := cloneS_ok (zero := [.int .i64 0, .int .i64 0, .int .i64 0, .nils, .int .i64 0, .int .i64 0, .int .i64 0, .int .i64 0, .int .i64 0, .str ⟨#[]⟩, .int .i64 0, .int .i64 0, .bool false, .int .i64 0, .int .i64 0, .str ⟨#[]⟩, .bool false]) (by kernel_rfl) rfl rfl
theorem k_90 : SpecOk KS 90 S_90 := cloneS_ok (zero := [.int .i64 0, .int .i64 0, .int .i64 0, .int .i64 0, .str ⟨#[]⟩]) (by kernel_rfl) rfl rfl
theorem k_122 : SpecOk KS 122 S_122 := insertS_ok rfl
theorem k_123 : SpecOk KS 123 S_123 := deleteS_ok (tb0 := tb0) (zero := [.int .i64 0, .int .i64 0, .int .i64 0, .int .i64 0, .str ⟨#[]⟩]) rfl (by kernel_rfl) rfl (by decide)
theorem k_124 : SpecOk KS 124 S_124 := cloneS_ok (zero := [.int .i64 0]) (by kernel_rfl) rfl rfl
theorem k0_159 : SpecOk (calls tb0 (ex tb0)) 159 S_159 := cmpStrS_ok rfl
theorem e0_127 (x : St ti_127) : (symF tb0 (spOf []) 127 (anOf an_127) 1000 ti_127 to_127 x).sem = cmp_Or_int x := by kernel_rfl
theorem k0_127 : SpecOk (calls tb0 (ex tb0)) 127 S_127 := plugO (f := 127) (an := anOf an_127) (fuel := 1000) (ti := ti_127) (to := to_127) (F := cmp_Or_int) (specsOk_nil) ⟨rfl, by kernel_rfl, by kernel_rfl, rfl, by kernel_rfl, by kernel_rfl⟩ (by kernel_rfl) rfl e0_127
theorem e_127 (x : St ti_127) : (symF tbS (spOf []) 127 (anOf an_127) 1000 ti_127 to_127 x).sem = cmp_Or_int x := by kernel_rfl
theorem k_127 : SpecOk KS 127 S_127 := plugO (f := 127) (an := anOf an_127) (fuel := 1000) (ti := ti_127) (to := to_127) (F := cmp_Or_int) (specsOk_nil) ⟨rfl, by kernel_rfl, by kernel_rfl, rfl, by kernel_rfl, by kernel_rfl⟩ (by kernel_rfl) rfl e_127
theorem se0_171 (x : St ti_171) : (symF tb0 (spOf []) 171 (anOf an_171) 1000 ti_171 to_171 x).sure = true := by kernel_rfl
theorem e0_171 (x : St ti_171) (d : St to_171) : (symF tb0 (spOf []) 171 (anOf an_171) 1000 ti_171 to_171 x).pick d = cmp_isNaN_int x := by kernel_rfl
theorem k0_171 : SpecOk (calls tb0 (ex tb0)) 171 S_171 := plugT (f := 171) (an := anOf an_171) (fuel := 1000) (ti := ti_171) (to := to_171) (F := cmp_isNaN_int) (specsOk_nil) ⟨rfl, by kernel_rfl, by kernel_rfl, rfl, by kernel_rfl, by kernel_rfl⟩ (by kernel_rfl) rfl se0_171 e0_171
theorem se_171 (x : St ti_171) : (symF tbS (spOf []) 171 (anOf an_171) 1000 ti_171 to_171 x).sure = true := by kernel_rfl
theorem e_171 (x : St ti_171) (d : St to_171) : (symF tbS (spOf []) 171 (anOf an_171) 1000 ti_171 to_171 x).pick d = cmp_isNaN_int x := by kernel_rfl
theorem k_171 : SpecOk KS 171 S_171 := plugT (f := 171) (an := anOf an_171) (fuel := 1000) (ti := ti_171) (to := to_171) (F := cmp_isNaN_int) (specsOk_nil) ⟨rfl, by kernel_rfl, by kernel_rfl, rfl, by kernel_rfl, by kernel_rfl⟩ (by kernel_rfl) rfl se_171 e_171
theorem se0_151 (x : St ti_151) : (symF tb0 (spOf [(171, S_171)]) 151 (anOf an_151) 1000 ti_151 to_151 x).sure = true := by kernel_rfl
theorem e0_151 (x : St ti_151) (d : St to_151) : (symF tb0 (spOf [(171, S_171)]) 151 (anOf an_151) 1000 ti_151 to_151 x).pick d = cmp_Compare_int x := by kernel_rfl
theorem k0_151 : SpecOk (calls tb0 (ex tb0)) 151 S_151 := plugT (f := 151) (an := anOf an_151) (fuel := 1000) (ti := ti_151) (to := to_151) (F := cmp_Compare_int) (specsOk_cons k0_171 (specsOk_nil)) ⟨rfl, by kernel_rfl, by kernel_rfl, rfl, by kernel_rfl, by kernel_rfl⟩ (by kernel_rfl) rfl se0_151 e0_151
theorem se_151 (x : St ti_151) : (symF tbS (spOf [(171, S_171)]) 151 (anOf an_151) 1000 ti_151 to_151 x).sure = true := by kernel_rfl
theorem e_151 (x : St ti_151) (d : St to_151) : (symF tbS (spOf [(171, S_171)]) 151 (anOf an_151) 1000 ti_151 to_151 x).pick d = cmp_Compare_int x := by kernel_rfl
theorem k_151 : SpecOk KS 151 S_151 := plugT (f := 151) (an := anOf an_151) (fuel := 1000) (ti := ti_151) (to := to_151) (F := cmp_Compare_int) (specsOk_cons k_171 (specsOk_nil)) ⟨rfl, by kernel_rfl, by kernel_rfl, rfl, by kernel_rfl, by kernel_rfl⟩ (by kernel_rfl) rfl se_151 e_151
theorem e0_118 (x : St ti_118) : (symF tb0 (spOf [(127, S_127), (151, S_151)]) 118 (anOf an_118) 1000 ti_118 to_118 x).sem = stamp_Cmp x := by kernel_rfl
theorem k0_118 : SpecOk (calls tb0 (ex tb0)) 118 S_118 := plugO (f := 118) (an := anOf an_118) (fuel := 1000) (ti := ti_118) (to := to_118) (F := stamp_Cmp) (specsOk_cons k0_127 (specsOk_cons k0_151 (specsOk_nil))) ⟨rfl, by kernel_rfl, by kernel_rfl, rfl, by kernel_rfl, by kernel_rfl⟩ (by kernel_rfl) rfl e0_118
theorem e_118 (x : St ti_118) : (symF tbS (spOf [(127, S_127), (151, S_151)]) 118 (anOf an_118) 1000 ti_118 to_118 x).sem = stamp_Cmp x := by kernel_rfl
theorem k_118 : SpecOk KS 118 S_118 := plugO (f := 118) (an := anOf an_118) (fuel := 1000) (ti := ti_118) (to := to_118) (F := stamp_Cmp) (specsOk_cons k_127 (specsOk_cons k_151 (specsOk_nil))) ⟨rfl, by kernel_rfl, by kernel_rfl, rfl, by kernel_rfl, by kernel_rfl⟩ (by kernel_rfl) rfl e_118
theorem se0_128 (x : St ti_128) : (symF tb0 (spOf [(159, S_159)]) 128 (anOf an_128) 1000 ti_128 to_128 x).sure = true := by kernel_rfl
theorem e0_128 (x : St ti_128) (d : St to_128) : (symF tb0 (spOf [(159, S_159)]) 128 (anOf an_128) 1000 ti_128 to_128 x).pick d = strings_Compare x := by kernel_rfl
theorem k0_128 : SpecOk (calls tb0 (ex tb0)) 128 S_128 := plugT (f := 128) (an := anOf an_128) (fuel := 1000) (ti := ti_128) (to := to_128) (F := strings_Compare) (specsOk_cons k0_159 (specsOk_nil)) ⟨rfl, by kernel_rfl, by kernel_rfl, rfl, by kernel_rfl, by kernel_rfl⟩ (by kernel_rfl) rfl se0_128 e0_128
theorem e0_126 (x : St ti_126) : (symF tb0 (spOf [(118, S_118), (127, S_127), (128, S_128)]) 126 (anOf an_126) 1000 ti_126 to_126 x).sem = tree_Children_1 x := by kernel_rfl
theorem k0_126 : SpecOk (calls tb0 (ex tb0)) 126 S_126 := plugO (f := 126) (an := anOf an_126) (fuel := 1000) (ti := ti_126) (to := to_126) (F := tree_Children_1) (specsOk_cons k0_118 (specsOk_cons k0_127 (specsOk_cons k0_128 (specsOk_nil)))) ⟨rfl, by kernel_rfl, by kernel_rfl, rfl, by kernel_rfl, by kernel_rfl⟩ (by kernel_rfl) rfl e0_126
theorem k_125 : SpecOk KS 125 S_125 := sortS_ok rfl swo_slices_SortFunc_Node rfl
theorem e_154 (x : St ti_154) : (symF tbS (spOf [(118, S_118)]) 154 (anOf an_154) 1000 ti_154 to_154 x).sem = tree_find_1 x := by kernel_rfl
theorem k_154 : SpecOk KS 154 S_154 := plugO (f := 154) (an := anOf an_154) (fuel := 1000) (ti := ti_154) (to := to_154) (F := tree_find_1) (specsOk_cons k_118 (specsOk_nil)) ⟨rfl, by kernel_rfl, by kernel_rfl, rfl, by kernel_rfl, by kernel_rfl⟩ (by kernel_rfl) rfl e_154
theorem e_153 (x : St ti_153) : (symF tbS (spOf [(154, S_154)]) 153 (anOf an_153) 1000 ti_153 to_153 x).sem = slices_BinarySearchFunc_Node_Stamp x := by kernel_rfl
theorem k_153 : SpecOk KS 153 S_153 := plugO (f := 153) (an := anOf an_153) (fuel := 1000) (ti := ti_153) (to := to_153) (F := slices_BinarySearchFunc_Node_Stamp) (specsOk_cons k_154 (specsOk_nil)) ⟨rfl, by kernel_rfl, by kernel_rfl, rfl, by kernel_rfl, by kernel_rfl⟩ (by kernel_rfl) rfl e_153
theorem e_121 (x : St ti_121) : (symF tbS (spOf [(153, S_153)]) 121 (anOf an_121) 1000 ti_121 to_121 x).sem = tree_find x := by kernel_rfl
theorem k_121 : SpecOk KS 121 S_121 := plugO (f := 121) (an := anOf an_121) (fuel := 1000) (ti := ti_121) (to := to_121) (F := tree_find) (specsOk_cons k_153 (specsOk_nil)) ⟨rfl, by kernel_rfl, by kernel_rfl, rfl, by kernel_rfl, by kernel_rfl⟩ (by kernel_rfl) rfl e_121
theorem se_81 (x : St ti_81) : (symF tbS (spOf []) 81 (anOf an_81) 1000 ti_81 to_81 x).sure = true := by kernel_rfl
theorem e_81 (x : St ti_81) (d : St to_81) : (symF tbS (spOf []) 81 (anOf an_81) 1000 ti_81 to_81 x).pick d = arraslaw0_OpWeight x := by kernel_rfl
theorem k_81 : SpecOk KS 81 S_81 := plugT (f := 81) (an := anOf an_81) (fuel := 1000) (ti := ti_81) (to := to_81) (F := arraslaw0_OpWeight) (specsOk_nil) ⟨rfl, by kernel_rfl, by kernel_rfl, rfl, by kernel_rfl, by kernel_rfl⟩ (by kernel_rfl) rfl se_81 e_81
theorem e_39 (x : St ti_39) : (symF tbS (spOf [(81, S_81)]) 39 (anOf an_39) 1000 ti_39 to_39 x).sem = arraslaw0_TreeWeight x := by kernel_rfl
theorem k_39 : SpecOk KS 39 S_39 := plugO (f := 39) (an := anOf an_39) (fuel := 1000) (ti := ti_39) (to := to_39) (F := arraslaw0_TreeWeight) (specsOk_cons k_81 (specsOk_nil)) ⟨rfl, by kernel_rfl, by kernel_rfl, rfl, by kernel_rfl, by kernel_rfl⟩ (by kernel_rfl) rfl e_39
theorem e_40 (x : St ti_40) : (symF tbS (spOf [(81, S_81)]) 40 (anOf an_40) 1000 ti_40 to_40 x).sem = arraslaw0_OpsWeight x := by kernel_rfl
theorem k_40 : SpecOk KS 40 S_40 := plugO (f := 40) (an := anOf an_40) (fuel := 1000) (ti := ti_40) (to := to_40) (F := arraslaw0_OpsWeight) (specsOk_cons k_81 (specsOk_nil)) ⟨rfl, by kernel_rfl, by kernel_rfl, rfl, by kernel_rfl, by kernel_rfl⟩ (by kernel_rfl) rfl e_40
theorem e_6 (x : St ti_6) : (symF tbS (spOf [(39, S_39), (40, S_40)]) 6 (anOf an_6) 1000 ti_6 to_6 x).sem = arraslaw16_heavy x := by kernel_rfl
theorem k_6 : SpecOk KS 6 S_6 := plugO (f := 6) (an := anOf an_6) (fuel := 1000) (ti := ti_6) (to := to_6) (F := arraslaw16_heavy) (specsOk_cons k_39 (specsOk_cons k_40 (specsOk_nil))) ⟨rfl, by kernel_rfl, by kernel_rfl, rfl, by kernel_rfl, by kernel_rfl⟩ (by kernel_rfl) rfl e_6
theorem e_41 (x : St ti_41) : (symF tbS (spOf []) 41 (anOf an_41) 1000 ti_41 to_41 x).sem = arrasref0_CopyNodes x := by kernel_rfl
theorem k_41 : SpecOk KS 41 S_41 := plugK (f := 41) (an := an_41) (fuel := 1000) (ti := ti_41) (to := to_41) (F := arrasref0_CopyNodes) (specsOk_nil) ⟨by kernel_rfl, by kernel_rfl, by kernel_rfl, by kernel_rfl⟩ ⟨by kernel_rfl, by kernel_rfl, rfl, by kernel_rfl⟩ (by kernel_rfl) (by kernel_rfl) rfl e_41
theorem e_47 (x : St ti_47) : (symF tbS (spOf []) 47 (anOf an_47) 1000 ti_47 to_47 x).sem = arrasref0_CopyNumbers x := by kernel_rfl
theorem k_47 : SpecOk KS 47 S_47 := plugO (f := 47) (an := anOf an_47) (fuel := 1000) (ti := ti_47) (to := to_47) (F := arrasref0_CopyNumbers) (specsOk_nil) ⟨rfl, by kernel_rfl, by kernel_rfl, rfl, by kernel_rfl, by kernel_rfl⟩ (by kernel_rfl) rfl e_47
theorem e_11 (x : St ti_11) : (symF tbS (spOf [(47, S_47)]) 11 (anOf an_11) 1000 ti_11 to_11 x).sem = arrasref0_CopyOp x := by kernel_rfl
theorem k_11 : SpecOk KS 11 S_11 := plugO (f := 11) (an := anOf an_11) (fuel := 1000) (ti := ti_11) (to := to_11) (F := arrasref0_CopyOp) (specsOk_cons k_47 (specsOk_nil)) ⟨rfl, by kernel_rfl, by kernel_rfl, rfl, by kernel_rfl, by kernel_rfl⟩ (by kernel_rfl) rfl e_11
theorem e_82 (x : St ti_82) : (symF tbS (spOf [(11, S_11)]) 82 (anOf an_82) 1000 ti_82 to_82 x).sem = arrasref0_CopyEntry x := by kernel_rfl
theorem k_82 : SpecOk KS 82 S_82 := plugO (f := 82) (an := anOf an_82) (fuel := 1000) (ti := ti_82) (to := to_82) (F := arrasref0_CopyEntry) (specsOk_cons k_11 (specsOk_nil)) ⟨rfl, by kernel_rfl, by kernel_rfl, rfl, by kernel_rfl, by kernel_rfl⟩ (by kernel_rfl) rfl e_82
theorem e_42 (x : St ti_42) : (symF tbS (spOf [(82, S_82)]) 42 (anOf an_42) 1000 ti_42 to_42 x).sem = arrasref0_CopyMoves x := by kernel_rfl
theorem k_42 : SpecOk KS 42 S_42 := plugO (f := 42) (an := anOf an_42) (fuel := 1000) (ti := ti_42) (to := to_42) (F := arrasref0_CopyMoves) (specsOk_cons k_82 (specsOk_nil)) ⟨rfl, by kernel_rfl, by kernel_rfl, rfl, by kernel_rfl, by kernel_rfl⟩ (by kernel_rfl) rfl e_42
theorem e_7 (x : St ti_7) : (symF tbS (spOf [(41, S_41), (42, S_42)]) 7 (anOf an_7) 1000 ti_7 to_7 x).sem = arrasref0_CopyTree x := by kernel_rfl
theorem k_7 : SpecOk KS 7 S_7 := plugO (f := 7) (an := anOf an_7) (fuel := 1000) (ti := ti_7) (to := to_7) (F := arrasref0_CopyTree) (specsOk_cons k_41 (specsOk_cons k_42 (specsOk_nil))) ⟨rfl, by kernel_rfl, by kernel_rfl, rfl, by kernel_rfl, by kernel_rfl⟩ (by kernel_rfl) rfl e_7
theorem e_51 (x : St ti_51) : (symF tbS (spOf []) 51 (anOf an_51) 1000 ti_51 to_51 x).sem = arrasref0_EqNodes x := by kernel_rfl
theorem k_51 : SpecOk KS 51 S_51 := plugO (f := 51) (an := anOf an_51) (fuel := 1000) (ti := ti_51) (to := to_51) (F := arrasref0_EqNodes) (specsOk_nil) ⟨rfl, by kernel_rfl, by kernel_rfl, rfl, by kernel_rfl, by kernel_rfl⟩ (by kernel_rfl) rfl e_51
theorem e_53 (x : St ti_53) : (symF tbS (spOf []) 53 (anOf an_53) 1000 ti_53 to_53 x).sem = arrasref0_EqNumbers x := by kernel_rfl
theorem k_53 : SpecOk KS 53 S_53 := plugO (f := 53) (an := anOf an_53) (fuel := 1000) (ti := ti_53) (to := to_53) (F := arrasref0_EqNumbers) (specsOk_nil) ⟨rfl, by kernel_rfl, by kernel_rfl, rfl, by kernel_rfl, by kernel_rfl⟩ (by kernel_rfl) rfl e_53
theorem e_14 (x : St ti_14) : (symF tbS (spOf [(53, S_53)]) 14 (anOf an_14) 1000 ti_14 to_14 x).sem = arrasref0_EqOp x := by kernel_rfl
theorem k_14 : SpecOk KS 14 S_14 := plugO (f := 14) (an := anOf an_14) (fuel := 1000) (ti := ti_14) (to := to_14) (F := arrasref0_EqOp) (specsOk_cons k_53 (specsOk_nil)) ⟨rfl, by kernel_rfl, by kernel_rfl, rfl, by kernel_rfl, by kernel_rfl⟩ (by kernel_rfl) rfl e_14
theorem e_92 (x : St ti_92) : (symF tbS (spOf [(14, S_14)]) 92 (anOf an_92) 1000 ti_92 to_92 x).sem = arrasref0_EqEntry x := by kernel_rfl
theorem k_92 : SpecOk KS 92 S_92 := plugO (f := 92) (an := anOf an_92) (fuel := 1000) (ti := ti_92) (to := to_92) (F := arrasref0_EqEntry) (specsOk_cons k_14 (specsOk_nil)) ⟨rfl, by kernel_rfl, by kernel_rfl, rfl, by kernel_rfl, by kernel_rfl⟩ (by kernel_rfl) rfl e_92
theorem e_52 (x : St ti_52) : (symF tbS (spOf [(92, S_92)]) 52 (anOf an_52) 1000 ti_52 to_52 x).sem = arrasref0_EqMoves x := by kernel_rfl
theorem k_52 : SpecOk KS 52 S_52 := plugO (f := 52) (an := anOf an_52) (fuel := 1000) (ti := ti_52) (to := to_52) (F := arrasref0_EqMoves) (specsOk_cons k_92 (specsOk_nil)) ⟨rfl, by kernel_rfl, by kernel_rfl, rfl, by kernel_rfl, by kernel_rfl⟩ (by kernel_rfl) rfl e_52
theorem e_13 (x : St ti_13) : (symF tbS (spOf [(51, S_51), (52, S_52)]) 13 (anOf an_13) 1000 ti_13 to_13 x).sem = arrasref0_EqTree x := by kernel_rfl
theorem k_13 : SpecOk KS 13 S_13 := plugO (f := 13) (an := anOf an_13) (fuel := 1000) (ti := ti_13) (to := to_13) (F := arrasref0_EqTree) (specsOk_cons k_51 (specsOk_cons k_52 (specsOk_nil))) ⟨rfl, by kernel_rfl, by kernel_rfl, rfl, by kernel_rfl, by kernel_rfl⟩ (by kernel_rfl) rfl e_13
theorem se_99 (x : St ti_99) : (symF tbS (spOf []) 99 (anOf an_99) 1000 ti_99 to_99 x).sure = true := by kernel_rfl
theorem e_99 (x : St ti_99) (d : St to_99) : (symF tbS (spOf []) 99 (anOf an_99) 1000 ti_99 to_99 x).pick d = arrasref0_Num x := by kernel_rfl
theorem k_99 : SpecOk KS 99 S_99 := plugT (f := 99) (an := anOf an_99) (fuel := 1000) (ti := ti_99) (to := to_99) (F := arrasref0_Num) (specsOk_nil) ⟨rfl, by kernel_rfl, by kernel_rfl, rfl, by kernel_rfl, by kernel_rfl⟩ (by kernel_rfl) rfl se_99 e_99
theorem se_61 (x : St ti_61) : (symF tbS (spOf [(99, S_99)]) 61 (anOf an_61) 1000 ti_61 to_61 x).sure = true := by kernel_rfl
theorem e_61 (x : St ti_61) (d : St to_61) : (symF tbS (spOf [(99, S_99)]) 61 (anOf an_61) 1000 ti_61 to_61 x).pick d = arrasref6_Stamp x := by kernel_rfl
theorem k_61 : SpecOk KS 61 S_61 := plugT (f := 61) (an := anOf an_61) (fuel := 1000) (ti := ti_61) (to := to_61) (F := arrasref6_Stamp) (specsOk_cons k_99 (specsOk_nil)) ⟨rfl, by kernel_rfl, by kernel_rfl, rfl, by kernel_rfl, by kernel_rfl⟩ (by kernel_rfl) rfl se_61 e_61
theorem e_74 (x : St ti_74) : (symF tbS (spOf [(99, S_99)]) 74 (anOf an_74) 1000 ti_74 to_74 x).sem = arrasref6_Vector x := by kernel_rfl
theorem k_74 : SpecOk KS 74 S_74 := plugO (f := 74) (an := anOf an_74) (fuel := 1000) (ti := ti_74) (to := to_74) (F := arrasref6_Vector) (specsOk_cons k_99 (specsOk_nil)) ⟨rfl, by kernel_rfl, by kernel_rfl, rfl, by kernel_rfl, by kernel_rfl⟩ (by kernel_rfl) rfl e_74
theorem se_64 (x : St ti_64) : (symF tbS (spOf []) 64 (anOf an_64) 1000 ti_64 to_64 x).sure = true := by kernel_rfl
theorem e_64 (x : St ti_64) (d : St to_64) : (symF tbS (spOf []) 64 (anOf an_64) 1000 ti_64 to_64 x).pick d = arrasref6_Root x := by kernel_rfl
theorem k_64 : SpecOk KS 64 S_64 := plugT (f := 64) (an := anOf an_64) (fuel := 1000) (ti := ti_64) (to := to_64) (F := arrasref6_Root) (specsOk_nil) ⟨rfl, by kernel_rfl, by kernel_rfl, rfl, by kernel_rfl, by kernel_rfl⟩ (by kernel_rfl) rfl se_64 e_64
theorem se_113 (x : St ti_113) : (symF tbS (spOf []) 113 (anOf an_113) 1000 ti_113 to_113 x).sure = true := by kernel_rfl
theorem e_113 (x : St ti_113) (d : St to_113) : (symF tbS (spOf []) 113 (anOf an_113) 1000 ti_113 to_113 x).pick d = arrasref6_Trash x := by kernel_rfl
theorem k_113 : SpecOk KS 113 S_113 := plugT (f := 113) (an := anOf an_113) (fuel := 1000) (ti := ti_113) (to := to_113) (F := arrasref6_Trash) (specsOk_nil) ⟨rfl, by kernel_rfl, by kernel_rfl, rfl, by kernel_rfl, by kernel_rfl⟩ (by kernel_rfl) rfl se_113 e_113
theorem se_75 (x : St ti_75) : (symF tbS (spOf [(61, S_61), (64, S_64), (113, S_113)]) 75 (anOf an_75) 1000 ti_75 to_75 x).sure = true := by kernel_rfl
theorem e_75 (x : St ti_75) (d : St to_75) : (symF tbS (spOf [(61, S_61), (64, S_64), (113, S_113)]) 75 (anOf an_75) 1000 ti_75 to_75 x).pick d = arrasref6_Place x := by kernel_rfl
theorem k_75 : SpecOk KS 75 S_75 := plugT (f := 75) (an := anOf an_75) (fuel := 1000) (ti := ti_75) (to := to_75) (F := arrasref6_Place) (specsOk_cons k_61 (specsOk_cons k_64 (specsOk_cons k_113 (specsOk_nil)))) ⟨rfl, by kernel_rfl, by kernel_rfl, rfl, by kernel_rfl, by kernel_rfl⟩ (by kernel_rfl) rfl se_75 e_75
theorem e_76 (x : St ti_76) : (symF tbS (spOf []) 76 (anOf an_76) 1000 ti_76 to_76 x).sem = arrasref8_Key x := by kernel_rfl
theorem k_76 : SpecOk KS 76 S_76 := plugO (f := 76) (an := anOf an_76) (fuel := 1000) (ti := ti_76) (to := to_76) (F := arrasref8_Key) (specsOk_nil) ⟨rfl, by kernel_rfl, by kernel_rfl, rfl, by kernel_rfl, by kernel_rfl⟩ (by kernel_rfl) rfl e_76
theorem e_114 (x : St ti_114) : (symF tbS (spOf []) 114 (anOf an_114) 1000 ti_114 to_114 x).sem = arrasref8_value x := by kernel_rfl
theorem k_114 : SpecOk KS 114 S_114 := plugO (f := 114) (an := anOf an_114) (fuel := 1000) (ti := ti_114) (to := to_114) (F := arrasref8_value) (specsOk_nil) ⟨rfl, by kernel_rfl, by kernel_rfl, rfl, by kernel_rfl, by kernel_rfl⟩ (by kernel_rfl) rfl e_114
theorem e_77 (x : St ti_77) : (symF tbS (spOf [(114, S_114)]) 77 (anOf an_77) 1000 ti_77 to_77 x).sem = arrasref8_Check x := by kernel_rfl
theorem k_77 : SpecOk KS 77 S_77 := plugO (f := 77) (an := anOf an_77) (fuel := 1000) (ti := ti_77) (to := to_77) (F := arrasref8_Check) (specsOk_cons k_114 (specsOk_nil)) ⟨rfl, by kernel_rfl, by kernel_rfl, rfl, by kernel_rfl, by kernel_rfl⟩ (by kernel_rfl) rfl e_77
theorem e_35 (x : St ti_35) : (symF tbS (spOf [(14, S_14), (61, S_61), (74, S_74), (75, S_75), (76, S_76), (77, S_77)]) 35 (anOf an_35) 1000 ti_35 to_35 x).sem = arrasref10_Op x := by kernel_rfl
theorem k_35 : SpecOk KS 35 S_35 := plugO (f := 35) (an := anOf an_35) (fuel := 1000) (ti := ti_35) (to := to_35) (F := arrasref10_Op) (specsOk_cons k_14 (specsOk_cons k_61 (specsOk_cons k_74 (specsOk_cons k_75 (specsOk_cons k_76 (specsOk_cons k_77 (specsOk_nil))))))) ⟨rfl, by kernel_rfl, by kernel_rfl, rfl, by kernel_rfl, by kernel_rfl⟩ (by kernel_rfl) rfl e_35
theorem e_15 (x : St ti_15) : (symF tbS (spOf [(35, S_35)]) 15 (anOf an_15) 1000 ti_15 to_15 x).sem = arrasref16_Move x := by kernel_rfl
theorem k_15 : SpecOk KS 15 S_15 := plugO (f := 15) (an := anOf an_15) (fuel := 1000) (ti := ti_15) (to := to_15) (F := arrasref16_Move) (specsOk_cons k_35 (specsOk_nil)) ⟨rfl, by kernel_rfl, by kernel_rfl, rfl, by kernel_rfl, by kernel_rfl⟩ (by kernel_rfl) rfl e_15
theorem e_43 (x : St ti_43) : (symF tbS (spOf []) 43 (anOf an_43) 1000 ti_43 to_43 x).sem = arrasref16_Moves x := by kernel_rfl
theorem k_43 : SpecOk KS 43 S_43 := plugO (f := 43) (an := anOf an_43) (fuel := 1000) (ti := ti_43) (to := to_43) (F := arrasref16_Moves) (specsOk_nil) ⟨rfl, by kernel_rfl, by kernel_rfl, rfl, by kernel_rfl, by kernel_rfl⟩ (by kernel_rfl) rfl e_43
theorem se_44 (x : St ti_44) : (symF tbS (spOf []) 44 (anOf an_44) 1000 ti_44 to_44 x).sure = true := by kernel_rfl
theorem e_44 (x : St ti_44) (d : St to_44) : (symF tbS (spOf []) 44 (anOf an_44) 1000 ti_44 to_44 x).pick d = arrasref6_Cmp x := by kernel_rfl
theorem k_44 : SpecOk KS 44 S_44 := plugT (f := 44) (an := anOf an_44) (fuel := 1000) (ti := ti_44) (to := to_44) (F := arrasref6_Cmp) (specsOk_nil) ⟨rfl, by kernel_rfl, by kernel_rfl, rfl, by kernel_rfl, by kernel_rfl⟩ (by kernel_rfl) rfl se_44 e_44
theorem e_116 (x : St ti_116) : (symF tbS (spOf []) 116 (anOf an_116) 1000 ti_116 to_116 x).sem = arrasref16_Find x := by kernel_rfl
theorem k_116 : SpecOk KS 116 S_116 := plugO (f := 116) (an := anOf an_116) (fuel := 1000) (ti := ti_116) (to := to_116) (F := arrasref16_Find) (specsOk_nil) ⟨rfl, by kernel_rfl, by kernel_rfl, rfl, by kernel_rfl, by kernel_rfl⟩ (by kernel_rfl) rfl e_116
theorem e_117 (x : St ti_117) : (symF tbS (spOf [(116, S_116)]) 117 (anOf an_117) 1000 ti_117 to_117 x).sem = arrasref16_over x := by kernel_rfl
theorem k_117 : SpecOk KS 117 S_117 := plugO (f := 117) (an := anOf an_117) (fuel := 1000) (ti := ti_117) (to := to_117) (F := arrasref16_over) (specsOk_cons k_116 (specsOk_nil)) ⟨rfl, by kernel_rfl, by kernel_rfl, rfl, by kernel_rfl, by kernel_rfl⟩ (by kernel_rfl) rfl e_117
theorem e_83 (x : St ti_83) : (symF tbS (spOf [(11, S_11), (41, S_41), (44, S_44), (116, S_116), (117, S_117)]) 83 (anOf an_83) 1000 ti_83 to_83 x).sem = arrasref16_done x := by kernel_rfl
theorem k_83 : SpecOk KS 83 S_83 := plugK (f := 83) (an := an_83) (fuel := 1000) (ti := ti_83) (to := to_83) (F := arrasref16_done) (specsOk_cons k_11 (specsOk_cons k_41 (specsOk_cons k_44 (specsOk_cons k_116 (specsOk_cons k_117 (specsOk_nil)))))) ⟨by kernel_rfl, by kernel_rfl, by kernel_rfl, by kernel_rfl⟩ ⟨by kernel_rfl, by kernel_rfl, rfl, by kernel_rfl⟩ (by kernel_rfl) (by kernel_rfl) rfl e_83
theorem e_45 (x : St ti_45) : (symF tbS (spOf [(83, S_83)]) 45 (anOf an_45) 1000 ti_45 to_45 x).sem = arrasref16_Made x := by kernel_rfl
theorem k_45 : SpecOk KS 45 S_45 := plugK (f := 45) (an := an_45) (fuel := 1000) (ti := ti_45) (to := to_45) (F := arrasref16_Made) (specsOk_cons k_83 (specsOk_nil)) ⟨by kernel_rfl, by kernel_rfl, by kernel_rfl, by kernel_rfl⟩ ⟨by kernel_rfl, by kernel_rfl, rfl, by kernel_rfl⟩ (by kernel_rfl) (by kernel_rfl) rfl e_45
theorem e_8 (x : St ti_8) : (symF tbS (spOf [(13, S_13), (15, S_15), (43, S_43), (44, S_44), (45, S_45)]) 8 (anOf an_8) 1000 ti_8 to_8 x).sem = arrasref16_Tree x := by kernel_rfl
theorem k_8 : SpecOk KS 8 S_8 := plugO (f := 8) (an := anOf an_8) (fuel := 1000) (ti := ti_8) (to := to_8) (F := arrasref16_Tree) (specsOk_cons k_13 (specsOk_cons k_15 (specsOk_cons k_43 (specsOk_cons k_44 (specsOk_cons k_45 (specsOk_nil)))))) ⟨rfl, by kernel_rfl, by kernel_rfl, rfl, by kernel_rfl, by kernel_rfl⟩ (by kernel_rfl) rfl e_8
theorem se_9 (x : St ti_9) : (symF tbS (spOf []) 9 (anOf an_9) 1000 ti_9 to_9 x).sure = true := by kernel_rfl
theorem e_9 (x : St ti_9) (d : St to_9) : (symF tbS (spOf []) 9 (anOf an_9) 1000 ti_9 to_9 x).pick d = arraslaw16_num x := by kernel_rfl
theorem k_9 : SpecOk KS 9 S_9 := plugT (f := 9) (an := anOf an_9) (fuel := 1000) (ti := ti_9) (to := to_9) (F := arraslaw16_num) (specsOk_nil) ⟨rfl, by kernel_rfl, by kernel_rfl, rfl, by kernel_rfl, by kernel_rfl⟩ (by kernel_rfl) rfl se_9 e_9
theorem se_105 (x : St ti_105) : (symF tbS (spOf []) 105 (anOf an_105) 1000 ti_105 to_105 x).sure = true := by kernel_rfl
theorem e_105 (x : St ti_105) (d : St to_105) : (symF tbS (spOf []) 105 (anOf an_105) 1000 ti_105 to_105 x).pick d = stamp_Is x := by kernel_rfl
theorem k_105 : SpecOk KS 105 S_105 := plugT (f := 105) (an := anOf an_105) (fuel := 1000) (ti := ti_105) (to := to_105) (F := stamp_Is) (specsOk_nil) ⟨rfl, by kernel_rfl, by kernel_rfl, rfl, by kernel_rfl, by kernel_rfl⟩ (by kernel_rfl) rfl se_105 e_105
theorem e_106 (x : St ti_106) : (symF tbS (spOf []) 106 (anOf an_106) 1000 ti_106 to_106 x).sem = have_Is x := by kernel_rfl
theorem k_106 : SpecOk KS 106 S_106 := plugO (f := 106) (an := anOf an_106) (fuel := 1000) (ti := ti_106) (to := to_106) (F := have_Is) (specsOk_nil) ⟨rfl, by kernel_rfl, by kernel_rfl, rfl, by kernel_rfl, by kernel_rfl⟩ (by kernel_rfl) rfl e_106
theorem se_97 (x : St ti_97) : (symF tbS (spOf []) 97 (anOf an_97) 1000 ti_97 to_97 x).sure = true := by kernel_rfl
theorem e_97 (x : St ti_97) (d : St to_97) : (symF tbS (spOf []) 97 (anOf an_97) 1000 ti_97 to_97 x).pick d = stamp_Root x := by kernel_rfl
theorem k_97 : SpecOk KS 97 S_97 := plugT (f := 97) (an := anOf an_97) (fuel := 1000) (ti := ti_97) (to := to_97) (F := stamp_Root) (specsOk_nil) ⟨rfl, by kernel_rfl, by kernel_rfl, rfl, by kernel_rfl, by kernel_rfl⟩ (by kernel_rfl) rfl se_97 e_97
theorem se_162 (x : St ti_162) : (symF tbS (spOf []) 162 (anOf an_162) 1000 ti_162 to_162 x).sure = true := by kernel_rfl
theorem e_162 (x : St ti_162) (d : St to_162) : (symF tbS (spOf []) 162 (anOf an_162) 1000 ti_162 to_162 x).pick d = stamp_Trash x := by kernel_rfl
theorem k_162 : SpecOk KS 162 S_162 := plugT (f := 162) (an := anOf an_162) (fuel := 1000) (ti := ti_162) (to := to_162) (F := stamp_Trash) (specsOk_nil) ⟨rfl, by kernel_rfl, by kernel_rfl, rfl, by kernel_rfl, by kernel_rfl⟩ (by kernel_rfl) rfl se_162 e_162
theorem se_138 (x : St ti_138) : (symF tbS (spOf [(97, S_97), (105, S_105), (162, S_162)]) 138 (anOf an_138) 1000 ti_138 to_138 x).sure = true := by kernel_rfl
theorem e_138 (x : St ti_138) (d : St to_138) : (symF tbS (spOf [(97, S_97), (105, S_105), (162, S_162)]) 138 (anOf an_138) 1000 ti_138 to_138 x).pick d = stamp_Place x := by kernel_rfl
theorem k_138 : SpecOk KS 138 S_138 := plugT (f := 138) (an := anOf an_138) (fuel := 1000) (ti := ti_138) (to := to_138) (F := stamp_Place) (specsOk_cons k_97 (specsOk_cons k_105 (specsOk_cons k_162 (specsOk_nil)))) ⟨rfl, by kernel_rfl, by kernel_rfl, rfl, by kernel_rfl, by kernel_rfl⟩ (by kernel_rfl) rfl se_138 e_138
theorem e_139 (x : St ti_139) : (symF tbS (spOf []) 139 (anOf an_139) 1000 ti_139 to_139 x).sem = key_Is x := by kernel_rfl
theorem k_139 : SpecOk KS 139 S_139 := plugO (f := 139) (an := anOf an_139) (fuel := 1000) (ti := ti_139) (to := to_139) (F := key_Is) (specsOk_nil) ⟨rfl, by kernel_rfl, by kernel_rfl, rfl, by kernel_rfl, by kernel_rfl⟩ (by kernel_rfl) rfl e_139
theorem e_132 (x : St ti_132) : (symF tbS (spOf []) 132 (anOf an_132) 1000 ti_132 to_132 x).sem = prop_ruleOf x := by kernel_rfl
theorem k_132 : SpecOk KS 132 S_132 := plugO (f := 132) (an := anOf an_132) (fuel := 1000) (ti := ti_132) (to := to_132) (F := prop_ruleOf) (specsOk_nil) ⟨rfl, by kernel_rfl, by kernel_rfl, rfl, by kernel_rfl, by kernel_rfl⟩ (by kernel_rfl) rfl e_132
theorem se_163 (x : St ti_163) : (symF tbS (spOf []) 163 (anOf an_163) 1000 ti_163 to_163 x).sure = true := by kernel_rfl
theorem e_163 (x : St ti_163) (d : St to_163) : (symF tbS (spOf []) 163 (anOf an_163) 1000 ti_163 to_163 x).pick d = prop_Is x := by kernel_rfl
theorem k_163 : SpecOk KS 163 S_163 := plugT (f := 163) (an := anOf an_163) (fuel := 1000) (ti := ti_163) (to := to_163) (F := prop_Is) (specsOk_nil) ⟨rfl, by kernel_rfl, by kernel_rfl, rfl, by kernel_rfl, by kernel_rfl⟩ (by kernel_rfl) rfl se_163 e_163
theorem e_140 (x : St ti_140) : (symF tbS (spOf [(132, S_132), (163, S_163)]) 140 (anOf an_140) 1000 ti_140 to_140 x).sem = prop_May x := by kernel_rfl
theorem k_140 : SpecOk KS 140 S_140 := plugO (f := 140) (an := anOf an_140) (fuel := 1000) (ti := ti_140) (to := to_140) (F := prop_May) (specsOk_cons k_132 (specsOk_cons k_163 (specsOk_nil))) ⟨rfl, by kernel_rfl, by kernel_rfl, rfl, by kernel_rfl, by kernel_rfl⟩ (by kernel_rfl) rfl e_140
theorem e_107 (x : St ti_107) : (symF tbS (spOf [(97, S_97), (138, S_138), (139, S_139), (140, S_140)]) 107 (anOf an_107) 1000 ti_107 to_107 x).sem = op_kind x := by kernel_rfl
theorem k_107 : SpecOk KS 107 S_107 := plugO (f := 107) (an := anOf an_107) (fuel := 1000) (ti := ti_107) (to := to_107) (F := op_kind) (specsOk_cons k_97 (specsOk_cons k_138 (specsOk_cons k_139 (specsOk_cons k_140 (specsOk_nil))))) ⟨rfl, by kernel_rfl, by kernel_rfl, rfl, by kernel_rfl, by kernel_rfl⟩ (by kernel_rfl) rfl e_107
theorem e_71 (x : St ti_71) : (symF tbS (spOf [(105, S_105), (106, S_106), (107, S_107)]) 71 (anOf an_71) 1000 ti_71 to_71 x).sem = op_May x := by kernel_rfl
theorem k_71 : SpecOk KS 71 S_71 := plugO (f := 71) (an := anOf an_71) (fuel := 1000) (ti := ti_71) (to := to_71) (F := op_May) (specsOk_cons k_105 (specsOk_cons k_106 (specsOk_cons k_107 (specsOk_nil)))) ⟨rfl, by kernel_rfl, by kernel_rfl, rfl, by kernel_rfl, by kernel_rfl⟩ (by kernel_rfl) rfl e_71
theorem e_48 (x : St ti_48) : (symF tbS (spOf [(71, S_71)]) 48 (anOf an_48) 1000 ti_48 to_48 x).sem = tree_move x := by kernel_rfl
theorem k_48 : SpecOk KS 48 S_48 := plugO (f := 48) (an := anOf an_48) (fuel := 1000) (ti := ti_48) (to := to_48) (F := tree_move) (specsOk_cons k_71 (specsOk_nil)) ⟨rfl, by kernel_rfl, by kernel_rfl, rfl, by kernel_rfl, by kernel_rfl⟩ (by kernel_rfl) rfl e_48
theorem e_84 (x : St ti_84) : (symF tbS (spOf [(118, S_118)]) 84 (anOf an_84) 1000 ti_84 to_84 x).sem = op_Less x := by kernel_rfl
theorem k_84 : SpecOk KS 84 S_84 := plugO (f := 84) (an := anOf an_84) (fuel := 1000) (ti := ti_84) (to := to_84) (F := op_Less) (specsOk_cons k_118 (specsOk_nil)) ⟨rfl, by kernel_rfl, by kernel_rfl, rfl, by kernel_rfl, by kernel_rfl⟩ (by kernel_rfl) rfl e_84
theorem e_152 (x : St ti_152) : (symF tbS (spOf []) 152 (anOf an_152) 1000 ti_152 to_152 x).sem = slices_Equal_int x := by kernel_rfl
theorem k_152 : SpecOk KS 152 S_152 := plugO (f := 152) (an := anOf an_152) (fuel := 1000) (ti := ti_152) (to := to_152) (F := slices_Equal_int) (specsOk_nil) ⟨rfl, by kernel_rfl, by kernel_rfl, rfl, by kernel_rfl, by kernel_rfl⟩ (by kernel_rfl) rfl e_152
theorem e_119 (x : St ti_119) : (symF tbS (spOf [(152, S_152)]) 119 (anOf an_119) 1000 ti_119 to_119 x).sem = op_Same x := by kernel_rfl
theorem k_119 : SpecOk KS 119 S_119 := plugO (f := 119) (an := anOf an_119) (fuel := 1000) (ti := ti_119) (to := to_119) (F := op_Same) (specsOk_cons k_152 (specsOk_nil)) ⟨rfl, by kernel_rfl, by kernel_rfl, rfl, by kernel_rfl, by kernel_rfl⟩ (by kernel_rfl) rfl e_119
theorem e_85 (x : St ti_85) : (symF tbS (spOf [(119, S_119)]) 85 (anOf an_85) 1000 ti_85 to_85 x).sem = tree_same x := by kernel_rfl
theorem k_85 : SpecOk KS 85 S_85 := plugO (f := 85) (an := anOf an_85) (fuel := 1000) (ti := ti_85) (to := to_85) (F := tree_same) (specsOk_cons k_119 (specsOk_nil)) ⟨rfl, by kernel_rfl, by kernel_rfl, rfl, by kernel_rfl, by kernel_rfl⟩ (by kernel_rfl) rfl e_85
theorem e_91 (x : St ti_91) : (symF tbS (spOf [(124, S_124)]) 91 (anOf an_91) 1000 ti_91 to_91 x).sem = op_Own x := by kernel_rfl
theorem k_91 : SpecOk KS 91 S_91 := plugK (f := 91) (an := an_91) (fuel := 1000) (ti := ti_91) (to := to_91) (F := op_Own) (specsOk_cons k_124 (specsOk_nil)) ⟨by kernel_rfl, by kernel_rfl, by kernel_rfl, by kernel_rfl⟩ ⟨by kernel_rfl, by kernel_rfl, rfl, by kernel_rfl⟩ (by kernel_rfl) (by kernel_rfl) rfl e_91
theorem e_120 (x : St ti_120) : (symF tbS (spOf [(121, S_121)]) 120 (anOf an_120) 1000 ti_120 to_120 x).sem = tree_work_circle x := by kernel_rfl
theorem k_120 : SpecOk KS 120 S_120 := plugO (f := 120) (an := anOf an_120) (fuel := 1000) (ti := ti_120) (to := to_120) (F := tree_work_circle) (specsOk_cons k_121 (specsOk_nil)) ⟨rfl, by kernel_rfl, by kernel_rfl, rfl, by kernel_rfl, by kernel_rfl⟩ (by kernel_rfl) rfl e_120
theorem e_86 (x : St ti_86) : (symF tbS (spOf [(91, S_91), (120, S_120), (121, S_121), (122, S_122)]) 86 (anOf an_86) 1000 ti_86 to_86 x).sem = tree_work_do x := by kernel_rfl
theorem k_86 : SpecOk KS 86 S_86 := plugK (f := 86) (an := an_86) (fuel := 1000) (ti := ti_86) (to := to_86) (F := tree_work_do) (specsOk_cons k_91 (specsOk_cons k_120 (specsOk_cons k_121 (specsOk_cons k_122 (specsOk_nil))))) ⟨by kernel_rfl, by kernel_rfl, by kernel_rfl, by kernel_rfl⟩ ⟨by kernel_rfl, by kernel_rfl, rfl, by kernel_rfl⟩ (by kernel_rfl) (by kernel_rfl) rfl e_86
theorem e_87 (x : St ti_87) : (symF tbS (spOf []) 87 (anOf an_87) 1000 ti_87 to_87 x).sem = slices_Equal_Node x := by kernel_rfl
theorem k_87 : SpecOk KS 87 S_87 := plugO (f := 87) (an := anOf an_87) (fuel := 1000) (ti := ti_87) (to := to_87) (F := slices_Equal_Node) (specsOk_nil) ⟨rfl, by kernel_rfl, by kernel_rfl, rfl, by kernel_rfl, by kernel_rfl⟩ (by kernel_rfl) rfl e_87
theorem e_46 (x : St ti_46) : (symF tbS (spOf [(48, S_48), (84, S_84), (85, S_85), (86, S_86), (87, S_87)]) 46 (anOf an_46) 1000 ti_46 to_46 x).sem = tree_May x := by kernel_rfl
theorem k_46 : SpecOk KS 46 S_46 := plugO (f := 46) (an := anOf an_46) (fuel := 1000) (ti := ti_46) (to := to_46) (F := tree_May) (specsOk_cons k_48 (specsOk_cons k_84 (specsOk_cons k_85 (specsOk_cons k_86 (specsOk_cons k_87 (specsOk_nil)))))) ⟨rfl, by kernel_rfl, by kernel_rfl, rfl, by kernel_rfl, by kernel_rfl⟩ (by kernel_rfl) rfl e_46
theorem e_10 (x : St ti_10) : (symF tbS (spOf [(46, S_46)]) 10 (anOf an_10) 1000 ti_10 to_10 x).sem = tree_Check x := by kernel_rfl
theorem k_10 : SpecOk KS 10 S_10 := plugO (f := 10) (an := anOf an_10) (fuel := 1000) (ti := ti_10) (to := to_10) (F := tree_Check) (specsOk_cons k_46 (specsOk_nil)) ⟨rfl, by kernel_rfl, by kernel_rfl, rfl, by kernel_rfl, by kernel_rfl⟩ (by kernel_rfl) rfl e_10
theorem e_88 (x : St ti_88) : (symF tbS (spOf [(121, S_121), (123, S_123)]) 88 (anOf an_88) 1000 ti_88 to_88 x).sem = tree_work_undo x := by kernel_rfl
theorem k_88 : SpecOk KS 88 S_88 := plugK (f := 88) (an := an_88) (fuel := 1000) (ti := ti_88) (to := to_88) (F := tree_work_undo) (specsOk_cons k_121 (specsOk_cons k_123 (specsOk_nil))) ⟨by kernel_rfl, by kernel_rfl, by kernel_rfl, by kernel_rfl⟩ ⟨by kernel_rfl, by kernel_rfl, rfl, by kernel_rfl⟩ (by kernel_rfl) (by kernel_rfl) rfl e_88
theorem e_49 (x : St ti_49) : (symF tbS (spOf [(84, S_84), (86, S_86), (88, S_88), (89, S_89)]) 49 (anOf an_49) 1000 ti_49 to_49 x).sem = tree_Put x := by kernel_rfl
theorem k_49 : SpecOk KS 49 S_49 := plugK (f := 49) (an := an_49) (fuel := 1000) (ti := ti_49) (to := to_49) (F := tree_Put) (specsOk_cons k_84 (specsOk_cons k_86 (specsOk_cons k_88 (specsOk_cons k_89 (specsOk_nil))))) ⟨by kernel_rfl, by kernel_rfl, by kernel_rfl, by kernel_rfl⟩ ⟨by kernel_rfl, by kernel_rfl, rfl, by kernel_rfl⟩ (by kernel_rfl) (by kernel_rfl) rfl e_49
theorem e_50 (x : St ti_50) : (symF tbS (spOf [(89, S_89), (90, S_90), (91, S_91)]) 50 (anOf an_50) 1000 ti_50 to_50 x).sem = tree_Own x := by kernel_rfl
theorem k_50 : SpecOk KS 50 S_50 := plugK (f := 50) (an := an_50) (fuel := 1000) (ti := ti_50) (to := to_50) (F := tree_Own) (specsOk_cons k_89 (specsOk_cons k_90 (specsOk_cons k_91 (specsOk_nil)))) ⟨by kernel_rfl, by kernel_rfl, by kernel_rfl, by kernel_rfl⟩ ⟨by kernel_rfl, by kernel_rfl, rfl, by kernel_rfl⟩ (by kernel_rfl) (by kernel_rfl) rfl e_50
theorem e_12 (x : St ti_12) : (symF tbS (spOf [(46, S_46), (48, S_48), (49, S_49), (50, S_50)]) 12 (anOf an_12) 1000 ti_12 to_12 x).sem = tree_Apply x := by kernel_rfl
theorem k_12 : SpecOk KS 12 S_12 := plugK (f := 12) (an := an_12) (fuel := 1000) (ti := ti_12) (to := to_12) (F := tree_Apply) (specsOk_cons k_46 (specsOk_cons k_48 (specsOk_cons k_49 (specsOk_cons k_50 (specsOk_nil))))) ⟨by kernel_rfl, by kernel_rfl, by kernel_rfl, by kernel_rfl⟩ ⟨by kernel_rfl, by kernel_rfl, rfl, by kernel_rfl⟩ (by kernel_rfl) (by kernel_rfl) rfl e_12
theorem e_16 (x : St ti_16) : (symF tbS (spOf [(43, S_43), (44, S_44), (45, S_45)]) 16 (anOf an_16) 1000 ti_16 to_16 x).sem = arrasref16_Apply x := by kernel_rfl
theorem k_16 : SpecOk KS 16 S_16 := plugO (f := 16) (an := anOf an_16) (fuel := 1000) (ti := ti_16) (to := to_16) (F := arrasref16_Apply) (specsOk_cons k_43 (specsOk_cons k_44 (specsOk_cons k_45 (specsOk_nil)))) ⟨rfl, by kernel_rfl, by kernel_rfl, rfl, by kernel_rfl, by kernel_rfl⟩ (by kernel_rfl) rfl e_16
theorem se_55 (x : St ti_55) : (symF tbS (spOf []) 55 (anOf an_55) 1000 ti_55 to_55 x).sure = true := by kernel_rfl
theorem e_55 (x : St ti_55) (d : St to_55) : (symF tbS (spOf []) 55 (anOf an_55) 1000 ti_55 to_55 x).pick d = arraslaw10_O x := by kernel_rfl
theorem k_55 : SpecOk KS 55 S_55 := plugT (f := 55) (an := anOf an_55) (fuel := 1000) (ti := ti_55) (to := to_55) (F := arraslaw10_O) (specsOk_nil) ⟨rfl, by kernel_rfl, by kernel_rfl, rfl, by kernel_rfl, by kernel_rfl⟩ (by kernel_rfl) rfl se_55 e_55
theorem e_93 (x : St ti_93) : (symF tbS (spOf [(125, S_125)]) 93 (anOf an_93) 1000 ti_93 to_93 x).sem = tree_Children x := by kernel_rfl
theorem k_93 : SpecOk KS 93 S_93 := plugO (f := 93) (an := anOf an_93) (fuel := 1000) (ti := ti_93) (to := to_93) (F := tree_Children) (specsOk_cons k_125 (specsOk_nil)) ⟨rfl, by kernel_rfl, by kernel_rfl, rfl, by kernel_rfl, by kernel_rfl⟩ (by kernel_rfl) rfl e_93
theorem e_56 (x : St ti_56) : (symF tbS (spOf [(46, S_46), (93, S_93)]) 56 (anOf an_56) 1000 ti_56 to_56 x).sem = tree_Kids x := by kernel_rfl
theorem k_56 : SpecOk KS 56 S_56 := plugO (f := 56) (an := anOf an_56) (fuel := 1000) (ti := ti_56) (to := to_56) (F := tree_Kids) (specsOk_cons k_46 (specsOk_cons k_93 (specsOk_nil))) ⟨rfl, by kernel_rfl, by kernel_rfl, rfl, by kernel_rfl, by kernel_rfl⟩ (by kernel_rfl) rfl e_56
theorem e_1000012 (x : St ti_1000012) : (symF tbS (spOf [(46, S_46), (48, S_48), (49, S_49), (50, S_50)]) 1000012 (anOf an_1000012) 1000 ti_1000012 to_1000012 x).sem = tree_Apply_v x := by kernel_rfl
theorem k_1000012 : SpecOk KS 1000012 S_1000012 := plugO (f := 1000012) (an := anOf an_1000012) (fuel := 1000) (ti := ti_1000012) (to := to_1000012) (F := tree_Apply_v) (specsOk_cons k_46 (specsOk_cons k_48 (specsOk_cons k_49 (specsOk_cons k_50 (specsOk_nil))))) ⟨rfl, by kernel_rfl, by kernel_rfl, rfl, by kernel_rfl, by kernel_rfl⟩ (by kernel_rfl) rfl e_1000012
theorem e_18 (x : St ti_18) : (symF tbS (spOf [(9, S_9), (55, S_55), (56, S_56), (1000012, S_1000012)]) 18 (anOf an_18) 1000 ti_18 to_18 x).sem = arraslaw16_wakes x := by kernel_rfl
theorem k_18 : SpecOk KS 18 S_18 := plugO (f := 18) (an := anOf an_18) (fuel := 1000) (ti := ti_18) (to := to_18) (F := arraslaw16_wakes) (specsOk_cons k_9 (specsOk_cons k_55 (specsOk_cons k_56 (specsOk_cons k_1000012 (specsOk_nil))))) ⟨rfl, by kernel_rfl, by kernel_rfl, rfl, by kernel_rfl, by kernel_rfl⟩ (by kernel_rfl) rfl e_18
theorem e_3 (x : St ti_3) : (symF tbS (spOf [(6, S_6), (7, S_7), (8, S_8), (9, S_9), (10, S_10), (11, S_11), (12, S_12), (13, S_13), (14, S_14), (15, S_15), (16, S_16), (17, S_17), (18, S_18)]) 3 (anOf an_3) 1000 ti_3 to_3 x).sem = arraslaw16_TreeApplies x := by kernel_rfl
theorem k_3 : SpecOk KS 3 S_3 := plugO (f := 3) (an := anOf an_3) (fuel := 1000) (ti := ti_3) (to := to_3) (F := arraslaw16_TreeApplies) (specsOk_cons k_6 (specsOk_cons k_7 (specsOk_cons k_8 (specsOk_cons k_9 (specsOk_cons k_10 (specsOk_cons k_11 (specsOk_cons k_12 (specsOk_cons k_13 (specsOk_cons k_14 (specsOk_cons k_15 (specsOk_cons k_16 (specsOk_cons k_17 (specsOk_cons k_18 (specsOk_nil)))))))))))))) ⟨rfl, by kernel_rfl, by kernel_rfl, rfl, by kernel_rfl, by kernel_rfl⟩ (by kernel_rfl) rfl e_3
end Go.Dv
