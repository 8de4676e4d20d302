/- What the code comes to: each function of the seat, by the engine. Printed by a tool (seat.py). -/
import Derived.Test.YtlfkabehppdohaaGreatProg
import Derived.Test.YtlfkabehppdohaaGreatDvI
import Derived.Test.YtlfkabehppdohaaGreatNat
import Derived.Test.YtlfkabehppdohaaGreatTrA
set_option linter.unusedVariables false
set_option linter.unusedSimpArgs false
set_option maxRecDepth 100000
open Go (IntKind)
namespace Go.Dv
abbrev polS : Pol := ⟨[0, 1, 2, 3, 4, 5, 6, 7, 8, 9, 10, 11, 12, 13, 14, 15, 16, 17, 18, 20, 21, 22, 23, 24, 25, 26, 27, 28, 29, 30, 31, 32, 33, 34, 36, 38, 39, 40, 41, 42, 43, 44, 45, 46, 47, 48, 49, 51, 53, 54, 55, 56, 57, 58, 59, 60, 61, 62, 63, 64, 65, 66, 67, 68, 69, 70, 71, 72, 73, 74, 75, 76, 77, 78, 79, 81, 82, 83, 84, 85, 88, 90, 91, 92, 93, 94, 95, 96, 97, 98, 100, 101, 102, 104, 106, 107, 108, 109, 111, 112, 113, 114, 115, 116, 117, 118, 119, 120, 121, 123, 124, 125, 126, 127, 128, 129, 131, 133, 136, 137, 139, 140, 141, 143, 144, 145, 146, 147, 148, 149, 150, 152, 153, 154, 155, 156, 157, 158, 159, 162, 163, 164, 165, 166, 169, 170, 171, 172, 173, 174, 175, 176, 177, 179, 180, 181, 182, 183, 185, 186, 187, 188, 189, 191, 192, 193, 194, 195, 196, 197, 198, 199, 200, 201, 202, 203, 204, 205, 206, 207, 208, 209, 210, 211, 212, 213, 214, 215, 216, 217, 218, 219, 220, 221, 222, 223, 224, 225, 226, 227, 228, 229, 230, 231, 232, 233, 234, 235] ++ [1000089, 1000110, 1000122], fun f => ((([] : List (Nat × List Nat)).lookup f).getD []), fun f => ((([(108, [122]), (66, [110]), (87, [89])] : List (Nat × List Nat)).lookup f).getD [])⟩
noncomputable abbrev tb0 : Table := ⟨funOf Go.Proofs.Tryz.prog polS, fun f => List.lookup f [(182, cmpPrim)]⟩
noncomputable abbrev tbS : Table := ⟨funOf Go.Proofs.Tryz.prog polS, fun f => List.lookup f [(132, insPrim 3 40), (152, sortPrim sNode cf_slices_SortFunc_Node 153), (167, insPrim 4 32), (178, insPrim 5 48), (182, cmpPrim), (184, cutPrim tb0 184)]⟩
noncomputable abbrev KS : Oracle := calls tbS (ex tbS)
noncomputable def S_89 : Spec := cloneS 4 32
noncomputable def S_132 : Spec := insertS 3 40
noncomputable def S_135 : Spec := cloneS 3 40
noncomputable def S_152 : Spec := specI 5 sNode [.fn 153 []] slices_SortFunc_Node
noncomputable def S_161 : Spec := cloneS 17 168
noncomputable def S_167 : Spec := insertS 4 32
noncomputable def S_168 : Spec := cloneS 5 48
noncomputable def S_178 : Spec := insertS 5 48
noncomputable def S_182 : Spec := cmpStrS
noncomputable def S_184 : Spec := deleteS 5 48
noncomputable def S_190 : Spec := cloneS 1 8
noncomputable def S_1000089 : Spec := specO [.kd (.val (.list sReg))] [.val (.list sReg)] slices_Clone_Reg_v
abbrev ti_154 : Tm := ⟨[(0, .one (.kd (.val (.list sI))))], []⟩
abbrev to_154 : Tm := ⟨[(0, .one (.kd (.val sI)))], []⟩
def an_154 : List (Nat × Ann) := [(57, .loop ⟨[(3, .one (.kd (.val sI))), (6, .one (.kd (.val (.list sI)))), (7, .one (.kd (.val sI))), (8, .one (.kd (.val sI)))], []⟩ [(.exit 0, ⟨[(3, .one (.kd (.val sI)))], []⟩), (.ret, ⟨[(2, .one (.kd (.val sI)))], []⟩)])]
noncomputable def S_154 : Spec := specO ti_154.gs (kinds to_154.gs) cmp_Or_int
abbrev ti_197 : Tm := ⟨[(0, .one (.kd (.val sI)))], []⟩
abbrev to_197 : Tm := ⟨[(0, .one (.kd (.val .bool)))], []⟩
def an_197 : List (Nat × Ann) := []
noncomputable def S_197 : Spec := specT ti_197.gs (kinds to_197.gs) cmp_isNaN_int
abbrev ti_179 : Tm := ⟨[(0, .one (.kd (.val sI))), (1, .one (.kd (.val sI)))], []⟩
abbrev to_179 : Tm := ⟨[(0, .one (.kd (.val sI)))], []⟩
def an_179 : List (Nat × Ann) := []
noncomputable def S_179 : Spec := specT ti_179.gs (kinds to_179.gs) cmp_Compare_int
abbrev ti_145 : Tm := ⟨[(0, .one (.kd (.val sStamp))), (1, .one (.kd (.val sStamp)))], []⟩
abbrev to_145 : Tm := ⟨[(0, .one (.kd (.val sI)))], []⟩
def an_145 : List (Nat × Ann) := []
noncomputable def S_145 : Spec := specO ti_145.gs (kinds to_145.gs) stamp_Cmp
abbrev ti_155 : Tm := ⟨[(0, .one (.kd (.val .str))), (1, .one (.kd (.val .str)))], []⟩
abbrev to_155 : Tm := ⟨[(0, .one (.kd (.val sI)))], []⟩
def an_155 : List (Nat × Ann) := []
noncomputable def S_155 : Spec := specT ti_155.gs (kinds to_155.gs) strings_Compare
abbrev ti_153 : Tm := ⟨[(0, .one (.kd (.val sNode))), (1, .one (.kd (.val sNode)))], []⟩
abbrev to_153 : Tm := ⟨[(0, .one (.kd (.val sI)))], []⟩
def an_153 : List (Nat × Ann) := []
noncomputable def S_153 : Spec := specO ti_153.gs (kinds to_153.gs) tree_Children_1
abbrev ti_192 : Tm := ⟨[(0, .one (.kd (.val sNode))), (1, .one (.kd (.val sStamp)))], []⟩
abbrev to_192 : Tm := ⟨[(0, .one (.kd (.val sI)))], []⟩
def an_192 : List (Nat × Ann) := []
noncomputable def S_192 : Spec := specO ti_192.gs (kinds to_192.gs) tree_find_1
abbrev ti_191 : Tm := ⟨[(0, .one (.kd (.val (.list sNode)))), (1, .one (.kd (.val sStamp))), (2, .one (.fix (.fn 192 [])))], []⟩
abbrev to_191 : Tm := ⟨[(0, .one (.kd (.val sI))), (1, .one (.kd (.val .bool)))], []⟩
def an_191 : List (Nat × Ann) := [(59, .loop ⟨[(0, .one (.kd (.val (.list sNode)))), (2, .one (.fix (.fn 192 []))), (4, .one (.fix (.ptr 0 0))), (8, .one (.kd (.val sI))), (9, .one (.kd (.val sI))), (10, .one (.kd (.val sI)))], [[.kd (.val sStamp)]]⟩ [(.exit 0, ⟨[(0, .one (.kd (.val (.list sNode)))), (2, .one (.fix (.fn 192 []))), (4, .one (.fix (.ptr 0 0))), (8, .one (.kd (.val sI))), (9, .one (.kd (.val sI)))], [[.kd (.val sStamp)]]⟩)]), (61, .join [(6, sI), (7, .bool)])]
noncomputable def S_191 : Spec := specO ti_191.gs (kinds to_191.gs) slices_BinarySearchFunc_Node_Stamp
abbrev ti_174 : Tm := ⟨[(0, .one (.kd (.val (.list sNode)))), (1, .one (.kd (.val sStamp)))], []⟩
abbrev to_174 : Tm := ⟨[(0, .one (.kd (.val sI))), (1, .one (.kd (.val .bool)))], []⟩
def an_174 : List (Nat × Ann) := []
noncomputable def S_174 : Spec := specO ti_174.gs (kinds to_174.gs) tree_find
abbrev ti_163 : Tm := ⟨[(0, .one (.kd (.val sLook))), (1, .one (.kd (.val sStamp)))], []⟩
abbrev to_163 : Tm := ⟨[(0, .one (.kd (.val sI)))], []⟩
def an_163 : List (Nat × Ann) := []
noncomputable def S_163 : Spec := specO ti_163.gs (kinds to_163.gs) shape_find_1
abbrev ti_162 : Tm := ⟨[(0, .one (.kd (.val (.list sLook)))), (1, .one (.kd (.val sStamp))), (2, .one (.fix (.fn 163 [])))], []⟩
abbrev to_162 : Tm := ⟨[(0, .one (.kd (.val sI))), (1, .one (.kd (.val .bool)))], []⟩
def an_162 : List (Nat × Ann) := [(59, .loop ⟨[(0, .one (.kd (.val (.list sLook)))), (2, .one (.fix (.fn 163 []))), (4, .one (.fix (.ptr 0 0))), (8, .one (.kd (.val sI))), (9, .one (.kd (.val sI))), (10, .one (.kd (.val sI)))], [[.kd (.val sStamp)]]⟩ [(.exit 0, ⟨[(0, .one (.kd (.val (.list sLook)))), (2, .one (.fix (.fn 163 []))), (4, .one (.fix (.ptr 0 0))), (8, .one (.kd (.val sI))), (9, .one (.kd (.val sI)))], [[.kd (.val sStamp)]]⟩)]), (61, .join [(6, sI), (7, .bool)])]
noncomputable def S_162 : Spec := specO ti_162.gs (kinds to_162.gs) slices_BinarySearchFunc_Look_Stamp
abbrev ti_131 : Tm := ⟨[(0, .one (.kd (.val (.list sLook)))), (1, .one (.kd (.val sStamp)))], []⟩
abbrev to_131 : Tm := ⟨[(0, .one (.kd (.val sI))), (1, .one (.kd (.val .bool)))], []⟩
def an_131 : List (Nat × Ann) := []
noncomputable def S_131 : Spec := specO ti_131.gs (kinds to_131.gs) shape_find
abbrev ti_101 : Tm := ⟨[(0, .one (.kd (.val sOp)))], []⟩
abbrev to_101 : Tm := ⟨[(0, .one (.kd (.val sI)))], []⟩
def an_101 : List (Nat × Ann) := []
noncomputable def S_101 : Spec := specT ti_101.gs (kinds to_101.gs) arraslaw0_OpWeight
abbrev ti_100 : Tm := ⟨[(0, .one (.kd (.val sTree)))], []⟩
abbrev to_100 : Tm := ⟨[(0, .one (.kd (.val sI)))], []⟩
def an_100 : List (Nat × Ann) := [(57, .loop ⟨[(1, .one (.fix (.ptr 0 0))), (3, .one (.kd (.val sI))), (4, .one (.kd (.val sI)))], [[.kd (.val sTree)]]⟩ [(.exit 0, ⟨[(1, .one (.fix (.ptr 0 0))), (3, .one (.kd (.val sI)))], [[.kd (.val sTree)]]⟩)]), (121, .loop ⟨[(1, .one (.fix (.ptr 0 0))), (3, .one (.kd (.val sI))), (5, .one (.kd (.val sI)))], [[.kd (.val sTree)]]⟩ [(.exit 2, ⟨[(3, .one (.kd (.val sI)))], [[.kd (.val sTree)]]⟩)]), (463, .join [(21, .bool)]), (975, .join [(41, .bool)])]
noncomputable def S_100 : Spec := specO ti_100.gs (kinds to_100.gs) arraslaw0_TreeWeight
abbrev ti_60 : Tm := ⟨[(0, .one (.kd (.val sShape)))], []⟩
abbrev to_60 : Tm := ⟨[(0, .one (.kd (.val sI)))], []⟩
def an_60 : List (Nat × Ann) := [(57, .loop ⟨[(1, .one (.fix (.ptr 0 0))), (3, .one (.kd (.val sI))), (4, .one (.kd (.val sI)))], [[.kd (.val sShape)]]⟩ [(.exit 0, ⟨[(3, .one (.kd (.val sI)))], [[.kd (.val sShape)]]⟩)]), (463, .join [(20, .bool)])]
noncomputable def S_60 : Spec := specO ti_60.gs (kinds to_60.gs) arraslaw0_ShapeWeight
abbrev ti_61 : Tm := ⟨[(0, .one (.kd (.val (.list sOp))))], []⟩
abbrev to_61 : Tm := ⟨[(0, .one (.kd (.val sI)))], []⟩
def an_61 : List (Nat × Ann) := [(57, .loop ⟨[(0, .one (.kd (.val (.list sOp)))), (3, .one (.kd (.val sI))), (4, .one (.kd (.val sI)))], []⟩ [(.exit 0, ⟨[(3, .one (.kd (.val sI)))], []⟩)]), (463, .join [(14, .bool)])]
noncomputable def S_61 : Spec := specO ti_61.gs (kinds to_61.gs) arraslaw0_OpsWeight
abbrev ti_15 : Tm := ⟨[(0, .one (.kd (.val sScript_arraslaw17)))], []⟩
abbrev to_15 : Tm := ⟨[(0, .one (.kd (.val .bool)))], []⟩
def an_15 : List (Nat × Ann) := [(5, .join [(2, .bool)])]
noncomputable def S_15 : Spec := specO ti_15.gs (kinds to_15.gs) arraslaw17_Heavy
abbrev ti_102 : Tm := ⟨[(0, .one (.kd (.val sI))), (1, .one (.kd (.val sI)))], []⟩
abbrev to_102 : Tm := ⟨[(0, .one (.kd (.val .bool)))], []⟩
def an_102 : List (Nat × Ann) := [(5, .join [(4, .bool)])]
noncomputable def S_102 : Spec := specT ti_102.gs (kinds to_102.gs) arrasref0_Num
abbrev ti_62 : Tm := ⟨[(0, .one (.kd (.val sStamp)))], []⟩
abbrev to_62 : Tm := ⟨[(0, .one (.kd (.val .bool)))], []⟩
def an_62 : List (Nat × Ann) := [(5, .join [(2, .bool)])]
noncomputable def S_62 : Spec := specT ti_62.gs (kinds to_62.gs) arrasref6_Stamp
abbrev ti_82 : Tm := ⟨[(0, .one (.kd (.val sI)))], []⟩
abbrev to_82 : Tm := ⟨[(0, .one (.kd (.val sI))), (1, .one (.kd (.val sI))), (2, .one (.kd (.val sI))), (3, .one (.kd (.val .bool)))], []⟩
def an_82 : List (Nat × Ann) := [(428, .cut [(.normal, ⟨[(6, .one (.kd (.val sI))), (9, .one (.kd (.val .bool)))], []⟩)]), (1724, .cut [(.normal, ⟨[(6, .one (.kd (.val sI))), (12, .one (.kd (.val .bool)))], []⟩)]), (6902, .cut [(.normal, ⟨[(6, .one (.kd (.val sI))), (12, .one (.kd (.val .bool)))], []⟩)]), (6908, .cut [(.normal, ⟨[(6, .one (.kd (.val sI))), (18, .one (.kd (.val .bool)))], []⟩)]), (27614, .cut [(.normal, ⟨[(6, .one (.kd (.val sI))), (12, .one (.kd (.val .bool)))], []⟩)]), (110462, .cut [(.normal, ⟨[(6, .one (.kd (.val sI))), (12, .one (.kd (.val .bool)))], []⟩)]), (442364, .cut [(.normal, ⟨[(6, .one (.kd (.val sI))), (25, .one (.kd (.val .bool)))], []⟩)]), (1769462, .cut [(.normal, ⟨[(6, .one (.kd (.val sI))), (25, .one (.kd (.val .bool)))], []⟩)])]
noncomputable def S_82 : Spec := specO ti_82.gs (kinds to_82.gs) arrasref8_value
abbrev ti_88 : Tm := ⟨[(0, .one (.kd (.val sI))), (1, .one (.kd (.val sI)))], []⟩
abbrev to_88 : Tm := ⟨[(0, .one (.kd (.val sI)))], []⟩
def an_88 : List (Nat × Ann) := [(59, .join [(25, .bool)])]
noncomputable def S_88 : Spec := specO ti_88.gs (kinds to_88.gs) arrasref8_Check
abbrev ti_49 : Tm := ⟨[(0, .one (.kd (.val (.list sReg))))], []⟩
abbrev to_49 : Tm := ⟨[(0, .one (.kd (.val .bool)))], []⟩
def an_49 : List (Nat × Ann) := [(25, .loop ⟨[(0, .one (.kd (.val (.list sReg)))), (3, .one (.kd (.val sI)))], []⟩ [(.exit 0, ⟨[], []⟩), (.ret, ⟨[(2, .one (.kd (.val .bool)))], []⟩)]), (839, .join [(48, .bool)])]
noncomputable def S_49 : Spec := specO ti_49.gs (kinds to_49.gs) arrasref14_Regs
abbrev ti_63 : Tm := ⟨[(0, .one (.kd (.val sStamp))), (1, .one (.kd (.val sStamp)))], []⟩
abbrev to_63 : Tm := ⟨[(0, .one (.kd (.val sI)))], []⟩
def an_63 : List (Nat × Ann) := [(11, .join [(23, .bool)])]
noncomputable def S_63 : Spec := specT ti_63.gs (kinds to_63.gs) arrasref6_Cmp
abbrev ti_117 : Tm := ⟨[(0, .one (.kd (.val (.list sNode)))), (1, .one (.kd (.val (.list sNode))))], []⟩
abbrev to_117 : Tm := ⟨[(0, .one (.kd (.val .bool)))], []⟩
def an_117 : List (Nat × Ann) := [(57, .loop ⟨[(0, .one (.kd (.val (.list sNode)))), (1, .one (.kd (.val (.list sNode)))), (5, .one (.kd (.val sI)))], []⟩ [(.exit 0, ⟨[], []⟩), (.ret, ⟨[(4, .one (.kd (.val .bool)))], []⟩)])]
noncomputable def S_117 : Spec := specO ti_117.gs (kinds to_117.gs) arrasref0_EqNodes
abbrev ti_81 : Tm := ⟨[(0, .one (.kd (.val (.list sI)))), (1, .one (.kd (.val (.list sI))))], []⟩
abbrev to_81 : Tm := ⟨[(0, .one (.kd (.val .bool)))], []⟩
def an_81 : List (Nat × Ann) := [(57, .loop ⟨[(0, .one (.kd (.val (.list sI)))), (1, .one (.kd (.val (.list sI)))), (5, .one (.kd (.val sI)))], []⟩ [(.exit 0, ⟨[], []⟩), (.ret, ⟨[(4, .one (.kd (.val .bool)))], []⟩)])]
noncomputable def S_81 : Spec := specO ti_81.gs (kinds to_81.gs) arrasref0_EqNumbers
abbrev ti_92 : Tm := ⟨[(0, .one (.kd (.val sOp))), (1, .one (.kd (.val sOp)))], []⟩
abbrev to_92 : Tm := ⟨[(0, .one (.kd (.val .bool)))], []⟩
def an_92 : List (Nat × Ann) := [(5, .join [(4, .bool)])]
noncomputable def S_92 : Spec := specO ti_92.gs (kinds to_92.gs) arrasref0_EqOp
abbrev ti_150 : Tm := ⟨[(0, .one (.kd (.val sEntry))), (1, .one (.kd (.val sEntry)))], []⟩
abbrev to_150 : Tm := ⟨[(0, .one (.kd (.val .bool)))], []⟩
def an_150 : List (Nat × Ann) := [(5, .join [(4, .bool)])]
noncomputable def S_150 : Spec := specO ti_150.gs (kinds to_150.gs) arrasref0_EqEntry
abbrev ti_118 : Tm := ⟨[(0, .one (.kd (.val (.list sEntry)))), (1, .one (.kd (.val (.list sEntry))))], []⟩
abbrev to_118 : Tm := ⟨[(0, .one (.kd (.val .bool)))], []⟩
def an_118 : List (Nat × Ann) := [(57, .loop ⟨[(0, .one (.kd (.val (.list sEntry)))), (1, .one (.kd (.val (.list sEntry)))), (5, .one (.kd (.val sI)))], []⟩ [(.exit 0, ⟨[], []⟩), (.ret, ⟨[(4, .one (.kd (.val .bool)))], []⟩)])]
noncomputable def S_118 : Spec := specO ti_118.gs (kinds to_118.gs) arrasref0_EqMoves
abbrev ti_76 : Tm := ⟨[(0, .one (.kd (.val sTree))), (1, .one (.kd (.val sTree)))], []⟩
abbrev to_76 : Tm := ⟨[(0, .one (.kd (.val .bool)))], []⟩
def an_76 : List (Nat × Ann) := [(5, .join [(4, .bool)])]
noncomputable def S_76 : Spec := specO ti_76.gs (kinds to_76.gs) arrasref0_EqTree
abbrev ti_103 : Tm := ⟨[(0, .one (.kd (.val sTree)))], []⟩
abbrev to_103 : Tm := ⟨[(0, .one (.kd (.own false 12 sOp)))], []⟩
def an_103 : List (Nat × Ann) := [(57, .loop ⟨[(1, .one (.fix (.ptr 0 0))), (3, .one (.kd (.own false 12 sOp))), (4, .one (.kd (.val sI)))], [[.kd (.val sTree)]]⟩ [(.exit 0, ⟨[(3, .one (.kd (.own false 12 sOp)))], [[.kd (.val sTree)]]⟩)])]
noncomputable def S_103 : Spec := specK ti_103 to_103 arrasref16_Moves
abbrev ti_91 : Tm := ⟨[(0, .one (.kd (.val (.list sI))))], []⟩
abbrev to_91 : Tm := ⟨[(0, .one (.kd (.val .bool)))], []⟩
def an_91 : List (Nat × Ann) := [(13, .join [(2, .bool)]), (25, .loop ⟨[(0, .one (.kd (.val (.list sI)))), (3, .one (.kd (.val sI)))], []⟩ [(.exit 0, ⟨[(0, .one (.kd (.val (.list sI))))], []⟩), (.ret, ⟨[(2, .one (.kd (.val .bool)))], []⟩)])]
noncomputable def S_91 : Spec := specO ti_91.gs (kinds to_91.gs) arrasref6_Vector
abbrev ti_59 : Tm := ⟨[], []⟩
abbrev to_59 : Tm := ⟨[(0, .one (.kd (.val sStamp)))], []⟩
def an_59 : List (Nat × Ann) := []
noncomputable def S_59 : Spec := specT ti_59.gs (kinds to_59.gs) arrasref6_Root
abbrev ti_95 : Tm := ⟨[], []⟩
abbrev to_95 : Tm := ⟨[(0, .one (.kd (.val sStamp)))], []⟩
def an_95 : List (Nat × Ann) := []
noncomputable def S_95 : Spec := specT ti_95.gs (kinds to_95.gs) arrasref6_Trash
abbrev ti_93 : Tm := ⟨[(0, .one (.kd (.val sStamp)))], []⟩
abbrev to_93 : Tm := ⟨[(0, .one (.kd (.val .bool)))], []⟩
def an_93 : List (Nat × Ann) := [(5, .join [(2, .bool)])]
noncomputable def S_93 : Spec := specT ti_93.gs (kinds to_93.gs) arrasref6_Place
abbrev ti_94 : Tm := ⟨[(0, .one (.kd (.val .str)))], []⟩
abbrev to_94 : Tm := ⟨[(0, .one (.kd (.val .bool)))], []⟩
def an_94 : List (Nat × Ann) := [(5, .join [(2, .bool)])]
noncomputable def S_94 : Spec := specO ti_94.gs (kinds to_94.gs) arrasref8_Key
abbrev ti_53 : Tm := ⟨[(0, .one (.kd (.val sOp)))], []⟩
abbrev to_53 : Tm := ⟨[(0, .one (.kd (.val .bool)))], []⟩
def an_53 : List (Nat × Ann) := [(11, .join [(51, .bool)]), (1961, .join [(2, .bool)]), (7865, .join [(2, .bool)])]
noncomputable def S_53 : Spec := specO ti_53.gs (kinds to_53.gs) arrasref10_Op
abbrev ti_104 : Tm := ⟨[(0, .one (.kd (.val sOp)))], []⟩
abbrev to_104 : Tm := ⟨[(0, .one (.kd (.val .bool)))], []⟩
def an_104 : List (Nat × Ann) := [(5, .join [(2, .bool)])]
noncomputable def S_104 : Spec := specO ti_104.gs (kinds to_104.gs) arrasref16_Move
abbrev ti_57 : Tm := ⟨[(0, .one (.kd (.val (.list sNode)))), (1, .one (.kd (.val sStamp)))], []⟩
abbrev to_57 : Tm := ⟨[(0, .one (.kd (.val sI)))], []⟩
def an_57 : List (Nat × Ann) := [(25, .loop ⟨[(0, .one (.kd (.val (.list sNode)))), (3, .one (.fix (.ptr 0 0))), (5, .one (.kd (.val sI)))], [[.kd (.val sStamp)]]⟩ [(.exit 0, ⟨[], [[.kd (.val sStamp)]]⟩), (.ret, ⟨[(4, .one (.kd (.val sI)))], []⟩)])]
noncomputable def S_57 : Spec := specO ti_57.gs (kinds to_57.gs) arrasref16_Find
abbrev ti_96 : Tm := ⟨[(0, .one (.kd (.val (.list sNode)))), (1, .one (.kd (.val sStamp))), (2, .one (.kd (.val sStamp)))], []⟩
abbrev to_96 : Tm := ⟨[(0, .one (.kd (.val .bool)))], []⟩
def an_96 : List (Nat × Ann) := [(25, .loop ⟨[(0, .one (.kd (.val (.list sNode)))), (4, .one (.fix (.ptr 0 0))), (5, .one (.fix (.ptr 1 0))), (7, .one (.kd (.val sI)))], [[.kd (.val sStamp)], [.kd (.val sStamp)]]⟩ [(.exit 0, ⟨[], [[.kd (.val sStamp)], [.kd (.val sStamp)]]⟩), (.ret, ⟨[(6, .one (.kd (.val .bool)))], []⟩)])]
noncomputable def S_96 : Spec := specO ti_96.gs (kinds to_96.gs) arrasref16_over
abbrev ti_99 : Tm := ⟨[(0, .one (.kd (.view true (.list sNode))))], []⟩
abbrev to_99 : Tm := ⟨[(0, .one (.kd (.own false 5 sNode)))], []⟩
def an_99 : List (Nat × Ann) := [(57, .loop ⟨[(0, .one (.kd (.view true (.list sNode)))), (3, .one (.kd (.own false 5 sNode))), (4, .one (.kd (.val sI)))], []⟩ [(.exit 0, ⟨[(3, .one (.kd (.own false 5 sNode)))], []⟩)])]
noncomputable def S_99 : Spec := specK ti_99 to_99 arrasref0_CopyNodes
abbrev ti_193 : Tm := ⟨[(0, .one (.kd (.val (.list sI))))], []⟩
abbrev to_193 : Tm := ⟨[(0, .one (.kd (.val (.list sI))))], []⟩
def an_193 : List (Nat × Ann) := [(57, .loop ⟨[(0, .one (.kd (.val (.list sI)))), (3, .one (.kd (.own false 1 sI))), (4, .one (.kd (.val sI)))], []⟩ [(.exit 0, ⟨[(3, .one (.kd (.own false 1 sI)))], []⟩)])]
noncomputable def S_193 : Spec := specO ti_193.gs (kinds to_193.gs) arrasref0_CopyNumbers
abbrev ti_175 : Tm := ⟨[(0, .one (.kd (.val sOp)))], []⟩
abbrev to_175 : Tm := ⟨[(0, .one (.kd (.val sOp)))], []⟩
def an_175 : List (Nat × Ann) := []
noncomputable def S_175 : Spec := specO ti_175.gs (kinds to_175.gs) arrasref0_CopyOp
abbrev ti_138 : Tm := ⟨[(0, .one (.kd (.own false 5 sNode))), (1, .one (.kd (.val sOp)))], []⟩
abbrev to_138 : Tm := ⟨[(0, .one (.kd (.own false 5 sNode))), (1, .one (.kd (.val sEntry)))], []⟩
def an_138 : List (Nat × Ann) := [(60, .cut [(.normal, ⟨[(0, .one (.kd (.own false 5 sNode))), (3, .one (.fix (.ptr 0 0))), (5, .one (.fix (.ptr 1 0))), (6, .one (.fix (.ptr 2 0))), (7, .one (.kd (.val sI)))], [[.kd (.val sOp)], [.kd (.val sEntry)], [.kd (.val sEntry)]]⟩)]), (8185, .loop ⟨[(0, .one (.kd (.own false 5 sNode))), (3, .one (.fix (.ptr 0 0))), (5, .one (.fix (.ptr 1 0))), (6, .one (.fix (.ptr 2 0))), (8, .one (.fix (.ptr 3 0))), (10, .one (.kd (.own false 5 sNode))), (11, .one (.kd (.val .bool))), (12, .one (.kd (.val sI)))], [[.kd (.val sOp)], [.kd (.val sEntry)], [.kd (.val sEntry)], [.kd (.val sNode)]]⟩ [(.exit 0, ⟨[(5, .one (.fix (.ptr 1 0))), (6, .one (.fix (.ptr 2 0))), (8, .one (.fix (.ptr 3 0))), (10, .one (.kd (.own false 5 sNode))), (11, .one (.kd (.val .bool)))], [[.kd (.val sOp)], [.kd (.val sEntry)], [.kd (.val sEntry)], [.kd (.val sNode)]]⟩)]), (523919, .join [(79, .bool)])]
noncomputable def S_138 : Spec := specK ti_138 to_138 arrasref16_done
abbrev ti_105 : Tm := ⟨[(0, .one (.kd (.own false 12 sOp)))], []⟩
abbrev to_105 : Tm := ⟨[(0, .agg [.kd (.own false 5 sNode), .kd (.own false 17 sEntry)])], []⟩
def an_105 : List (Nat × Ann) := [(57, .loop ⟨[(0, .one (.kd (.own false 12 sOp))), (2, .one (.fix (.ptr 0 0))), (3, .one (.fix (.ptr 1 0))), (4, .one (.kd (.val sI)))], [[.fix (.nil), .fix (.nil)], [.kd (.own false 5 sNode), .kd (.own false 17 sEntry)]]⟩ [(.exit 0, ⟨[(2, .one (.fix (.ptr 0 0))), (3, .one (.fix (.ptr 1 0)))], [[.fix (.nil), .fix (.nil)], [.kd (.own false 5 sNode), .kd (.own false 17 sEntry)]]⟩)])]
noncomputable def S_105 : Spec := specK ti_105 to_105 arrasref16_Made
abbrev ti_64 : Tm := ⟨[(0, .one (.kd (.val sTree)))], []⟩
abbrev to_64 : Tm := ⟨[(0, .one (.kd (.val .bool)))], []⟩
def an_64 : List (Nat × Ann) := [(57, .loop ⟨[(1, .one (.fix (.ptr 0 0))), (3, .one (.kd (.own false 12 sOp))), (4, .one (.kd (.val sI)))], [[.kd (.val sTree)]]⟩ [(.exit 0, ⟨[(1, .one (.fix (.ptr 0 0))), (3, .one (.kd (.own false 12 sOp)))], [[.kd (.val sTree)]]⟩), (.ret, ⟨[(2, .one (.kd (.val .bool)))], []⟩)]), (1863, .join [(37, .bool)])]
noncomputable def S_64 : Spec := specO ti_64.gs (kinds to_64.gs) arrasref16_Tree
abbrev ti_16 : Tm := ⟨[(0, .one (.kd (.val sShape)))], []⟩
abbrev to_16 : Tm := ⟨[(0, .one (.kd (.val .bool)))], []⟩
def an_16 : List (Nat × Ann) := [(25, .loop ⟨[(1, .one (.fix (.ptr 0 0))), (3, .one (.kd (.val sI)))], [[.kd (.val sShape)]]⟩ [(.exit 0, ⟨[(1, .one (.fix (.ptr 0 0)))], [[.kd (.val sShape)]]⟩), (.ret, ⟨[(2, .one (.kd (.val .bool)))], []⟩)]), (839, .join [(59, .bool)])]
noncomputable def S_16 : Spec := specO ti_16.gs (kinds to_16.gs) arrasref16_Shape
abbrev ti_127 : Tm := ⟨[(0, .one (.kd (.val sStamp)))], []⟩
abbrev to_127 : Tm := ⟨[(0, .one (.kd (.val .bool)))], []⟩
def an_127 : List (Nat × Ann) := [(5, .join [(2, .bool)])]
noncomputable def S_127 : Spec := specT ti_127.gs (kinds to_127.gs) stamp_Is
abbrev ti_128 : Tm := ⟨[(0, .one (.kd (.val (.list sI))))], []⟩
abbrev to_128 : Tm := ⟨[(0, .one (.kd (.val .bool)))], []⟩
def an_128 : List (Nat × Ann) := [(2, .lab 0 ⟨[(0, .one (.kd (.val (.list sI)))), (3, .one (.kd (.val sI)))], []⟩ [(.ret, ⟨[(2, .one (.kd (.val .bool)))], []⟩)]), (123, .join [(25, .bool)]), (243, .join [(2, .bool)])]
noncomputable def S_128 : Spec := specO ti_128.gs (kinds to_128.gs) have_Is
abbrev ti_109 : Tm := ⟨[], []⟩
abbrev to_109 : Tm := ⟨[(0, .one (.kd (.val sStamp)))], []⟩
def an_109 : List (Nat × Ann) := []
noncomputable def S_109 : Spec := specT ti_109.gs (kinds to_109.gs) stamp_Root
abbrev ti_156 : Tm := ⟨[(0, .one (.kd (.val .str)))], []⟩
abbrev to_156 : Tm := ⟨[(0, .one (.kd (.val .bool)))], []⟩
def an_156 : List (Nat × Ann) := [(5, .join [(2, .bool)])]
noncomputable def S_156 : Spec := specO ti_156.gs (kinds to_156.gs) key_Is
abbrev ti_170 : Tm := ⟨[], []⟩
abbrev to_170 : Tm := ⟨[(0, .one (.kd (.val sStamp)))], []⟩
def an_170 : List (Nat × Ann) := []
noncomputable def S_170 : Spec := specT ti_170.gs (kinds to_170.gs) stamp_Trash
abbrev ti_158 : Tm := ⟨[(0, .one (.kd (.val sStamp)))], []⟩
abbrev to_158 : Tm := ⟨[(0, .one (.kd (.val .bool)))], []⟩
def an_158 : List (Nat × Ann) := [(5, .join [(2, .bool)])]
noncomputable def S_158 : Spec := specT ti_158.gs (kinds to_158.gs) stamp_Place
abbrev ti_146 : Tm := ⟨[(0, .one (.kd (.val sI)))], []⟩
abbrev to_146 : Tm := ⟨[(0, .one (.kd (.val srule_prop)))], []⟩
def an_146 : List (Nat × Ann) := [(428, .cut [(.normal, ⟨[(2, .one (.fix (.ptr 0 0))), (3, .one (.kd (.val sI))), (7, .one (.kd (.val .bool)))], [[.kd (.val srule_prop)]]⟩)]), (1724, .cut [(.normal, ⟨[(2, .one (.fix (.ptr 0 0))), (3, .one (.kd (.val sI))), (11, .one (.kd (.val .bool)))], [[.kd (.val srule_prop)]]⟩)]), (6902, .cut [(.normal, ⟨[(2, .one (.fix (.ptr 0 0))), (3, .one (.kd (.val sI))), (11, .one (.kd (.val .bool)))], [[.kd (.val srule_prop)]]⟩)]), (6908, .cut [(.normal, ⟨[(2, .one (.fix (.ptr 0 0))), (3, .one (.kd (.val sI))), (18, .one (.kd (.val .bool)))], [[.kd (.val srule_prop)]]⟩)]), (27614, .cut [(.normal, ⟨[(2, .one (.fix (.ptr 0 0))), (3, .one (.kd (.val sI))), (11, .one (.kd (.val .bool)))], [[.kd (.val srule_prop)]]⟩)]), (110462, .cut [(.normal, ⟨[(2, .one (.fix (.ptr 0 0))), (3, .one (.kd (.val sI))), (11, .one (.kd (.val .bool)))], [[.kd (.val srule_prop)]]⟩)])]
noncomputable def S_146 : Spec := specO ti_146.gs (kinds to_146.gs) prop_ruleOf
abbrev ti_183 : Tm := ⟨[(0, .one (.kd (.val sI)))], []⟩
abbrev to_183 : Tm := ⟨[(0, .one (.kd (.val .bool)))], []⟩
def an_183 : List (Nat × Ann) := [(5, .join [(2, .bool)])]
noncomputable def S_183 : Spec := specT ti_183.gs (kinds to_183.gs) prop_Is
abbrev ti_159 : Tm := ⟨[(0, .one (.kd (.val sI))), (1, .one (.kd (.val sI)))], []⟩
abbrev to_159 : Tm := ⟨[(0, .one (.kd (.val .bool)))], []⟩
def an_159 : List (Nat × Ann) := [(5, .join [(4, .bool)])]
noncomputable def S_159 : Spec := specO ti_159.gs (kinds to_159.gs) prop_May
abbrev ti_129 : Tm := ⟨[(0, .one (.kd (.val sOp)))], []⟩
abbrev to_129 : Tm := ⟨[(0, .one (.kd (.val .bool)))], []⟩
def an_129 : List (Nat × Ann) := [(211, .join [(2, .bool)]), (859, .join [(2, .bool)])]
noncomputable def S_129 : Spec := specO ti_129.gs (kinds to_129.gs) op_kind
abbrev ti_85 : Tm := ⟨[(0, .one (.kd (.val sOp)))], []⟩
abbrev to_85 : Tm := ⟨[(0, .one (.kd (.val .bool)))], []⟩
def an_85 : List (Nat × Ann) := [(11, .join [(27, .bool)]), (13, .join [(2, .bool)])]
noncomputable def S_85 : Spec := specO ti_85.gs (kinds to_85.gs) op_May
abbrev ti_139 : Tm := ⟨[(0, .one (.kd (.val sOp)))], []⟩
abbrev to_139 : Tm := ⟨[(0, .one (.kd (.val .bool)))], []⟩
def an_139 : List (Nat × Ann) := [(5, .join [(2, .bool)])]
noncomputable def S_139 : Spec := specO ti_139.gs (kinds to_139.gs) tree_move
abbrev ti_140 : Tm := ⟨[(0, .one (.kd (.val sOp))), (1, .one (.kd (.val sOp)))], []⟩
abbrev to_140 : Tm := ⟨[(0, .one (.kd (.val .bool)))], []⟩
def an_140 : List (Nat × Ann) := []
noncomputable def S_140 : Spec := specO ti_140.gs (kinds to_140.gs) op_Less
abbrev ti_194 : Tm := ⟨[(0, .one (.kd (.val (.list sI)))), (1, .one (.kd (.val (.list sI))))], []⟩
abbrev to_194 : Tm := ⟨[(0, .one (.kd (.val .bool)))], []⟩
def an_194 : List (Nat × Ann) := [(57, .loop ⟨[(0, .one (.kd (.val (.list sI)))), (1, .one (.kd (.val (.list sI)))), (12, .one (.kd (.val sI))), (13, .one (.kd (.val sI)))], []⟩ [(.exit 0, ⟨[], []⟩), (.ret, ⟨[(4, .one (.kd (.val .bool)))], []⟩)])]
noncomputable def S_194 : Spec := specO ti_194.gs (kinds to_194.gs) slices_Equal_int
abbrev ti_176 : Tm := ⟨[(0, .one (.kd (.val sOp))), (1, .one (.kd (.val sOp)))], []⟩
abbrev to_176 : Tm := ⟨[(0, .one (.kd (.val .bool)))], []⟩
def an_176 : List (Nat × Ann) := [(5, .join [(4, .bool)])]
noncomputable def S_176 : Spec := specO ti_176.gs (kinds to_176.gs) op_Same
abbrev ti_141 : Tm := ⟨[(0, .one (.kd (.val sEntry))), (1, .one (.kd (.val sEntry)))], []⟩
abbrev to_141 : Tm := ⟨[(0, .one (.kd (.val .bool)))], []⟩
def an_141 : List (Nat × Ann) := [(5, .join [(4, .bool)])]
noncomputable def S_141 : Spec := specO ti_141.gs (kinds to_141.gs) tree_same
abbrev ti_169 : Tm := ⟨[(0, .one (.kd (.val sOp)))], []⟩
abbrev to_169 : Tm := ⟨[(0, .one (.kd (.val sOp)))], []⟩
def an_169 : List (Nat × Ann) := []
noncomputable def S_169 : Spec := specO ti_169.gs (kinds to_169.gs) op_Own
abbrev ti_177 : Tm := ⟨[(0, .one (.kd (.at_ (.list sNode)))), (1, .one (.kd (.val sStamp))), (2, .one (.kd (.val sStamp)))], []⟩
abbrev to_177 : Tm := ⟨[(0, .one (.kd (.val .bool)))], []⟩
def an_177 : List (Nat × Ann) := [(2, .lab 0 ⟨[(0, .one (.kd (.at_ (.list sNode)))), (4, .one (.fix (.ptr 0 0))), (5, .one (.fix (.ptr 1 0)))], [[.kd (.val sStamp)], [.kd (.val sStamp)]]⟩ [(.ret, ⟨[(6, .one (.kd (.val .bool)))], []⟩)])]
noncomputable def S_177 : Spec := specO ti_177.gs (kinds to_177.gs) tree_work_circle
abbrev ti_142 : Tm := ⟨[(0, .one (.fix (.ptr 0 0))), (1, .one (.kd (.val sOp)))], [[.kd (.own false 5 sNode)]]⟩
abbrev to_142 : Tm := ⟨[(0, .one (.kd (.val sEntry)))], [[.kd (.own false 5 sNode)]]⟩
def an_142 : List (Nat × Ann) := [(60, .cut [(.normal, ⟨[(0, .one (.fix (.ptr 0 0))), (3, .one (.fix (.ptr 1 0))), (4, .one (.fix (.ptr 2 0))), (5, .one (.fix (.ptr 3 0))), (6, .one (.kd (.val sI))), (7, .one (.kd (.val .bool)))], [[.kd (.own false 5 sNode)], [.kd (.val sOp)], [.kd (.val sEntry)], [.kd (.val sEntry)]]⟩)])]
noncomputable def S_142 : Spec := specK ti_142 to_142 tree_work_do
abbrev ti_143 : Tm := ⟨[(0, .one (.kd (.val (.list sNode)))), (1, .one (.kd (.val (.list sNode))))], []⟩
abbrev to_143 : Tm := ⟨[(0, .one (.kd (.val .bool)))], []⟩
def an_143 : List (Nat × Ann) := [(57, .loop ⟨[(0, .one (.kd (.val (.list sNode)))), (1, .one (.kd (.val (.list sNode)))), (12, .one (.kd (.val sI))), (13, .one (.kd (.val sI)))], []⟩ [(.exit 0, ⟨[], []⟩), (.ret, ⟨[(4, .one (.kd (.val .bool)))], []⟩)])]
noncomputable def S_143 : Spec := specO ti_143.gs (kinds to_143.gs) slices_Equal_Node
abbrev ti_106 : Tm := ⟨[(0, .one (.kd (.val sTree)))], []⟩
abbrev to_106 : Tm := ⟨[(0, .one (.kd (.val .bool)))], []⟩
def an_106 : List (Nat × Ann) := [(57, .loop ⟨[(1, .one (.fix (.ptr 0 0))), (3, .one (.fix (.ptr 1 0))), (9, .one (.kd (.val (.list sEntry)))), (10, .one (.kd (.val sI))), (11, .one (.kd (.val sI)))], [[.kd (.val sTree)], [.kd (.own false 5 sNode)]]⟩ [(.exit 0, ⟨[(1, .one (.fix (.ptr 0 0))), (3, .one (.fix (.ptr 1 0)))], [[.kd (.val sTree)], [.kd (.own false 5 sNode)]]⟩), (.ret, ⟨[(2, .one (.kd (.val .bool)))], []⟩)])]
noncomputable def S_106 : Spec := specO ti_106.gs (kinds to_106.gs) tree_May
abbrev ti_144 : Tm := ⟨[(0, .one (.kd (.val (.list sReg))))], []⟩
abbrev to_144 : Tm := ⟨[(0, .one (.kd (.val .bool)))], []⟩
def an_144 : List (Nat × Ann) := [(2, .lab 0 ⟨[(0, .one (.kd (.val (.list sReg)))), (3, .one (.kd (.val sI)))], []⟩ [(.ret, ⟨[(2, .one (.kd (.val .bool)))], []⟩)]), (123, .join [(44, .bool)])]
noncomputable def S_144 : Spec := specO ti_144.gs (kinds to_144.gs) reg_May
abbrev ti_107 : Tm := ⟨[(0, .one (.kd (.val (.list sLook))))], []⟩
abbrev to_107 : Tm := ⟨[(0, .one (.kd (.val .bool)))], []⟩
def an_107 : List (Nat × Ann) := [(2, .lab 0 ⟨[(0, .one (.kd (.val (.list sLook)))), (3, .one (.kd (.val sI)))], []⟩ [(.ret, ⟨[(2, .one (.kd (.val .bool)))], []⟩)]), (123, .join [(49, .bool)])]
noncomputable def S_107 : Spec := specO ti_107.gs (kinds to_107.gs) shape_looks
abbrev ti_65 : Tm := ⟨[(0, .one (.kd (.val sShape)))], []⟩
abbrev to_65 : Tm := ⟨[(0, .one (.kd (.val .bool)))], []⟩
def an_65 : List (Nat × Ann) := [(5, .join [(2, .bool)])]
noncomputable def S_65 : Spec := specO ti_65.gs (kinds to_65.gs) shape_IsShape
abbrev ti_123 : Tm := ⟨[(0, .one (.kd (.val sTree))), (1, .one (.kd (.val sStamp)))], []⟩
abbrev to_123 : Tm := ⟨[(0, .one (.kd (.val (.list sNode))))], []⟩
def an_123 : List (Nat × Ann) := [(25, .loop ⟨[(3, .one (.fix (.ptr 1 0))), (4, .one (.kd (.own false 5 sNode))), (8, .one (.kd (.val (.list sNode)))), (9, .one (.kd (.val sI))), (10, .one (.kd (.val sI)))], [[.kd (.val sTree)], [.kd (.val sStamp)]]⟩ [(.exit 0, ⟨[(4, .one (.kd (.own false 5 sNode)))], [[.kd (.val sTree)], [.kd (.val sStamp)]]⟩)])]
noncomputable def S_123 : Spec := specO ti_123.gs (kinds to_123.gs) tree_Children
abbrev ti_23 : Tm := ⟨[(0, .one (.kd (.val (.list sStamp)))), (1, .one (.kd (.val sStamp)))], []⟩
abbrev to_23 : Tm := ⟨[(0, .one (.kd (.val sI)))], []⟩
def an_23 : List (Nat × Ann) := [(25, .loop ⟨[(0, .one (.kd (.val (.list sStamp)))), (3, .one (.fix (.ptr 0 0))), (5, .one (.kd (.val sI)))], [[.kd (.val sStamp)]]⟩ [(.exit 0, ⟨[], [[.kd (.val sStamp)]]⟩), (.ret, ⟨[(4, .one (.kd (.val sI)))], []⟩)])]
noncomputable def S_23 : Spec := specO ti_23.gs (kinds to_23.gs) arrasref0_InStamps
abbrev ti_20 : Tm := ⟨[(0, .one (.kd (.val sTree))), (1, .one (.kd (.val sStamp)))], []⟩
abbrev to_20 : Tm := ⟨[(0, .one (.kd (.val (.list sStamp)))), (1, .one (.kd (.val .bool)))], []⟩
def an_20 : List (Nat × Ann) := [(123, .loop ⟨[(2, .one (.fix (.ptr 0 0))), (6, .one (.kd (.val sI))), (7, .one (.kd (.own false 2 sStamp)))], [[.kd (.val sTree)], [.kd (.val sStamp)]]⟩ [(.exit 0, ⟨[(7, .one (.kd (.own false 2 sStamp)))], [[.kd (.val sTree)], [.kd (.val sStamp)]]⟩)])]
noncomputable def S_20 : Spec := specO ti_20.gs (kinds to_20.gs) arrasref16_Above
abbrev ti_21 : Tm := ⟨[(0, .one (.kd (.val sTree))), (1, .one (.kd (.val sStamp)))], []⟩
abbrev to_21 : Tm := ⟨[(0, .one (.kd (.val .bool)))], []⟩
def an_21 : List (Nat × Ann) := [(29, .join [(4, .bool)])]
noncomputable def S_21 : Spec := specO ti_21.gs (kinds to_21.gs) arrasref16_Live
abbrev ti_70 : Tm := ⟨[], []⟩
abbrev to_70 : Tm := ⟨[(0, .one (.kd (.val sOp)))], []⟩
def an_70 : List (Nat × Ann) := []
noncomputable def S_70 : Spec := specT ti_70.gs (kinds to_70.gs) arraslaw10_O
abbrev ti_137 : Tm := ⟨[(0, .one (.kd (.val sTree))), (1, .one (.kd (.val sStamp)))], []⟩
abbrev to_137 : Tm := ⟨[(0, .one (.kd (.val sNode))), (1, .one (.kd (.val .bool)))], []⟩
def an_137 : List (Nat × Ann) := []
noncomputable def S_137 : Spec := specO ti_137.gs (kinds to_137.gs) tree_Node
abbrev ti_121 : Tm := ⟨[(0, .one (.kd (.val sTree))), (1, .one (.kd (.val sStamp)))], []⟩
abbrev to_121 : Tm := ⟨[(0, .one (.kd (.val (.list sStamp))))], []⟩
def an_121 : List (Nat × Ann) := [(2, .lab 0 ⟨[(2, .one (.fix (.ptr 0 0))), (3, .one (.fix (.ptr 1 0))), (4, .one (.kd (.own false 2 sStamp))), (5, .one (.fix (.ptr 2 0)))], [[.kd (.val sTree)], [.kd (.val sStamp)], [.kd (.val sNode)]]⟩ [(.ret, ⟨[(4, .one (.kd (.own false 2 sStamp)))], []⟩)])]
noncomputable def S_121 : Spec := specO ti_121.gs (kinds to_121.gs) tree_Up
abbrev ti_79 : Tm := ⟨[(0, .one (.kd (.val sTree))), (1, .one (.kd (.val sStamp)))], []⟩
abbrev to_79 : Tm := ⟨[(0, .one (.kd (.val .bool)))], []⟩
def an_79 : List (Nat × Ann) := [(13, .join [(4, .bool)])]
noncomputable def S_79 : Spec := specO ti_79.gs (kinds to_79.gs) tree_Lives
abbrev ti_41 : Tm := ⟨[(0, .one (.kd (.val sScript_arraslaw17)))], []⟩
abbrev to_41 : Tm := ⟨[(0, .one (.kd (.val (.list sStamp))))], []⟩
def an_41 : List (Nat × Ann) := [(57, .loop ⟨[(1, .one (.fix (.ptr 0 0))), (3, .one (.kd (.own false 2 sStamp))), (4, .one (.kd (.val sI)))], [[.kd (.val sScript_arraslaw17)]]⟩ [(.exit 0, ⟨[(1, .one (.fix (.ptr 0 0))), (3, .one (.kd (.own false 2 sStamp)))], [[.kd (.val sScript_arraslaw17)]]⟩)]), (121, .loop ⟨[(1, .one (.fix (.ptr 0 0))), (3, .one (.kd (.own false 2 sStamp))), (5, .one (.kd (.val sI)))], [[.kd (.val sScript_arraslaw17)]]⟩ [(.exit 2, ⟨[(3, .one (.kd (.own false 2 sStamp)))], [[.kd (.val sScript_arraslaw17)]]⟩)]), (463, .join [(19, .bool)]), (975, .join [(41, .bool)])]
noncomputable def S_41 : Spec := specO ti_41.gs (kinds to_41.gs) arraslaw17_places
abbrev ti_125 : Tm := ⟨[(0, .one (.kd (.val sNode))), (1, .one (.kd (.at_ sStamp)))], []⟩
abbrev to_125 : Tm := ⟨[(0, .one (.kd (.val .bool)))], []⟩
def an_125 : List (Nat × Ann) := []
noncomputable def S_125 : Spec := specT ti_125.gs (kinds to_125.gs) shape_Gap_1
abbrev ti_124 : Tm := ⟨[(0, .one (.kd (.val (.list sNode)))), (1, .one (.kd (.clo 125 sStamp)))], []⟩
abbrev to_124 : Tm := ⟨[(0, .one (.kd (.val sI)))], []⟩
def an_124 : List (Nat × Ann) := [(25, .loop ⟨[(0, .one (.kd (.val (.list sNode)))), (1, .one (.kd (.clo 125 sStamp))), (7, .one (.kd (.val sI))), (8, .one (.kd (.val sI)))], []⟩ [(.exit 0, ⟨[], []⟩), (.ret, ⟨[(4, .one (.kd (.val sI)))], []⟩)])]
noncomputable def S_124 : Spec := specO ti_124.gs (kinds to_124.gs) slices_IndexFunc_Node
abbrev ti_157 : Tm := ⟨[(0, .one (.kd (.val .str))), (1, .one (.kd (.val sI))), (2, .one (.kd (.val sI)))], []⟩
abbrev to_157 : Tm := ⟨[(0, .one (.kd (.val sI)))], []⟩
def an_157 : List (Nat × Ann) := []
noncomputable def S_157 : Spec := specO ti_157.gs (kinds to_157.gs) key_at
abbrev ti_126 : Tm := ⟨[(0, .one (.kd (.val .str))), (1, .one (.kd (.val .str)))], []⟩
abbrev to_126 : Tm := ⟨[(0, .one (.kd (.val .str))), (1, .one (.kd (.val sI)))], []⟩
def an_126 : List (Nat × Ann) := [(2, .lab 0 ⟨[(0, .one (.kd (.val .str))), (1, .one (.kd (.val .str))), (6, .one (.kd (.own false 1 (.int .u8)))), (7, .one (.kd (.val sI))), (8, .one (.kd (.val .bool)))], []⟩ [(.ret, ⟨[(4, .one (.kd (.val .str))), (5, .one (.kd (.val sI)))], []⟩)]), (23, .join [(31, .bool)]), (252, .cut [(.normal, ⟨[(0, .one (.kd (.val .str))), (1, .one (.kd (.val .str))), (6, .one (.kd (.own false 1 (.int .u8)))), (7, .one (.kd (.val sI))), (8, .one (.kd (.val .bool))), (9, .one (.kd (.val sI))), (10, .one (.kd (.val sI)))], []⟩)]), (1021, .join [(8, .bool)])]
noncomputable def S_126 : Spec := specO ti_126.gs (kinds to_126.gs) key_Between
abbrev ti_83 : Tm := ⟨[(0, .one (.kd (.val sShape))), (1, .one (.kd (.val sStamp))), (2, .one (.kd (.val sStamp)))], []⟩
abbrev to_83 : Tm := ⟨[(0, .one (.kd (.val .str))), (1, .one (.kd (.val sI)))], []⟩
def an_83 : List (Nat × Ann) := [(124, .cut [(.normal, ⟨[(8, .one (.kd (.val (.list sNode)))), (9, .one (.kd (.val sI)))], [[.kd (.val sShape)], [.kd (.val sStamp)], [.kd (.val sStamp)]]⟩)]), (1020, .cut [(.normal, ⟨[(8, .one (.kd (.val (.list sNode)))), (9, .one (.kd (.val sI))), (10, .one (.kd (.val .str))), (11, .one (.kd (.val .str)))], [[.kd (.val sShape)], [.kd (.val sStamp)], [.kd (.val sStamp)]]⟩)]), (2044, .cut [(.normal, ⟨[(10, .one (.kd (.val .str))), (11, .one (.kd (.val .str)))], [[.kd (.val sShape)], [.kd (.val sStamp)], [.kd (.val sStamp)]]⟩)]), (4091, .join [(54, .bool)])]
noncomputable def S_83 : Spec := specO ti_83.gs (kinds to_83.gs) shape_Gap
abbrev ti_42 : Tm := ⟨[(0, .one (.kd (.val sShape))), (1, .one (.kd (.val sStamp))), (2, .one (.kd (.val sStamp)))], []⟩
abbrev to_42 : Tm := ⟨[(0, .one (.kd (.val .str))), (1, .one (.kd (.val sI)))], []⟩
def an_42 : List (Nat × Ann) := []
noncomputable def S_42 : Spec := specO ti_42.gs (kinds to_42.gs) shape_Slot
abbrev ti_58 : Tm := ⟨[(0, .one (.kd (.val sTree))), (1, .one (.kd (.val sStamp)))], []⟩
abbrev to_58 : Tm := ⟨[(0, .one (.kd (.val (.list sStamp))))], []⟩
def an_58 : List (Nat × Ann) := [(57, .loop ⟨[(2, .one (.fix (.ptr 0 0))), (3, .one (.fix (.ptr 1 0))), (5, .one (.kd (.own false 5 sNode))), (6, .one (.kd (.val sI)))], [[.kd (.val sTree)], [.kd (.val sStamp)]]⟩ [(.exit 0, ⟨[(5, .one (.kd (.own false 5 sNode)))], [[.kd (.val sTree)], [.kd (.val sStamp)]]⟩)]), (249, .loop ⟨[(5, .one (.kd (.own false 5 sNode))), (10, .one (.kd (.own false 2 sStamp))), (11, .one (.kd (.val sI)))], [[.kd (.val sTree)], [.kd (.val sStamp)]]⟩ [(.exit 4, ⟨[(10, .one (.kd (.own false 2 sStamp)))], [[.kd (.val sTree)], [.kd (.val sStamp)]]⟩)]), (29851, .loop ⟨[(2, .one (.fix (.ptr 0 0))), (3, .one (.fix (.ptr 1 0))), (5, .one (.kd (.own false 5 sNode))), (6, .one (.kd (.val sI))), (7, .one (.fix (.ptr 2 0))), (8, .one (.kd (.val sI)))], [[.kd (.val sTree)], [.kd (.val sStamp)], [.kd (.val sNode)]]⟩ [(.exit 2, ⟨[(2, .one (.fix (.ptr 0 0))), (3, .one (.fix (.ptr 1 0))), (5, .one (.kd (.own false 5 sNode))), (6, .one (.kd (.val sI))), (7, .one (.fix (.ptr 2 0))), (8, .one (.kd (.val sI)))], [[.kd (.val sTree)], [.kd (.val sStamp)], [.kd (.val sNode)]]⟩)]), (238815, .join [(41, .bool)])]
noncomputable def S_58 : Spec := specO ti_58.gs (kinds to_58.gs) arrasref16_Kids
abbrev ti_84 : Tm := ⟨[(0, .one (.kd (.val .str))), (1, .one (.kd (.val .str)))], []⟩
abbrev to_84 : Tm := ⟨[(0, .one (.kd (.val .str))), (1, .one (.kd (.val .bool)))], []⟩
def an_84 : List (Nat × Ann) := [(121, .loop ⟨[(0, .one (.kd (.val .str))), (1, .one (.kd (.val .str))), (6, .one (.kd (.own false 1 (.int .u8)))), (7, .one (.kd (.val .bool))), (8, .one (.kd (.val sI)))], []⟩ [(.exit 0, ⟨[], []⟩), (.ret, ⟨[(4, .one (.kd (.val .str))), (5, .one (.kd (.val .bool)))], []⟩)]), (15652, .cut [(.normal, ⟨[(0, .one (.kd (.val .str))), (1, .one (.kd (.val .str))), (6, .one (.kd (.own false 1 (.int .u8)))), (7, .one (.kd (.val .bool))), (8, .one (.kd (.val sI))), (9, .one (.kd (.val sI))), (10, .one (.kd (.val sI)))], []⟩)]), (31308, .cut [(.normal, ⟨[(0, .one (.kd (.val .str))), (1, .one (.kd (.val .str))), (6, .one (.kd (.own false 1 (.int .u8)))), (7, .one (.kd (.val .bool))), (8, .one (.kd (.val sI))), (9, .one (.kd (.val sI))), (10, .one (.kd (.val sI)))], []⟩)]), (62622, .join [(7, .bool)])]
noncomputable def S_84 : Spec := specO ti_84.gs (kinds to_84.gs) arrasref8_Between
abbrev ti_43 : Tm := ⟨[(0, .one (.kd (.val sShape))), (1, .one (.kd (.val sStamp))), (2, .one (.kd (.val sStamp)))], []⟩
abbrev to_43 : Tm := ⟨[(0, .one (.kd (.val .str))), (1, .one (.kd (.val sI)))], []⟩
def an_43 : List (Nat × Ann) := [(124, .cut [(.normal, ⟨[(3, .one (.fix (.ptr 0 0))), (8, .one (.kd (.val (.list sStamp)))), (9, .one (.kd (.val sI)))], [[.kd (.val sShape)], [.kd (.val sStamp)], [.kd (.val sStamp)]]⟩), (.ret, ⟨[(6, .one (.kd (.val .str))), (7, .one (.kd (.val sI)))], []⟩)]), (508, .cut [(.normal, ⟨[(3, .one (.fix (.ptr 0 0))), (8, .one (.kd (.val (.list sStamp)))), (9, .one (.kd (.val sI))), (10, .one (.kd (.val .str))), (11, .one (.kd (.val .str)))], [[.kd (.val sShape)], [.kd (.val sStamp)], [.kd (.val sStamp)]]⟩)]), (1020, .cut [(.normal, ⟨[(10, .one (.kd (.val .str))), (11, .one (.kd (.val .str)))], [[.kd (.val sShape)], [.kd (.val sStamp)], [.kd (.val sStamp)]]⟩)]), (2043, .join [(74, .bool)])]
noncomputable def S_43 : Spec := specO ti_43.gs (kinds to_43.gs) arrasref16_Slot
abbrev ti_44 : Tm := ⟨[(0, .one (.kd (.val sI)))], []⟩
abbrev to_44 : Tm := ⟨[(0, .one (.kd (.val sI)))], []⟩
def an_44 : List (Nat × Ann) := []
noncomputable def S_44 : Spec := specT ti_44.gs (kinds to_44.gs) arraslaw17_num
abbrev ti_160 : Tm := ⟨[(0, .one (.fix (.ptr 0 0))), (1, .one (.kd (.val sEntry)))], [[.kd (.own false 5 sNode)]]⟩
abbrev to_160 : Tm := ⟨[], [[.kd (.own false 5 sNode)]]⟩
def an_160 : List (Nat × Ann) := []
noncomputable def S_160 : Spec := specK ti_160 to_160 tree_work_undo
abbrev ti_130 : Tm := ⟨[(0, .agg [.kd (.own false 5 sNode), .kd (.own false 17 sEntry)]), (1, .one (.kd (.val sOp)))], []⟩
abbrev to_130 : Tm := ⟨[(0, .agg [.kd (.own false 5 sNode), .kd (.own false 17 sEntry)]), (1, .one (.kd (.val sI)))], []⟩
def an_130 : List (Nat × Ann) := [(2, .lab 0 ⟨[(2, .one (.fix (.ptr 0 0))), (3, .one (.fix (.ptr 1 0))), (4, .one (.fix (.ptr 2 0))), (6, .one (.fix (.ptr 3 0))), (7, .one (.kd (.val sI)))], [[.fix (.undef), .kd (.own false 17 sEntry)], [.kd (.val sOp)], [.kd (.val sTree)], [.kd (.own false 5 sNode)]]⟩ [(.ret, ⟨[(4, .one (.fix (.ptr 2 0))), (5, .one (.kd (.val sI)))], [[.fix (.undef), .fix (.undef)], [.fix (.undef), .fix (.undef), .fix (.undef), .fix (.undef), .fix (.undef), .fix (.undef), .fix (.undef), .fix (.undef), .fix (.undef), .fix (.undef), .fix (.undef), .fix (.undef)], [.kd (.own false 5 sNode), .kd (.own false 17 sEntry)], [.fix (.undef)]]⟩)]), (59, .join [(32, .bool)]), (251, .join [(60, .bool)]), (2041, .loop ⟨[(4, .one (.fix (.ptr 2 0))), (6, .one (.fix (.ptr 3 0))), (10, .one (.kd (.own false 17 sEntry))), (85, .one (.kd (.view false (.list sEntry)))), (86, .one (.kd (.val sI))), (87, .one (.kd (.val sI)))], [[.fix (.undef), .kd (.view false (.list sEntry))], [.kd (.val sOp)], [.kd (.val sTree)], [.kd (.own false 5 sNode)]]⟩ [(.exit 2, ⟨[(4, .one (.fix (.ptr 2 0))), (6, .one (.fix (.ptr 3 0))), (10, .one (.kd (.own false 17 sEntry)))], [[.fix (.undef), .kd (.view false (.list sEntry))], [.kd (.val sOp)], [.kd (.val sTree)], [.kd (.own false 5 sNode)]]⟩)]), (4049, .loop ⟨[(4, .one (.fix (.ptr 2 0))), (6, .one (.fix (.ptr 3 0))), (8, .one (.kd (.view false (.list sEntry)))), (62, .one (.kd (.val sI))), (63, .one (.kd (.val sI)))], [[.fix (.undef), .kd (.view false (.list sEntry))], [.kd (.val sOp)], [.kd (.val sTree)], [.kd (.own false 5 sNode)]]⟩ [(.exit 0, ⟨[(4, .one (.fix (.ptr 2 0)))], [[.fix (.undef), .kd (.view false (.list sEntry))], [.kd (.val sOp)], [.kd (.val sTree)], [.kd (.own false 5 sNode)]]⟩)])]
noncomputable def S_130 : Spec := specK ti_130 to_130 tree_Put
abbrev ti_187 : Tm := ⟨[(0, .one (.kd (.val sReg))), (1, .one (.kd (.val sI)))], []⟩
abbrev to_187 : Tm := ⟨[(0, .one (.kd (.val sI)))], []⟩
def an_187 : List (Nat × Ann) := []
noncomputable def S_187 : Spec := specT ti_187.gs (kinds to_187.gs) reg_find_1
abbrev ti_186 : Tm := ⟨[(0, .one (.kd (.val (.list sReg)))), (1, .one (.kd (.val sI))), (2, .one (.fix (.fn 187 [])))], []⟩
abbrev to_186 : Tm := ⟨[(0, .one (.kd (.val sI))), (1, .one (.kd (.val .bool)))], []⟩
def an_186 : List (Nat × Ann) := [(59, .loop ⟨[(0, .one (.kd (.val (.list sReg)))), (1, .one (.kd (.val sI))), (2, .one (.fix (.fn 187 []))), (8, .one (.kd (.val sI))), (9, .one (.kd (.val sI))), (10, .one (.kd (.val sI)))], []⟩ [(.exit 0, ⟨[(0, .one (.kd (.val (.list sReg)))), (1, .one (.kd (.val sI))), (2, .one (.fix (.fn 187 []))), (8, .one (.kd (.val sI))), (9, .one (.kd (.val sI)))], []⟩)]), (61, .join [(6, sI), (7, .bool)])]
noncomputable def S_186 : Spec := specO ti_186.gs (kinds to_186.gs) slices_BinarySearchFunc_Reg_int
abbrev ti_166 : Tm := ⟨[(0, .one (.kd (.val (.list sReg)))), (1, .one (.kd (.val sI)))], []⟩
abbrev to_166 : Tm := ⟨[(0, .one (.kd (.val sI))), (1, .one (.kd (.val .bool)))], []⟩
def an_166 : List (Nat × Ann) := []
noncomputable def S_166 : Spec := specO ti_166.gs (kinds to_166.gs) reg_find
abbrev ti_133 : Tm := ⟨[(0, .one (.kd (.val (.list sReg)))), (1, .one (.kd (.val sReg)))], []⟩
abbrev to_133 : Tm := ⟨[(0, .one (.kd (.val (.list sReg))))], []⟩
def an_133 : List (Nat × Ann) := []
noncomputable def S_133 : Spec := specO ti_133.gs (kinds to_133.gs) reg_Put
abbrev ti_86 : Tm := ⟨[(0, .agg [.kd (.own false 5 sNode), .kd (.own false 17 sEntry), .kd (.own false 3 sLook)]), (1, .one (.kd (.val sOp)))], []⟩
abbrev to_86 : Tm := ⟨[(0, .agg [.kd (.own false 5 sNode), .kd (.own false 17 sEntry), .kd (.own false 3 sLook)]), (1, .one (.kd (.val sI)))], []⟩
def an_86 : List (Nat × Ann) := [(60, .cut [(.normal, ⟨[(2, .one (.fix (.ptr 0 0))), (3, .one (.fix (.ptr 1 0))), (4, .one (.fix (.ptr 2 0))), (8, .one (.kd (.val sI)))], [[.kd (.own false 5 sNode), .kd (.own false 17 sEntry), .kd (.own false 3 sLook)], [.kd (.val sOp)], [.kd (.val sShape)]]⟩)])]
noncomputable def S_86 : Spec := specK ti_86 to_86 shape_Put
abbrev ti_134 : Tm := ⟨[(0, .one (.kd (.val sTree)))], []⟩
abbrev to_134 : Tm := ⟨[(0, .agg [.kd (.own false 5 sNode), .kd (.own false 17 sEntry)])], []⟩
def an_134 : List (Nat × Ann) := [(57, .loop ⟨[(1, .one (.fix (.ptr 0 0))), (2, .one (.fix (.ptr 1 0))), (14, .one (.kd (.val sI))), (15, .one (.kd (.val sI)))], [[.kd (.own false 5 sNode), .kd (.own false 17 sEntry)], [.kd (.val sTree)]]⟩ [(.exit 0, ⟨[(1, .one (.fix (.ptr 0 0))), (2, .one (.fix (.ptr 1 0)))], [[.kd (.own false 5 sNode), .kd (.own false 17 sEntry)], [.kd (.val sTree)]]⟩)])]
noncomputable def S_134 : Spec := specK ti_134 to_134 tree_Own
abbrev ti_87 : Tm := ⟨[(0, .one (.kd (.val sShape)))], []⟩
abbrev to_87 : Tm := ⟨[(0, .agg [.kd (.own false 5 sNode), .kd (.own false 17 sEntry), .kd (.own false 3 sLook)])], []⟩
def an_87 : List (Nat × Ann) := [(57, .loop ⟨[(1, .one (.fix (.ptr 0 0))), (2, .one (.fix (.ptr 1 0))), (14, .one (.kd (.val sI))), (15, .one (.kd (.val sI)))], [[.kd (.own false 5 sNode), .kd (.own false 17 sEntry), .kd (.own false 3 sLook)], [.kd (.val sShape)]]⟩ [(.exit 0, ⟨[(1, .one (.fix (.ptr 0 0))), (2, .one (.fix (.ptr 1 0)))], [[.kd (.own false 5 sNode), .kd (.own false 17 sEntry), .kd (.own false 3 sLook)], [.kd (.val sShape)]]⟩)])]
noncomputable def S_87 : Spec := specK ti_87 to_87 shape_Own
abbrev ti_47 : Tm := ⟨[(0, .one (.kd (.val sShape))), (1, .one (.kd (.val sOp)))], []⟩
abbrev to_47 : Tm := ⟨[(0, .one (.kd (.val sShape))), (1, .one (.kd (.val sI)))], []⟩
def an_47 : List (Nat × Ann) := [(11, .join [(13, .bool)])]
noncomputable def S_47 : Spec := specO ti_47.gs (kinds to_47.gs) shape_Apply
abbrev ti_45 : Tm := ⟨[], []⟩
abbrev to_45 : Tm := ⟨[(0, .one (.kd (.val .bool)))], []⟩
def an_45 : List (Nat × Ann) := [(29, .join [(0, .bool)])]
noncomputable def S_45 : Spec := specO ti_45.gs (kinds to_45.gs) arraslaw17_wakes
abbrev ti_8 : Tm := ⟨[(0, .one (.kd (.val sScript_arraslaw17)))], []⟩
abbrev to_8 : Tm := ⟨[(0, .one (.kd (.val .bool)))], []⟩
def an_8 : List (Nat × Ann) := [(121, .loop ⟨[(1, .one (.fix (.ptr 0 0))), (3, .one (.kd (.val (.list sStamp)))), (4, .one (.kd (.val sI)))], [[.kd (.val sScript_arraslaw17)]]⟩ [(.exit 0, ⟨[], [[.kd (.val sScript_arraslaw17)]]⟩), (.ret, ⟨[(2, .one (.kd (.val .bool)))], []⟩)]), (7825, .loop ⟨[(1, .one (.fix (.ptr 0 0))), (3, .one (.kd (.val (.list sStamp)))), (4, .one (.kd (.val sI))), (5, .one (.kd (.val sI)))], [[.kd (.val sScript_arraslaw17)]]⟩ [(.exit 2, ⟨[(1, .one (.fix (.ptr 0 0))), (3, .one (.kd (.val (.list sStamp)))), (4, .one (.kd (.val sI)))], [[.kd (.val sScript_arraslaw17)]]⟩), (.ret, ⟨[(2, .one (.kd (.val .bool)))], []⟩)]), (2003533, .join [(65, .bool)])]
noncomputable def S_8 : Spec := specO ti_8.gs (kinds to_8.gs) arraslaw17_ShapeSlots
theorem k_89 : SpecOk KS 89 S_89 := cloneS_ok (zero := [.int .i64 0, .int .i64 0, .int .i64 0, .int .i64 0]) (by kernel_rfl) rfl rfl
theorem k_132 : SpecOk KS 132 S_132 := insertS_ok rfl
theorem k_135 : SpecOk KS 135 S_135 := cloneS_ok (zero := [.int .i64 0, .int .i64 0, .nils]) (by kernel_rfl) rfl rfl
theorem k_161 : SpecOk KS 161 S_161 := cloneS_ok (zero := [.int .i64 0, .int .i64 0, .int .i64 0, .nils, .int .i64 0, .int .i64 0, .int .i64 0, .int .i64 0, .int .i64 0, .str ⟨#[]⟩, .int .i64 0, .int .i64 0, .bool false, .int .i64 0, .int .i64 0, .str ⟨#[]⟩, .bool false]) (by kernel_rfl) rfl rfl
theorem k_167 : SpecOk KS 167 S_167 := insertS_ok rfl
theorem k_168 : SpecOk KS 168 S_168 := cloneS_ok (zero := [.int .i64 0, .int .i64 0, .int .i64 0, .int .i64 0, .str ⟨#[]⟩]) (by kernel_rfl) rfl rfl
theorem k_178 : SpecOk KS 178 S_178 := insertS_ok rfl
theorem k0_182 : SpecOk (calls tb0 (ex tb0)) 182 S_182 := cmpStrS_ok rfl
theorem k_184 : SpecOk KS 184 S_184 := deleteS_ok (tb0 := tb0) (zero := [.int .i64 0, .int .i64 0, .int .i64 0, .int .i64 0, .str ⟨#[]⟩]) rfl (by kernel_rfl) rfl (by decide)
theorem k_190 : SpecOk KS 190 S_190 := cloneS_ok (zero := [.int .i64 0]) (by kernel_rfl) rfl rfl
theorem k_1000089 : SpecOk KS 1000089 S_1000089 := cloneQ_ok (zero := [.int .i64 0, .int .i64 0, .int .i64 0, .int .i64 0]) (by kernel_rfl) rfl rfl (by decide)
theorem e0_154 (x : St ti_154) : (symF tb0 (spOf []) 154 (anOf an_154) 1000 ti_154 to_154 x).sem = cmp_Or_int x := by kernel_rfl
theorem k0_154 : SpecOk (calls tb0 (ex tb0)) 154 S_154 := plugO (f := 154) (an := anOf an_154) (fuel := 1000) (ti := ti_154) (to := to_154) (F := cmp_Or_int) (specsOk_nil) ⟨rfl, by kernel_rfl, by kernel_rfl, rfl, by kernel_rfl, by kernel_rfl⟩ (by kernel_rfl) rfl e0_154
theorem e_154 (x : St ti_154) : (symF tbS (spOf []) 154 (anOf an_154) 1000 ti_154 to_154 x).sem = cmp_Or_int x := by kernel_rfl
theorem k_154 : SpecOk KS 154 S_154 := plugO (f := 154) (an := anOf an_154) (fuel := 1000) (ti := ti_154) (to := to_154) (F := cmp_Or_int) (specsOk_nil) ⟨rfl, by kernel_rfl, by kernel_rfl, rfl, by kernel_rfl, by kernel_rfl⟩ (by kernel_rfl) rfl e_154
theorem se0_197 (x : St ti_197) : (symF tb0 (spOf []) 197 (anOf an_197) 1000 ti_197 to_197 x).sure = true := by kernel_rfl
theorem e0_197 (x : St ti_197) (d : St to_197) : (symF tb0 (spOf []) 197 (anOf an_197) 1000 ti_197 to_197 x).pick d = cmp_isNaN_int x := by kernel_rfl
theorem k0_197 : SpecOk (calls tb0 (ex tb0)) 197 S_197 := plugT (f := 197) (an := anOf an_197) (fuel := 1000) (ti := ti_197) (to := to_197) (F := cmp_isNaN_int) (specsOk_nil) ⟨rfl, by kernel_rfl, by kernel_rfl, rfl, by kernel_rfl, by kernel_rfl⟩ (by kernel_rfl) rfl se0_197 e0_197
theorem se_197 (x : St ti_197) : (symF tbS (spOf []) 197 (anOf an_197) 1000 ti_197 to_197 x).sure = true := by kernel_rfl
theorem e_197 (x : St ti_197) (d : St to_197) : (symF tbS (spOf []) 197 (anOf an_197) 1000 ti_197 to_197 x).pick d = cmp_isNaN_int x := by kernel_rfl
theorem k_197 : SpecOk KS 197 S_197 := plugT (f := 197) (an := anOf an_197) (fuel := 1000) (ti := ti_197) (to := to_197) (F := cmp_isNaN_int) (specsOk_nil) ⟨rfl, by kernel_rfl, by kernel_rfl, rfl, by kernel_rfl, by kernel_rfl⟩ (by kernel_rfl) rfl se_197 e_197
theorem se0_179 (x : St ti_179) : (symF tb0 (spOf [(197, S_197)]) 179 (anOf an_179) 1000 ti_179 to_179 x).sure = true := by kernel_rfl
theorem e0_179 (x : St ti_179) (d : St to_179) : (symF tb0 (spOf [(197, S_197)]) 179 (anOf an_179) 1000 ti_179 to_179 x).pick d = cmp_Compare_int x := by kernel_rfl
theorem k0_179 : SpecOk (calls tb0 (ex tb0)) 179 S_179 := plugT (f := 179) (an := anOf an_179) (fuel := 1000) (ti := ti_179) (to := to_179) (F := cmp_Compare_int) (specsOk_cons k0_197 (specsOk_nil)) ⟨rfl, by kernel_rfl, by kernel_rfl, rfl, by kernel_rfl, by kernel_rfl⟩ (by kernel_rfl) rfl se0_179 e0_179
theorem se_179 (x : St ti_179) : (symF tbS (spOf [(197, S_197)]) 179 (anOf an_179) 1000 ti_179 to_179 x).sure = true := by kernel_rfl
theorem e_179 (x : St ti_179) (d : St to_179) : (symF tbS (spOf [(197, S_197)]) 179 (anOf an_179) 1000 ti_179 to_179 x).pick d = cmp_Compare_int x := by kernel_rfl
theorem k_179 : SpecOk KS 179 S_179 := plugT (f := 179) (an := anOf an_179) (fuel := 1000) (ti := ti_179) (to := to_179) (F := cmp_Compare_int) (specsOk_cons k_197 (specsOk_nil)) ⟨rfl, by kernel_rfl, by kernel_rfl, rfl, by kernel_rfl, by kernel_rfl⟩ (by kernel_rfl) rfl se_179 e_179
theorem e0_145 (x : St ti_145) : (symF tb0 (spOf [(154, S_154), (179, S_179)]) 145 (anOf an_145) 1000 ti_145 to_145 x).sem = stamp_Cmp x := by kernel_rfl
theorem k0_145 : SpecOk (calls tb0 (ex tb0)) 145 S_145 := plugO (f := 145) (an := anOf an_145) (fuel := 1000) (ti := ti_145) (to := to_145) (F := stamp_Cmp) (specsOk_cons k0_154 (specsOk_cons k0_179 (specsOk_nil))) ⟨rfl, by kernel_rfl, by kernel_rfl, rfl, by kernel_rfl, by kernel_rfl⟩ (by kernel_rfl) rfl e0_145
theorem e_145 (x : St ti_145) : (symF tbS (spOf [(154, S_154), (179, S_179)]) 145 (anOf an_145) 1000 ti_145 to_145 x).sem = stamp_Cmp x := by kernel_rfl
theorem k_145 : SpecOk KS 145 S_145 := plugO (f := 145) (an := anOf an_145) (fuel := 1000) (ti := ti_145) (to := to_145) (F := stamp_Cmp) (specsOk_cons k_154 (specsOk_cons k_179 (specsOk_nil))) ⟨rfl, by kernel_rfl, by kernel_rfl, rfl, by kernel_rfl, by kernel_rfl⟩ (by kernel_rfl) rfl e_145
theorem se0_155 (x : St ti_155) : (symF tb0 (spOf [(182, S_182)]) 155 (anOf an_155) 1000 ti_155 to_155 x).sure = true := by kernel_rfl
theorem e0_155 (x : St ti_155) (d : St to_155) : (symF tb0 (spOf [(182, S_182)]) 155 (anOf an_155) 1000 ti_155 to_155 x).pick d = strings_Compare x := by kernel_rfl
theorem k0_155 : SpecOk (calls tb0 (ex tb0)) 155 S_155 := plugT (f := 155) (an := anOf an_155) (fuel := 1000) (ti := ti_155) (to := to_155) (F := strings_Compare) (specsOk_cons k0_182 (specsOk_nil)) ⟨rfl, by kernel_rfl, by kernel_rfl, rfl, by kernel_rfl, by kernel_rfl⟩ (by kernel_rfl) rfl se0_155 e0_155
theorem e0_153 (x : St ti_153) : (symF tb0 (spOf [(145, S_145), (154, S_154), (155, S_155)]) 153 (anOf an_153) 1000 ti_153 to_153 x).sem = tree_Children_1 x := by kernel_rfl
theorem k0_153 : SpecOk (calls tb0 (ex tb0)) 153 S_153 := plugO (f := 153) (an := anOf an_153) (fuel := 1000) (ti := ti_153) (to := to_153) (F := tree_Children_1) (specsOk_cons k0_145 (specsOk_cons k0_154 (specsOk_cons k0_155 (specsOk_nil)))) ⟨rfl, by kernel_rfl, by kernel_rfl, rfl, by kernel_rfl, by kernel_rfl⟩ (by kernel_rfl) rfl e0_153
theorem k_152 : SpecOk KS 152 S_152 := sortS_ok rfl swo_slices_SortFunc_Node rfl
theorem e_192 (x : St ti_192) : (symF tbS (spOf [(145, S_145)]) 192 (anOf an_192) 1000 ti_192 to_192 x).sem = tree_find_1 x := by kernel_rfl
theorem k_192 : SpecOk KS 192 S_192 := plugO (f := 192) (an := anOf an_192) (fuel := 1000) (ti := ti_192) (to := to_192) (F := tree_find_1) (specsOk_cons k_145 (specsOk_nil)) ⟨rfl, by kernel_rfl, by kernel_rfl, rfl, by kernel_rfl, by kernel_rfl⟩ (by kernel_rfl) rfl e_192
theorem e_191 (x : St ti_191) : (symF tbS (spOf [(192, S_192)]) 191 (anOf an_191) 1000 ti_191 to_191 x).sem = slices_BinarySearchFunc_Node_Stamp x := by kernel_rfl
theorem k_191 : SpecOk KS 191 S_191 := plugO (f := 191) (an := anOf an_191) (fuel := 1000) (ti := ti_191) (to := to_191) (F := slices_BinarySearchFunc_Node_Stamp) (specsOk_cons k_192 (specsOk_nil)) ⟨rfl, by kernel_rfl, by kernel_rfl, rfl, by kernel_rfl, by kernel_rfl⟩ (by kernel_rfl) rfl e_191
theorem e_174 (x : St ti_174) : (symF tbS (spOf [(191, S_191)]) 174 (anOf an_174) 1000 ti_174 to_174 x).sem = tree_find x := by kernel_rfl
theorem k_174 : SpecOk KS 174 S_174 := plugO (f := 174) (an := anOf an_174) (fuel := 1000) (ti := ti_174) (to := to_174) (F := tree_find) (specsOk_cons k_191 (specsOk_nil)) ⟨rfl, by kernel_rfl, by kernel_rfl, rfl, by kernel_rfl, by kernel_rfl⟩ (by kernel_rfl) rfl e_174
theorem e_163 (x : St ti_163) : (symF tbS (spOf [(145, S_145)]) 163 (anOf an_163) 1000 ti_163 to_163 x).sem = shape_find_1 x := by kernel_rfl
theorem k_163 : SpecOk KS 163 S_163 := plugO (f := 163) (an := anOf an_163) (fuel := 1000) (ti := ti_163) (to := to_163) (F := shape_find_1) (specsOk_cons k_145 (specsOk_nil)) ⟨rfl, by kernel_rfl, by kernel_rfl, rfl, by kernel_rfl, by kernel_rfl⟩ (by kernel_rfl) rfl e_163
theorem e_162 (x : St ti_162) : (symF tbS (spOf [(163, S_163)]) 162 (anOf an_162) 1000 ti_162 to_162 x).sem = slices_BinarySearchFunc_Look_Stamp x := by kernel_rfl
theorem k_162 : SpecOk KS 162 S_162 := plugO (f := 162) (an := anOf an_162) (fuel := 1000) (ti := ti_162) (to := to_162) (F := slices_BinarySearchFunc_Look_Stamp) (specsOk_cons k_163 (specsOk_nil)) ⟨rfl, by kernel_rfl, by kernel_rfl, rfl, by kernel_rfl, by kernel_rfl⟩ (by kernel_rfl) rfl e_162
theorem e_131 (x : St ti_131) : (symF tbS (spOf [(162, S_162)]) 131 (anOf an_131) 1000 ti_131 to_131 x).sem = shape_find x := by kernel_rfl
theorem k_131 : SpecOk KS 131 S_131 := plugO (f := 131) (an := anOf an_131) (fuel := 1000) (ti := ti_131) (to := to_131) (F := shape_find) (specsOk_cons k_162 (specsOk_nil)) ⟨rfl, by kernel_rfl, by kernel_rfl, rfl, by kernel_rfl, by kernel_rfl⟩ (by kernel_rfl) rfl e_131
theorem se_101 (x : St ti_101) : (symF tbS (spOf []) 101 (anOf an_101) 1000 ti_101 to_101 x).sure = true := by kernel_rfl
theorem e_101 (x : St ti_101) (d : St to_101) : (symF tbS (spOf []) 101 (anOf an_101) 1000 ti_101 to_101 x).pick d = arraslaw0_OpWeight x := by kernel_rfl
theorem k_101 : SpecOk KS 101 S_101 := plugT (f := 101) (an := anOf an_101) (fuel := 1000) (ti := ti_101) (to := to_101) (F := arraslaw0_OpWeight) (specsOk_nil) ⟨rfl, by kernel_rfl, by kernel_rfl, rfl, by kernel_rfl, by kernel_rfl⟩ (by kernel_rfl) rfl se_101 e_101
theorem e_100 (x : St ti_100) : (symF tbS (spOf [(101, S_101)]) 100 (anOf an_100) 1000 ti_100 to_100 x).sem = arraslaw0_TreeWeight x := by kernel_rfl
theorem k_100 : SpecOk KS 100 S_100 := plugO (f := 100) (an := anOf an_100) (fuel := 1000) (ti := ti_100) (to := to_100) (F := arraslaw0_TreeWeight) (specsOk_cons k_101 (specsOk_nil)) ⟨rfl, by kernel_rfl, by kernel_rfl, rfl, by kernel_rfl, by kernel_rfl⟩ (by kernel_rfl) rfl e_100
theorem e_60 (x : St ti_60) : (symF tbS (spOf [(100, S_100)]) 60 (anOf an_60) 1000 ti_60 to_60 x).sem = arraslaw0_ShapeWeight x := by kernel_rfl
theorem k_60 : SpecOk KS 60 S_60 := plugO (f := 60) (an := anOf an_60) (fuel := 1000) (ti := ti_60) (to := to_60) (F := arraslaw0_ShapeWeight) (specsOk_cons k_100 (specsOk_nil)) ⟨rfl, by kernel_rfl, by kernel_rfl, rfl, by kernel_rfl, by kernel_rfl⟩ (by kernel_rfl) rfl e_60
theorem e_61 (x : St ti_61) : (symF tbS (spOf [(101, S_101)]) 61 (anOf an_61) 1000 ti_61 to_61 x).sem = arraslaw0_OpsWeight x := by kernel_rfl
theorem k_61 : SpecOk KS 61 S_61 := plugO (f := 61) (an := anOf an_61) (fuel := 1000) (ti := ti_61) (to := to_61) (F := arraslaw0_OpsWeight) (specsOk_cons k_101 (specsOk_nil)) ⟨rfl, by kernel_rfl, by kernel_rfl, rfl, by kernel_rfl, by kernel_rfl⟩ (by kernel_rfl) rfl e_61
theorem e_15 (x : St ti_15) : (symF tbS (spOf [(60, S_60), (61, S_61)]) 15 (anOf an_15) 1000 ti_15 to_15 x).sem = arraslaw17_Heavy x := by kernel_rfl
theorem k_15 : SpecOk KS 15 S_15 := plugO (f := 15) (an := anOf an_15) (fuel := 1000) (ti := ti_15) (to := to_15) (F := arraslaw17_Heavy) (specsOk_cons k_60 (specsOk_cons k_61 (specsOk_nil))) ⟨rfl, by kernel_rfl, by kernel_rfl, rfl, by kernel_rfl, by kernel_rfl⟩ (by kernel_rfl) rfl e_15
theorem se_102 (x : St ti_102) : (symF tbS (spOf []) 102 (anOf an_102) 1000 ti_102 to_102 x).sure = true := by kernel_rfl
theorem e_102 (x : St ti_102) (d : St to_102) : (symF tbS (spOf []) 102 (anOf an_102) 1000 ti_102 to_102 x).pick d = arrasref0_Num x := by kernel_rfl
theorem k_102 : SpecOk KS 102 S_102 := plugT (f := 102) (an := anOf an_102) (fuel := 1000) (ti := ti_102) (to := to_102) (F := arrasref0_Num) (specsOk_nil) ⟨rfl, by kernel_rfl, by kernel_rfl, rfl, by kernel_rfl, by kernel_rfl⟩ (by kernel_rfl) rfl se_102 e_102
theorem se_62 (x : St ti_62) : (symF tbS (spOf [(102, S_102)]) 62 (anOf an_62) 1000 ti_62 to_62 x).sure = true := by kernel_rfl
theorem e_62 (x : St ti_62) (d : St to_62) : (symF tbS (spOf [(102, S_102)]) 62 (anOf an_62) 1000 ti_62 to_62 x).pick d = arrasref6_Stamp x := by kernel_rfl
theorem k_62 : SpecOk KS 62 S_62 := plugT (f := 62) (an := anOf an_62) (fuel := 1000) (ti := ti_62) (to := to_62) (F := arrasref6_Stamp) (specsOk_cons k_102 (specsOk_nil)) ⟨rfl, by kernel_rfl, by kernel_rfl, rfl, by kernel_rfl, by kernel_rfl⟩ (by kernel_rfl) rfl se_62 e_62
theorem e_82 (x : St ti_82) : (symF tbS (spOf []) 82 (anOf an_82) 1000 ti_82 to_82 x).sem = arrasref8_value x := by kernel_rfl
theorem k_82 : SpecOk KS 82 S_82 := plugO (f := 82) (an := anOf an_82) (fuel := 1000) (ti := ti_82) (to := to_82) (F := arrasref8_value) (specsOk_nil) ⟨rfl, by kernel_rfl, by kernel_rfl, rfl, by kernel_rfl, by kernel_rfl⟩ (by kernel_rfl) rfl e_82
theorem e_88 (x : St ti_88) : (symF tbS (spOf [(82, S_82)]) 88 (anOf an_88) 1000 ti_88 to_88 x).sem = arrasref8_Check x := by kernel_rfl
theorem k_88 : SpecOk KS 88 S_88 := plugO (f := 88) (an := anOf an_88) (fuel := 1000) (ti := ti_88) (to := to_88) (F := arrasref8_Check) (specsOk_cons k_82 (specsOk_nil)) ⟨rfl, by kernel_rfl, by kernel_rfl, rfl, by kernel_rfl, by kernel_rfl⟩ (by kernel_rfl) rfl e_88
theorem e_49 (x : St ti_49) : (symF tbS (spOf [(62, S_62), (88, S_88)]) 49 (anOf an_49) 1000 ti_49 to_49 x).sem = arrasref14_Regs x := by kernel_rfl
theorem k_49 : SpecOk KS 49 S_49 := plugO (f := 49) (an := anOf an_49) (fuel := 1000) (ti := ti_49) (to := to_49) (F := arrasref14_Regs) (specsOk_cons k_62 (specsOk_cons k_88 (specsOk_nil))) ⟨rfl, by kernel_rfl, by kernel_rfl, rfl, by kernel_rfl, by kernel_rfl⟩ (by kernel_rfl) rfl e_49
theorem se_63 (x : St ti_63) : (symF tbS (spOf []) 63 (anOf an_63) 1000 ti_63 to_63 x).sure = true := by kernel_rfl
theorem e_63 (x : St ti_63) (d : St to_63) : (symF tbS (spOf []) 63 (anOf an_63) 1000 ti_63 to_63 x).pick d = arrasref6_Cmp x := by kernel_rfl
theorem k_63 : SpecOk KS 63 S_63 := plugT (f := 63) (an := anOf an_63) (fuel := 1000) (ti := ti_63) (to := to_63) (F := arrasref6_Cmp) (specsOk_nil) ⟨rfl, by kernel_rfl, by kernel_rfl, rfl, by kernel_rfl, by kernel_rfl⟩ (by kernel_rfl) rfl se_63 e_63
theorem e_117 (x : St ti_117) : (symF tbS (spOf []) 117 (anOf an_117) 1000 ti_117 to_117 x).sem = arrasref0_EqNodes x := by kernel_rfl
theorem k_117 : SpecOk KS 117 S_117 := plugO (f := 117) (an := anOf an_117) (fuel := 1000) (ti := ti_117) (to := to_117) (F := arrasref0_EqNodes) (specsOk_nil) ⟨rfl, by kernel_rfl, by kernel_rfl, rfl, by kernel_rfl, by kernel_rfl⟩ (by kernel_rfl) rfl e_117
theorem e_81 (x : St ti_81) : (symF tbS (spOf []) 81 (anOf an_81) 1000 ti_81 to_81 x).sem = arrasref0_EqNumbers x := by kernel_rfl
theorem k_81 : SpecOk KS 81 S_81 := plugO (f := 81) (an := anOf an_81) (fuel := 1000) (ti := ti_81) (to := to_81) (F := arrasref0_EqNumbers) (specsOk_nil) ⟨rfl, by kernel_rfl, by kernel_rfl, rfl, by kernel_rfl, by kernel_rfl⟩ (by kernel_rfl) rfl e_81
theorem e_92 (x : St ti_92) : (symF tbS (spOf [(81, S_81)]) 92 (anOf an_92) 1000 ti_92 to_92 x).sem = arrasref0_EqOp x := by kernel_rfl
theorem k_92 : SpecOk KS 92 S_92 := plugO (f := 92) (an := anOf an_92) (fuel := 1000) (ti := ti_92) (to := to_92) (F := arrasref0_EqOp) (specsOk_cons k_81 (specsOk_nil)) ⟨rfl, by kernel_rfl, by kernel_rfl, rfl, by kernel_rfl, by kernel_rfl⟩ (by kernel_rfl) rfl e_92
theorem e_150 (x : St ti_150) : (symF tbS (spOf [(92, S_92)]) 150 (anOf an_150) 1000 ti_150 to_150 x).sem = arrasref0_EqEntry x := by kernel_rfl
theorem k_150 : SpecOk KS 150 S_150 := plugO (f := 150) (an := anOf an_150) (fuel := 1000) (ti := ti_150) (to := to_150) (F := arrasref0_EqEntry) (specsOk_cons k_92 (specsOk_nil)) ⟨rfl, by kernel_rfl, by kernel_rfl, rfl, by kernel_rfl, by kernel_rfl⟩ (by kernel_rfl) rfl e_150
theorem e_118 (x : St ti_118) : (symF tbS (spOf [(150, S_150)]) 118 (anOf an_118) 1000 ti_118 to_118 x).sem = arrasref0_EqMoves x := by kernel_rfl
theorem k_118 : SpecOk KS 118 S_118 := plugO (f := 118) (an := anOf an_118) (fuel := 1000) (ti := ti_118) (to := to_118) (F := arrasref0_EqMoves) (specsOk_cons k_150 (specsOk_nil)) ⟨rfl, by kernel_rfl, by kernel_rfl, rfl, by kernel_rfl, by kernel_rfl⟩ (by kernel_rfl) rfl e_118
theorem e_76 (x : St ti_76) : (symF tbS (spOf [(117, S_117), (118, S_118)]) 76 (anOf an_76) 1000 ti_76 to_76 x).sem = arrasref0_EqTree x := by kernel_rfl
theorem k_76 : SpecOk KS 76 S_76 := plugO (f := 76) (an := anOf an_76) (fuel := 1000) (ti := ti_76) (to := to_76) (F := arrasref0_EqTree) (specsOk_cons k_117 (specsOk_cons k_118 (specsOk_nil))) ⟨rfl, by kernel_rfl, by kernel_rfl, rfl, by kernel_rfl, by kernel_rfl⟩ (by kernel_rfl) rfl e_76
theorem e_103 (x : St ti_103) : (symF tbS (spOf []) 103 (anOf an_103) 1000 ti_103 to_103 x).sem = arrasref16_Moves x := by kernel_rfl
theorem k_103 : SpecOk KS 103 S_103 := plugK (f := 103) (an := an_103) (fuel := 1000) (ti := ti_103) (to := to_103) (F := arrasref16_Moves) (specsOk_nil) ⟨by kernel_rfl, by kernel_rfl, by kernel_rfl, by kernel_rfl⟩ ⟨by kernel_rfl, by kernel_rfl, rfl, by kernel_rfl⟩ (by kernel_rfl) (by kernel_rfl) rfl e_103
theorem e_91 (x : St ti_91) : (symF tbS (spOf [(102, S_102)]) 91 (anOf an_91) 1000 ti_91 to_91 x).sem = arrasref6_Vector x := by kernel_rfl
theorem k_91 : SpecOk KS 91 S_91 := plugO (f := 91) (an := anOf an_91) (fuel := 1000) (ti := ti_91) (to := to_91) (F := arrasref6_Vector) (specsOk_cons k_102 (specsOk_nil)) ⟨rfl, by kernel_rfl, by kernel_rfl, rfl, by kernel_rfl, by kernel_rfl⟩ (by kernel_rfl) rfl e_91
theorem se_59 (x : St ti_59) : (symF tbS (spOf []) 59 (anOf an_59) 1000 ti_59 to_59 x).sure = true := by kernel_rfl
theorem e_59 (x : St ti_59) (d : St to_59) : (symF tbS (spOf []) 59 (anOf an_59) 1000 ti_59 to_59 x).pick d = arrasref6_Root x := by kernel_rfl
theorem k_59 : SpecOk KS 59 S_59 := plugT (f := 59) (an := anOf an_59) (fuel := 1000) (ti := ti_59) (to := to_59) (F := arrasref6_Root) (specsOk_nil) ⟨rfl, by kernel_rfl, by kernel_rfl, rfl, by kernel_rfl, by kernel_rfl⟩ (by kernel_rfl) rfl se_59 e_59
theorem se_95 (x : St ti_95) : (symF tbS (spOf []) 95 (anOf an_95) 1000 ti_95 to_95 x).sure = true := by kernel_rfl
theorem e_95 (x : St ti_95) (d : St to_95) : (symF tbS (spOf []) 95 (anOf an_95) 1000 ti_95 to_95 x).pick d = arrasref6_Trash x := by kernel_rfl
theorem k_95 : SpecOk KS 95 S_95 := plugT (f := 95) (an := anOf an_95) (fuel := 1000) (ti := ti_95) (to := to_95) (F := arrasref6_Trash) (specsOk_nil) ⟨rfl, by kernel_rfl, by kernel_rfl, rfl, by kernel_rfl, by kernel_rfl⟩ (by kernel_rfl) rfl se_95 e_95
theorem se_93 (x : St ti_93) : (symF tbS (spOf [(59, S_59), (62, S_62), (95, S_95)]) 93 (anOf an_93) 1000 ti_93 to_93 x).sure = true := by kernel_rfl
theorem e_93 (x : St ti_93) (d : St to_93) : (symF tbS (spOf [(59, S_59), (62, S_62), (95, S_95)]) 93 (anOf an_93) 1000 ti_93 to_93 x).pick d = arrasref6_Place x := by kernel_rfl
theorem k_93 : SpecOk KS 93 S_93 := plugT (f := 93) (an := anOf an_93) (fuel := 1000) (ti := ti_93) (to := to_93) (F := arrasref6_Place) (specsOk_cons k_59 (specsOk_cons k_62 (specsOk_cons k_95 (specsOk_nil)))) ⟨rfl, by kernel_rfl, by kernel_rfl, rfl, by kernel_rfl, by kernel_rfl⟩ (by kernel_rfl) rfl se_93 e_93
theorem e_94 (x : St ti_94) : (symF tbS (spOf []) 94 (anOf an_94) 1000 ti_94 to_94 x).sem = arrasref8_Key x := by kernel_rfl
theorem k_94 : SpecOk KS 94 S_94 := plugO (f := 94) (an := anOf an_94) (fuel := 1000) (ti := ti_94) (to := to_94) (F := arrasref8_Key) (specsOk_nil) ⟨rfl, by kernel_rfl, by kernel_rfl, rfl, by kernel_rfl, by kernel_rfl⟩ (by kernel_rfl) rfl e_94
theorem e_53 (x : St ti_53) : (symF tbS (spOf [(62, S_62), (88, S_88), (91, S_91), (92, S_92), (93, S_93), (94, S_94)]) 53 (anOf an_53) 1000 ti_53 to_53 x).sem = arrasref10_Op x := by kernel_rfl
theorem k_53 : SpecOk KS 53 S_53 := plugO (f := 53) (an := anOf an_53) (fuel := 1000) (ti := ti_53) (to := to_53) (F := arrasref10_Op) (specsOk_cons k_62 (specsOk_cons k_88 (specsOk_cons k_91 (specsOk_cons k_92 (specsOk_cons k_93 (specsOk_cons k_94 (specsOk_nil))))))) ⟨rfl, by kernel_rfl, by kernel_rfl, rfl, by kernel_rfl, by kernel_rfl⟩ (by kernel_rfl) rfl e_53
theorem e_104 (x : St ti_104) : (symF tbS (spOf [(53, S_53)]) 104 (anOf an_104) 1000 ti_104 to_104 x).sem = arrasref16_Move x := by kernel_rfl
theorem k_104 : SpecOk KS 104 S_104 := plugO (f := 104) (an := anOf an_104) (fuel := 1000) (ti := ti_104) (to := to_104) (F := arrasref16_Move) (specsOk_cons k_53 (specsOk_nil)) ⟨rfl, by kernel_rfl, by kernel_rfl, rfl, by kernel_rfl, by kernel_rfl⟩ (by kernel_rfl) rfl e_104
theorem e_57 (x : St ti_57) : (symF tbS (spOf []) 57 (anOf an_57) 1000 ti_57 to_57 x).sem = arrasref16_Find x := by kernel_rfl
theorem k_57 : SpecOk KS 57 S_57 := plugO (f := 57) (an := anOf an_57) (fuel := 1000) (ti := ti_57) (to := to_57) (F := arrasref16_Find) (specsOk_nil) ⟨rfl, by kernel_rfl, by kernel_rfl, rfl, by kernel_rfl, by kernel_rfl⟩ (by kernel_rfl) rfl e_57
theorem e_96 (x : St ti_96) : (symF tbS (spOf [(57, S_57)]) 96 (anOf an_96) 1000 ti_96 to_96 x).sem = arrasref16_over x := by kernel_rfl
theorem k_96 : SpecOk KS 96 S_96 := plugO (f := 96) (an := anOf an_96) (fuel := 1000) (ti := ti_96) (to := to_96) (F := arrasref16_over) (specsOk_cons k_57 (specsOk_nil)) ⟨rfl, by kernel_rfl, by kernel_rfl, rfl, by kernel_rfl, by kernel_rfl⟩ (by kernel_rfl) rfl e_96
theorem e_99 (x : St ti_99) : (symF tbS (spOf []) 99 (anOf an_99) 1000 ti_99 to_99 x).sem = arrasref0_CopyNodes x := by kernel_rfl
theorem k_99 : SpecOk KS 99 S_99 := plugK (f := 99) (an := an_99) (fuel := 1000) (ti := ti_99) (to := to_99) (F := arrasref0_CopyNodes) (specsOk_nil) ⟨by kernel_rfl, by kernel_rfl, by kernel_rfl, by kernel_rfl⟩ ⟨by kernel_rfl, by kernel_rfl, rfl, by kernel_rfl⟩ (by kernel_rfl) (by kernel_rfl) rfl e_99
theorem e_193 (x : St ti_193) : (symF tbS (spOf []) 193 (anOf an_193) 1000 ti_193 to_193 x).sem = arrasref0_CopyNumbers x := by kernel_rfl
theorem k_193 : SpecOk KS 193 S_193 := plugO (f := 193) (an := anOf an_193) (fuel := 1000) (ti := ti_193) (to := to_193) (F := arrasref0_CopyNumbers) (specsOk_nil) ⟨rfl, by kernel_rfl, by kernel_rfl, rfl, by kernel_rfl, by kernel_rfl⟩ (by kernel_rfl) rfl e_193
theorem e_175 (x : St ti_175) : (symF tbS (spOf [(193, S_193)]) 175 (anOf an_175) 1000 ti_175 to_175 x).sem = arrasref0_CopyOp x := by kernel_rfl
theorem k_175 : SpecOk KS 175 S_175 := plugO (f := 175) (an := anOf an_175) (fuel := 1000) (ti := ti_175) (to := to_175) (F := arrasref0_CopyOp) (specsOk_cons k_193 (specsOk_nil)) ⟨rfl, by kernel_rfl, by kernel_rfl, rfl, by kernel_rfl, by kernel_rfl⟩ (by kernel_rfl) rfl e_175
theorem e_138 (x : St ti_138) : (symF tbS (spOf [(57, S_57), (63, S_63), (96, S_96), (99, S_99), (175, S_175)]) 138 (anOf an_138) 1000 ti_138 to_138 x).sem = arrasref16_done x := by kernel_rfl
theorem k_138 : SpecOk KS 138 S_138 := plugK (f := 138) (an := an_138) (fuel := 1000) (ti := ti_138) (to := to_138) (F := arrasref16_done) (specsOk_cons k_57 (specsOk_cons k_63 (specsOk_cons k_96 (specsOk_cons k_99 (specsOk_cons k_175 (specsOk_nil)))))) ⟨by kernel_rfl, by kernel_rfl, by kernel_rfl, by kernel_rfl⟩ ⟨by kernel_rfl, by kernel_rfl, rfl, by kernel_rfl⟩ (by kernel_rfl) (by kernel_rfl) rfl e_138
theorem e_105 (x : St ti_105) : (symF tbS (spOf [(138, S_138)]) 105 (anOf an_105) 1000 ti_105 to_105 x).sem = arrasref16_Made x := by kernel_rfl
theorem k_105 : SpecOk KS 105 S_105 := plugK (f := 105) (an := an_105) (fuel := 1000) (ti := ti_105) (to := to_105) (F := arrasref16_Made) (specsOk_cons k_138 (specsOk_nil)) ⟨by kernel_rfl, by kernel_rfl, by kernel_rfl, by kernel_rfl⟩ ⟨by kernel_rfl, by kernel_rfl, rfl, by kernel_rfl⟩ (by kernel_rfl) (by kernel_rfl) rfl e_105
theorem e_64 (x : St ti_64) : (symF tbS (spOf [(63, S_63), (76, S_76), (103, S_103), (104, S_104), (105, S_105)]) 64 (anOf an_64) 1000 ti_64 to_64 x).sem = arrasref16_Tree x := by kernel_rfl
theorem k_64 : SpecOk KS 64 S_64 := plugO (f := 64) (an := anOf an_64) (fuel := 1000) (ti := ti_64) (to := to_64) (F := arrasref16_Tree) (specsOk_cons k_63 (specsOk_cons k_76 (specsOk_cons k_103 (specsOk_cons k_104 (specsOk_cons k_105 (specsOk_nil)))))) ⟨rfl, by kernel_rfl, by kernel_rfl, rfl, by kernel_rfl, by kernel_rfl⟩ (by kernel_rfl) rfl e_64
theorem e_16 (x : St ti_16) : (symF tbS (spOf [(49, S_49), (62, S_62), (63, S_63), (64, S_64)]) 16 (anOf an_16) 1000 ti_16 to_16 x).sem = arrasref16_Shape x := by kernel_rfl
theorem k_16 : SpecOk KS 16 S_16 := plugO (f := 16) (an := anOf an_16) (fuel := 1000) (ti := ti_16) (to := to_16) (F := arrasref16_Shape) (specsOk_cons k_49 (specsOk_cons k_62 (specsOk_cons k_63 (specsOk_cons k_64 (specsOk_nil))))) ⟨rfl, by kernel_rfl, by kernel_rfl, rfl, by kernel_rfl, by kernel_rfl⟩ (by kernel_rfl) rfl e_16
theorem se_127 (x : St ti_127) : (symF tbS (spOf []) 127 (anOf an_127) 1000 ti_127 to_127 x).sure = true := by kernel_rfl
theorem e_127 (x : St ti_127) (d : St to_127) : (symF tbS (spOf []) 127 (anOf an_127) 1000 ti_127 to_127 x).pick d = stamp_Is x := by kernel_rfl
theorem k_127 : SpecOk KS 127 S_127 := plugT (f := 127) (an := anOf an_127) (fuel := 1000) (ti := ti_127) (to := to_127) (F := stamp_Is) (specsOk_nil) ⟨rfl, by kernel_rfl, by kernel_rfl, rfl, by kernel_rfl, by kernel_rfl⟩ (by kernel_rfl) rfl se_127 e_127
theorem e_128 (x : St ti_128) : (symF tbS (spOf []) 128 (anOf an_128) 1000 ti_128 to_128 x).sem = have_Is x := by kernel_rfl
theorem k_128 : SpecOk KS 128 S_128 := plugO (f := 128) (an := anOf an_128) (fuel := 1000) (ti := ti_128) (to := to_128) (F := have_Is) (specsOk_nil) ⟨rfl, by kernel_rfl, by kernel_rfl, rfl, by kernel_rfl, by kernel_rfl⟩ (by kernel_rfl) rfl e_128
theorem se_109 (x : St ti_109) : (symF tbS (spOf []) 109 (anOf an_109) 1000 ti_109 to_109 x).sure = true := by kernel_rfl
theorem e_109 (x : St ti_109) (d : St to_109) : (symF tbS (spOf []) 109 (anOf an_109) 1000 ti_109 to_109 x).pick d = stamp_Root x := by kernel_rfl
theorem k_109 : SpecOk KS 109 S_109 := plugT (f := 109) (an := anOf an_109) (fuel := 1000) (ti := ti_109) (to := to_109) (F := stamp_Root) (specsOk_nil) ⟨rfl, by kernel_rfl, by kernel_rfl, rfl, by kernel_rfl, by kernel_rfl⟩ (by kernel_rfl) rfl se_109 e_109
theorem e_156 (x : St ti_156) : (symF tbS (spOf []) 156 (anOf an_156) 1000 ti_156 to_156 x).sem = key_Is x := by kernel_rfl
theorem k_156 : SpecOk KS 156 S_156 := plugO (f := 156) (an := anOf an_156) (fuel := 1000) (ti := ti_156) (to := to_156) (F := key_Is) (specsOk_nil) ⟨rfl, by kernel_rfl, by kernel_rfl, rfl, by kernel_rfl, by kernel_rfl⟩ (by kernel_rfl) rfl e_156
theorem se_170 (x : St ti_170) : (symF tbS (spOf []) 170 (anOf an_170) 1000 ti_170 to_170 x).sure = true := by kernel_rfl
theorem e_170 (x : St ti_170) (d : St to_170) : (symF tbS (spOf []) 170 (anOf an_170) 1000 ti_170 to_170 x).pick d = stamp_Trash x := by kernel_rfl
theorem k_170 : SpecOk KS 170 S_170 := plugT (f := 170) (an := anOf an_170) (fuel := 1000) (ti := ti_170) (to := to_170) (F := stamp_Trash) (specsOk_nil) ⟨rfl, by kernel_rfl, by kernel_rfl, rfl, by kernel_rfl, by kernel_rfl⟩ (by kernel_rfl) rfl se_170 e_170
theorem se_158 (x : St ti_158) : (symF tbS (spOf [(109, S_109), (127, S_127), (170, S_170)]) 158 (anOf an_158) 1000 ti_158 to_158 x).sure = true := by kernel_rfl
theorem e_158 (x : St ti_158) (d : St to_158) : (symF tbS (spOf [(109, S_109), (127, S_127), (170, S_170)]) 158 (anOf an_158) 1000 ti_158 to_158 x).pick d = stamp_Place x := by kernel_rfl
theorem k_158 : SpecOk KS 158 S_158 := plugT (f := 158) (an := anOf an_158) (fuel := 1000) (ti := ti_158) (to := to_158) (F := stamp_Place) (specsOk_cons k_109 (specsOk_cons k_127 (specsOk_cons k_170 (specsOk_nil)))) ⟨rfl, by kernel_rfl, by kernel_rfl, rfl, by kernel_rfl, by kernel_rfl⟩ (by kernel_rfl) rfl se_158 e_158
theorem e_146 (x : St ti_146) : (symF tbS (spOf []) 146 (anOf an_146) 1000 ti_146 to_146 x).sem = prop_ruleOf x := by kernel_rfl
theorem k_146 : SpecOk KS 146 S_146 := plugO (f := 146) (an := anOf an_146) (fuel := 1000) (ti := ti_146) (to := to_146) (F := prop_ruleOf) (specsOk_nil) ⟨rfl, by kernel_rfl, by kernel_rfl, rfl, by kernel_rfl, by kernel_rfl⟩ (by kernel_rfl) rfl e_146
theorem se_183 (x : St ti_183) : (symF tbS (spOf []) 183 (anOf an_183) 1000 ti_183 to_183 x).sure = true := by kernel_rfl
theorem e_183 (x : St ti_183) (d : St to_183) : (symF tbS (spOf []) 183 (anOf an_183) 1000 ti_183 to_183 x).pick d = prop_Is x := by kernel_rfl
theorem k_183 : SpecOk KS 183 S_183 := plugT (f := 183) (an := anOf an_183) (fuel := 1000) (ti := ti_183) (to := to_183) (F := prop_Is) (specsOk_nil) ⟨rfl, by kernel_rfl, by kernel_rfl, rfl, by kernel_rfl, by kernel_rfl⟩ (by kernel_rfl) rfl se_183 e_183
theorem e_159 (x : St ti_159) : (symF tbS (spOf [(146, S_146), (183, S_183)]) 159 (anOf an_159) 1000 ti_159 to_159 x).sem = prop_May x := by kernel_rfl
theorem k_159 : SpecOk KS 159 S_159 := plugO (f := 159) (an := anOf an_159) (fuel := 1000) (ti := ti_159) (to := to_159) (F := prop_May) (specsOk_cons k_146 (specsOk_cons k_183 (specsOk_nil))) ⟨rfl, by kernel_rfl, by kernel_rfl, rfl, by kernel_rfl, by kernel_rfl⟩ (by kernel_rfl) rfl e_159
theorem e_129 (x : St ti_129) : (symF tbS (spOf [(109, S_109), (156, S_156), (158, S_158), (159, S_159)]) 129 (anOf an_129) 1000 ti_129 to_129 x).sem = op_kind x := by kernel_rfl
theorem k_129 : SpecOk KS 129 S_129 := plugO (f := 129) (an := anOf an_129) (fuel := 1000) (ti := ti_129) (to := to_129) (F := op_kind) (specsOk_cons k_109 (specsOk_cons k_156 (specsOk_cons k_158 (specsOk_cons k_159 (specsOk_nil))))) ⟨rfl, by kernel_rfl, by kernel_rfl, rfl, by kernel_rfl, by kernel_rfl⟩ (by kernel_rfl) rfl e_129
theorem e_85 (x : St ti_85) : (symF tbS (spOf [(127, S_127), (128, S_128), (129, S_129)]) 85 (anOf an_85) 1000 ti_85 to_85 x).sem = op_May x := by kernel_rfl
theorem k_85 : SpecOk KS 85 S_85 := plugO (f := 85) (an := anOf an_85) (fuel := 1000) (ti := ti_85) (to := to_85) (F := op_May) (specsOk_cons k_127 (specsOk_cons k_128 (specsOk_cons k_129 (specsOk_nil)))) ⟨rfl, by kernel_rfl, by kernel_rfl, rfl, by kernel_rfl, by kernel_rfl⟩ (by kernel_rfl) rfl e_85
theorem e_139 (x : St ti_139) : (symF tbS (spOf [(85, S_85)]) 139 (anOf an_139) 1000 ti_139 to_139 x).sem = tree_move x := by kernel_rfl
theorem k_139 : SpecOk KS 139 S_139 := plugO (f := 139) (an := anOf an_139) (fuel := 1000) (ti := ti_139) (to := to_139) (F := tree_move) (specsOk_cons k_85 (specsOk_nil)) ⟨rfl, by kernel_rfl, by kernel_rfl, rfl, by kernel_rfl, by kernel_rfl⟩ (by kernel_rfl) rfl e_139
theorem e_140 (x : St ti_140) : (symF tbS (spOf [(145, S_145)]) 140 (anOf an_140) 1000 ti_140 to_140 x).sem = op_Less x := by kernel_rfl
theorem k_140 : SpecOk KS 140 S_140 := plugO (f := 140) (an := anOf an_140) (fuel := 1000) (ti := ti_140) (to := to_140) (F := op_Less) (specsOk_cons k_145 (specsOk_nil)) ⟨rfl, by kernel_rfl, by kernel_rfl, rfl, by kernel_rfl, by kernel_rfl⟩ (by kernel_rfl) rfl e_140
theorem e_194 (x : St ti_194) : (symF tbS (spOf []) 194 (anOf an_194) 1000 ti_194 to_194 x).sem = slices_Equal_int x := by kernel_rfl
theorem k_194 : SpecOk KS 194 S_194 := plugO (f := 194) (an := anOf an_194) (fuel := 1000) (ti := ti_194) (to := to_194) (F := slices_Equal_int) (specsOk_nil) ⟨rfl, by kernel_rfl, by kernel_rfl, rfl, by kernel_rfl, by kernel_rfl⟩ (by kernel_rfl) rfl e_194
theorem e_176 (x : St ti_176) : (symF tbS (spOf [(194, S_194)]) 176 (anOf an_176) 1000 ti_176 to_176 x).sem = op_Same x := by kernel_rfl
theorem k_176 : SpecOk KS 176 S_176 := plugO (f := 176) (an := anOf an_176) (fuel := 1000) (ti := ti_176) (to := to_176) (F := op_Same) (specsOk_cons k_194 (specsOk_nil)) ⟨rfl, by kernel_rfl, by kernel_rfl, rfl, by kernel_rfl, by kernel_rfl⟩ (by kernel_rfl) rfl e_176
theorem e_141 (x : St ti_141) : (symF tbS (spOf [(176, S_176)]) 141 (anOf an_141) 1000 ti_141 to_141 x).sem = tree_same x := by kernel_rfl
theorem k_141 : SpecOk KS 141 S_141 := plugO (f := 141) (an := anOf an_141) (fuel := 1000) (ti := ti_141) (to := to_141) (F := tree_same) (specsOk_cons k_176 (specsOk_nil)) ⟨rfl, by kernel_rfl, by kernel_rfl, rfl, by kernel_rfl, by kernel_rfl⟩ (by kernel_rfl) rfl e_141
theorem e_169 (x : St ti_169) : (symF tbS (spOf [(190, S_190)]) 169 (anOf an_169) 1000 ti_169 to_169 x).sem = op_Own x := by kernel_rfl
theorem k_169 : SpecOk KS 169 S_169 := plugO (f := 169) (an := anOf an_169) (fuel := 1000) (ti := ti_169) (to := to_169) (F := op_Own) (specsOk_cons k_190 (specsOk_nil)) ⟨rfl, by kernel_rfl, by kernel_rfl, rfl, by kernel_rfl, by kernel_rfl⟩ (by kernel_rfl) rfl e_169
theorem e_177 (x : St ti_177) : (symF tbS (spOf [(174, S_174)]) 177 (anOf an_177) 1000 ti_177 to_177 x).sem = tree_work_circle x := by kernel_rfl
theorem k_177 : SpecOk KS 177 S_177 := plugO (f := 177) (an := anOf an_177) (fuel := 1000) (ti := ti_177) (to := to_177) (F := tree_work_circle) (specsOk_cons k_174 (specsOk_nil)) ⟨rfl, by kernel_rfl, by kernel_rfl, rfl, by kernel_rfl, by kernel_rfl⟩ (by kernel_rfl) rfl e_177
theorem e_142 (x : St ti_142) : (symF tbS (spOf [(169, S_169), (174, S_174), (177, S_177), (178, S_178)]) 142 (anOf an_142) 1000 ti_142 to_142 x).sem = tree_work_do x := by kernel_rfl
theorem k_142 : SpecOk KS 142 S_142 := plugK (f := 142) (an := an_142) (fuel := 1000) (ti := ti_142) (to := to_142) (F := tree_work_do) (specsOk_cons k_169 (specsOk_cons k_174 (specsOk_cons k_177 (specsOk_cons k_178 (specsOk_nil))))) ⟨by kernel_rfl, by kernel_rfl, by kernel_rfl, by kernel_rfl⟩ ⟨by kernel_rfl, by kernel_rfl, rfl, by kernel_rfl⟩ (by kernel_rfl) (by kernel_rfl) rfl e_142
theorem e_143 (x : St ti_143) : (symF tbS (spOf []) 143 (anOf an_143) 1000 ti_143 to_143 x).sem = slices_Equal_Node x := by kernel_rfl
theorem k_143 : SpecOk KS 143 S_143 := plugO (f := 143) (an := anOf an_143) (fuel := 1000) (ti := ti_143) (to := to_143) (F := slices_Equal_Node) (specsOk_nil) ⟨rfl, by kernel_rfl, by kernel_rfl, rfl, by kernel_rfl, by kernel_rfl⟩ (by kernel_rfl) rfl e_143
theorem e_106 (x : St ti_106) : (symF tbS (spOf [(139, S_139), (140, S_140), (141, S_141), (142, S_142), (143, S_143)]) 106 (anOf an_106) 1000 ti_106 to_106 x).sem = tree_May x := by kernel_rfl
theorem k_106 : SpecOk KS 106 S_106 := plugO (f := 106) (an := anOf an_106) (fuel := 1000) (ti := ti_106) (to := to_106) (F := tree_May) (specsOk_cons k_139 (specsOk_cons k_140 (specsOk_cons k_141 (specsOk_cons k_142 (specsOk_cons k_143 (specsOk_nil)))))) ⟨rfl, by kernel_rfl, by kernel_rfl, rfl, by kernel_rfl, by kernel_rfl⟩ (by kernel_rfl) rfl e_106
theorem e_144 (x : St ti_144) : (symF tbS (spOf [(127, S_127), (159, S_159)]) 144 (anOf an_144) 1000 ti_144 to_144 x).sem = reg_May x := by kernel_rfl
theorem k_144 : SpecOk KS 144 S_144 := plugO (f := 144) (an := anOf an_144) (fuel := 1000) (ti := ti_144) (to := to_144) (F := reg_May) (specsOk_cons k_127 (specsOk_cons k_159 (specsOk_nil))) ⟨rfl, by kernel_rfl, by kernel_rfl, rfl, by kernel_rfl, by kernel_rfl⟩ (by kernel_rfl) rfl e_144
theorem e_107 (x : St ti_107) : (symF tbS (spOf [(127, S_127), (144, S_144), (145, S_145)]) 107 (anOf an_107) 1000 ti_107 to_107 x).sem = shape_looks x := by kernel_rfl
theorem k_107 : SpecOk KS 107 S_107 := plugO (f := 107) (an := anOf an_107) (fuel := 1000) (ti := ti_107) (to := to_107) (F := shape_looks) (specsOk_cons k_127 (specsOk_cons k_144 (specsOk_cons k_145 (specsOk_nil)))) ⟨rfl, by kernel_rfl, by kernel_rfl, rfl, by kernel_rfl, by kernel_rfl⟩ (by kernel_rfl) rfl e_107
theorem e_65 (x : St ti_65) : (symF tbS (spOf [(106, S_106), (107, S_107)]) 65 (anOf an_65) 1000 ti_65 to_65 x).sem = shape_IsShape x := by kernel_rfl
theorem k_65 : SpecOk KS 65 S_65 := plugO (f := 65) (an := anOf an_65) (fuel := 1000) (ti := ti_65) (to := to_65) (F := shape_IsShape) (specsOk_cons k_106 (specsOk_cons k_107 (specsOk_nil))) ⟨rfl, by kernel_rfl, by kernel_rfl, rfl, by kernel_rfl, by kernel_rfl⟩ (by kernel_rfl) rfl e_65
theorem e_123 (x : St ti_123) : (symF tbS (spOf [(152, S_152)]) 123 (anOf an_123) 1000 ti_123 to_123 x).sem = tree_Children x := by kernel_rfl
theorem k_123 : SpecOk KS 123 S_123 := plugO (f := 123) (an := anOf an_123) (fuel := 1000) (ti := ti_123) (to := to_123) (F := tree_Children) (specsOk_cons k_152 (specsOk_nil)) ⟨rfl, by kernel_rfl, by kernel_rfl, rfl, by kernel_rfl, by kernel_rfl⟩ (by kernel_rfl) rfl e_123
theorem e_23 (x : St ti_23) : (symF tbS (spOf []) 23 (anOf an_23) 1000 ti_23 to_23 x).sem = arrasref0_InStamps x := by kernel_rfl
theorem k_23 : SpecOk KS 23 S_23 := plugO (f := 23) (an := anOf an_23) (fuel := 1000) (ti := ti_23) (to := to_23) (F := arrasref0_InStamps) (specsOk_nil) ⟨rfl, by kernel_rfl, by kernel_rfl, rfl, by kernel_rfl, by kernel_rfl⟩ (by kernel_rfl) rfl e_23
theorem e_20 (x : St ti_20) : (symF tbS (spOf [(57, S_57)]) 20 (anOf an_20) 1000 ti_20 to_20 x).sem = arrasref16_Above x := by kernel_rfl
theorem k_20 : SpecOk KS 20 S_20 := plugO (f := 20) (an := anOf an_20) (fuel := 1000) (ti := ti_20) (to := to_20) (F := arrasref16_Above) (specsOk_cons k_57 (specsOk_nil)) ⟨rfl, by kernel_rfl, by kernel_rfl, rfl, by kernel_rfl, by kernel_rfl⟩ (by kernel_rfl) rfl e_20
theorem e_21 (x : St ti_21) : (symF tbS (spOf [(20, S_20), (59, S_59)]) 21 (anOf an_21) 1000 ti_21 to_21 x).sem = arrasref16_Live x := by kernel_rfl
theorem k_21 : SpecOk KS 21 S_21 := plugO (f := 21) (an := anOf an_21) (fuel := 1000) (ti := ti_21) (to := to_21) (F := arrasref16_Live) (specsOk_cons k_20 (specsOk_cons k_59 (specsOk_nil))) ⟨rfl, by kernel_rfl, by kernel_rfl, rfl, by kernel_rfl, by kernel_rfl⟩ (by kernel_rfl) rfl e_21
theorem se_70 (x : St ti_70) : (symF tbS (spOf []) 70 (anOf an_70) 1000 ti_70 to_70 x).sure = true := by kernel_rfl
theorem e_70 (x : St ti_70) (d : St to_70) : (symF tbS (spOf []) 70 (anOf an_70) 1000 ti_70 to_70 x).pick d = arraslaw10_O x := by kernel_rfl
theorem k_70 : SpecOk KS 70 S_70 := plugT (f := 70) (an := anOf an_70) (fuel := 1000) (ti := ti_70) (to := to_70) (F := arraslaw10_O) (specsOk_nil) ⟨rfl, by kernel_rfl, by kernel_rfl, rfl, by kernel_rfl, by kernel_rfl⟩ (by kernel_rfl) rfl se_70 e_70
theorem e_137 (x : St ti_137) : (symF tbS (spOf [(174, S_174)]) 137 (anOf an_137) 1000 ti_137 to_137 x).sem = tree_Node x := by kernel_rfl
theorem k_137 : SpecOk KS 137 S_137 := plugO (f := 137) (an := anOf an_137) (fuel := 1000) (ti := ti_137) (to := to_137) (F := tree_Node) (specsOk_cons k_174 (specsOk_nil)) ⟨rfl, by kernel_rfl, by kernel_rfl, rfl, by kernel_rfl, by kernel_rfl⟩ (by kernel_rfl) rfl e_137
theorem e_121 (x : St ti_121) : (symF tbS (spOf [(137, S_137)]) 121 (anOf an_121) 1000 ti_121 to_121 x).sem = tree_Up x := by kernel_rfl
theorem k_121 : SpecOk KS 121 S_121 := plugO (f := 121) (an := anOf an_121) (fuel := 1000) (ti := ti_121) (to := to_121) (F := tree_Up) (specsOk_cons k_137 (specsOk_nil)) ⟨rfl, by kernel_rfl, by kernel_rfl, rfl, by kernel_rfl, by kernel_rfl⟩ (by kernel_rfl) rfl e_121
theorem e_79 (x : St ti_79) : (symF tbS (spOf [(109, S_109), (121, S_121)]) 79 (anOf an_79) 1000 ti_79 to_79 x).sem = tree_Lives x := by kernel_rfl
theorem k_79 : SpecOk KS 79 S_79 := plugO (f := 79) (an := anOf an_79) (fuel := 1000) (ti := ti_79) (to := to_79) (F := tree_Lives) (specsOk_cons k_109 (specsOk_cons k_121 (specsOk_nil))) ⟨rfl, by kernel_rfl, by kernel_rfl, rfl, by kernel_rfl, by kernel_rfl⟩ (by kernel_rfl) rfl e_79
theorem e_41 (x : St ti_41) : (symF tbS (spOf []) 41 (anOf an_41) 1000 ti_41 to_41 x).sem = arraslaw17_places x := by kernel_rfl
theorem k_41 : SpecOk KS 41 S_41 := plugO (f := 41) (an := anOf an_41) (fuel := 1000) (ti := ti_41) (to := to_41) (F := arraslaw17_places) (specsOk_nil) ⟨rfl, by kernel_rfl, by kernel_rfl, rfl, by kernel_rfl, by kernel_rfl⟩ (by kernel_rfl) rfl e_41
theorem se_125 (x : St ti_125) : (symF tbS (spOf []) 125 (anOf an_125) 1000 ti_125 to_125 x).sure = true := by kernel_rfl
theorem e_125 (x : St ti_125) (d : St to_125) : (symF tbS (spOf []) 125 (anOf an_125) 1000 ti_125 to_125 x).pick d = shape_Gap_1 x := by kernel_rfl
theorem k_125 : SpecOk KS 125 S_125 := plugT (f := 125) (an := anOf an_125) (fuel := 1000) (ti := ti_125) (to := to_125) (F := shape_Gap_1) (specsOk_nil) ⟨rfl, by kernel_rfl, by kernel_rfl, rfl, by kernel_rfl, by kernel_rfl⟩ (by kernel_rfl) rfl se_125 e_125
theorem e_124 (x : St ti_124) : (symF tbS (spOf [(125, S_125)]) 124 (anOf an_124) 1000 ti_124 to_124 x).sem = slices_IndexFunc_Node x := by kernel_rfl
theorem k_124 : SpecOk KS 124 S_124 := plugO (f := 124) (an := anOf an_124) (fuel := 1000) (ti := ti_124) (to := to_124) (F := slices_IndexFunc_Node) (specsOk_cons k_125 (specsOk_nil)) ⟨rfl, by kernel_rfl, by kernel_rfl, rfl, by kernel_rfl, by kernel_rfl⟩ (by kernel_rfl) rfl e_124
theorem e_157 (x : St ti_157) : (symF tbS (spOf []) 157 (anOf an_157) 1000 ti_157 to_157 x).sem = key_at x := by kernel_rfl
theorem k_157 : SpecOk KS 157 S_157 := plugO (f := 157) (an := anOf an_157) (fuel := 1000) (ti := ti_157) (to := to_157) (F := key_at) (specsOk_nil) ⟨rfl, by kernel_rfl, by kernel_rfl, rfl, by kernel_rfl, by kernel_rfl⟩ (by kernel_rfl) rfl e_157
theorem e_126 (x : St ti_126) : (symF tbS (spOf [(156, S_156), (157, S_157)]) 126 (anOf an_126) 1000 ti_126 to_126 x).sem = key_Between x := by kernel_rfl
theorem k_126 : SpecOk KS 126 S_126 := plugO (f := 126) (an := anOf an_126) (fuel := 1000) (ti := ti_126) (to := to_126) (F := key_Between) (specsOk_cons k_156 (specsOk_cons k_157 (specsOk_nil))) ⟨rfl, by kernel_rfl, by kernel_rfl, rfl, by kernel_rfl, by kernel_rfl⟩ (by kernel_rfl) rfl e_126
theorem e_83 (x : St ti_83) : (symF tbS (spOf [(79, S_79), (109, S_109), (123, S_123), (124, S_124), (126, S_126)]) 83 (anOf an_83) 1000 ti_83 to_83 x).sem = shape_Gap x := by kernel_rfl
theorem k_83 : SpecOk KS 83 S_83 := plugO (f := 83) (an := anOf an_83) (fuel := 1000) (ti := ti_83) (to := to_83) (F := shape_Gap) (specsOk_cons k_79 (specsOk_cons k_109 (specsOk_cons k_123 (specsOk_cons k_124 (specsOk_cons k_126 (specsOk_nil)))))) ⟨rfl, by kernel_rfl, by kernel_rfl, rfl, by kernel_rfl, by kernel_rfl⟩ (by kernel_rfl) rfl e_83
theorem e_42 (x : St ti_42) : (symF tbS (spOf [(65, S_65), (83, S_83)]) 42 (anOf an_42) 1000 ti_42 to_42 x).sem = shape_Slot x := by kernel_rfl
theorem k_42 : SpecOk KS 42 S_42 := plugO (f := 42) (an := anOf an_42) (fuel := 1000) (ti := ti_42) (to := to_42) (F := shape_Slot) (specsOk_cons k_65 (specsOk_cons k_83 (specsOk_nil))) ⟨rfl, by kernel_rfl, by kernel_rfl, rfl, by kernel_rfl, by kernel_rfl⟩ (by kernel_rfl) rfl e_42
theorem e_58 (x : St ti_58) : (symF tbS (spOf [(99, S_99)]) 58 (anOf an_58) 1000 ti_58 to_58 x).sem = arrasref16_Kids x := by kernel_rfl
theorem k_58 : SpecOk KS 58 S_58 := plugO (f := 58) (an := anOf an_58) (fuel := 1000) (ti := ti_58) (to := to_58) (F := arrasref16_Kids) (specsOk_cons k_99 (specsOk_nil)) ⟨rfl, by kernel_rfl, by kernel_rfl, rfl, by kernel_rfl, by kernel_rfl⟩ (by kernel_rfl) rfl e_58
theorem e_84 (x : St ti_84) : (symF tbS (spOf []) 84 (anOf an_84) 1000 ti_84 to_84 x).sem = arrasref8_Between x := by kernel_rfl
theorem k_84 : SpecOk KS 84 S_84 := plugO (f := 84) (an := anOf an_84) (fuel := 1000) (ti := ti_84) (to := to_84) (F := arrasref8_Between) (specsOk_nil) ⟨rfl, by kernel_rfl, by kernel_rfl, rfl, by kernel_rfl, by kernel_rfl⟩ (by kernel_rfl) rfl e_84
theorem e_43 (x : St ti_43) : (symF tbS (spOf [(21, S_21), (23, S_23), (57, S_57), (58, S_58), (59, S_59), (84, S_84)]) 43 (anOf an_43) 1000 ti_43 to_43 x).sem = arrasref16_Slot x := by kernel_rfl
theorem k_43 : SpecOk KS 43 S_43 := plugO (f := 43) (an := anOf an_43) (fuel := 1000) (ti := ti_43) (to := to_43) (F := arrasref16_Slot) (specsOk_cons k_21 (specsOk_cons k_23 (specsOk_cons k_57 (specsOk_cons k_58 (specsOk_cons k_59 (specsOk_cons k_84 (specsOk_nil))))))) ⟨rfl, by kernel_rfl, by kernel_rfl, rfl, by kernel_rfl, by kernel_rfl⟩ (by kernel_rfl) rfl e_43
theorem se_44 (x : St ti_44) : (symF tbS (spOf []) 44 (anOf an_44) 1000 ti_44 to_44 x).sure = true := by kernel_rfl
theorem e_44 (x : St ti_44) (d : St to_44) : (symF tbS (spOf []) 44 (anOf an_44) 1000 ti_44 to_44 x).pick d = arraslaw17_num x := by kernel_rfl
theorem k_44 : SpecOk KS 44 S_44 := plugT (f := 44) (an := anOf an_44) (fuel := 1000) (ti := ti_44) (to := to_44) (F := arraslaw17_num) (specsOk_nil) ⟨rfl, by kernel_rfl, by kernel_rfl, rfl, by kernel_rfl, by kernel_rfl⟩ (by kernel_rfl) rfl se_44 e_44
theorem e_160 (x : St ti_160) : (symF tbS (spOf [(174, S_174), (184, S_184)]) 160 (anOf an_160) 1000 ti_160 to_160 x).sem = tree_work_undo x := by kernel_rfl
theorem k_160 : SpecOk KS 160 S_160 := plugK (f := 160) (an := an_160) (fuel := 1000) (ti := ti_160) (to := to_160) (F := tree_work_undo) (specsOk_cons k_174 (specsOk_cons k_184 (specsOk_nil))) ⟨by kernel_rfl, by kernel_rfl, by kernel_rfl, by kernel_rfl⟩ ⟨by kernel_rfl, by kernel_rfl, rfl, by kernel_rfl⟩ (by kernel_rfl) (by kernel_rfl) rfl e_160
theorem e_130 (x : St ti_130) : (symF tbS (spOf [(140, S_140), (142, S_142), (160, S_160), (161, S_161)]) 130 (anOf an_130) 1000 ti_130 to_130 x).sem = tree_Put x := by kernel_rfl
theorem k_130 : SpecOk KS 130 S_130 := plugK (f := 130) (an := an_130) (fuel := 1000) (ti := ti_130) (to := to_130) (F := tree_Put) (specsOk_cons k_140 (specsOk_cons k_142 (specsOk_cons k_160 (specsOk_cons k_161 (specsOk_nil))))) ⟨by kernel_rfl, by kernel_rfl, by kernel_rfl, by kernel_rfl⟩ ⟨by kernel_rfl, by kernel_rfl, rfl, by kernel_rfl⟩ (by kernel_rfl) (by kernel_rfl) rfl e_130
theorem se_187 (x : St ti_187) : (symF tbS (spOf [(179, S_179)]) 187 (anOf an_187) 1000 ti_187 to_187 x).sure = true := by kernel_rfl
theorem e_187 (x : St ti_187) (d : St to_187) : (symF tbS (spOf [(179, S_179)]) 187 (anOf an_187) 1000 ti_187 to_187 x).pick d = reg_find_1 x := by kernel_rfl
theorem k_187 : SpecOk KS 187 S_187 := plugT (f := 187) (an := anOf an_187) (fuel := 1000) (ti := ti_187) (to := to_187) (F := reg_find_1) (specsOk_cons k_179 (specsOk_nil)) ⟨rfl, by kernel_rfl, by kernel_rfl, rfl, by kernel_rfl, by kernel_rfl⟩ (by kernel_rfl) rfl se_187 e_187
theorem e_186 (x : St ti_186) : (symF tbS (spOf [(187, S_187)]) 186 (anOf an_186) 1000 ti_186 to_186 x).sem = slices_BinarySearchFunc_Reg_int x := by kernel_rfl
theorem k_186 : SpecOk KS 186 S_186 := plugO (f := 186) (an := anOf an_186) (fuel := 1000) (ti := ti_186) (to := to_186) (F := slices_BinarySearchFunc_Reg_int) (specsOk_cons k_187 (specsOk_nil)) ⟨rfl, by kernel_rfl, by kernel_rfl, rfl, by kernel_rfl, by kernel_rfl⟩ (by kernel_rfl) rfl e_186
theorem e_166 (x : St ti_166) : (symF tbS (spOf [(186, S_186)]) 166 (anOf an_166) 1000 ti_166 to_166 x).sem = reg_find x := by kernel_rfl
theorem k_166 : SpecOk KS 166 S_166 := plugO (f := 166) (an := anOf an_166) (fuel := 1000) (ti := ti_166) (to := to_166) (F := reg_find) (specsOk_cons k_186 (specsOk_nil)) ⟨rfl, by kernel_rfl, by kernel_rfl, rfl, by kernel_rfl, by kernel_rfl⟩ (by kernel_rfl) rfl e_166
theorem e_133 (x : St ti_133) : (symF tbS (spOf [(89, S_89), (145, S_145), (166, S_166), (167, S_167)]) 133 (anOf an_133) 1000 ti_133 to_133 x).sem = reg_Put x := by kernel_rfl
theorem k_133 : SpecOk KS 133 S_133 := plugO (f := 133) (an := anOf an_133) (fuel := 1000) (ti := ti_133) (to := to_133) (F := reg_Put) (specsOk_cons k_89 (specsOk_cons k_145 (specsOk_cons k_166 (specsOk_cons k_167 (specsOk_nil))))) ⟨rfl, by kernel_rfl, by kernel_rfl, rfl, by kernel_rfl, by kernel_rfl⟩ (by kernel_rfl) rfl e_133
theorem e_86 (x : St ti_86) : (symF tbS (spOf [(130, S_130), (131, S_131), (132, S_132), (133, S_133)]) 86 (anOf an_86) 1000 ti_86 to_86 x).sem = shape_Put x := by kernel_rfl
theorem k_86 : SpecOk KS 86 S_86 := plugK (f := 86) (an := an_86) (fuel := 1000) (ti := ti_86) (to := to_86) (F := shape_Put) (specsOk_cons k_130 (specsOk_cons k_131 (specsOk_cons k_132 (specsOk_cons k_133 (specsOk_nil))))) ⟨by kernel_rfl, by kernel_rfl, by kernel_rfl, by kernel_rfl⟩ ⟨by kernel_rfl, by kernel_rfl, rfl, by kernel_rfl⟩ (by kernel_rfl) (by kernel_rfl) rfl e_86
theorem e_134 (x : St ti_134) : (symF tbS (spOf [(161, S_161), (168, S_168), (169, S_169)]) 134 (anOf an_134) 1000 ti_134 to_134 x).sem = tree_Own x := by kernel_rfl
theorem k_134 : SpecOk KS 134 S_134 := plugK (f := 134) (an := an_134) (fuel := 1000) (ti := ti_134) (to := to_134) (F := tree_Own) (specsOk_cons k_161 (specsOk_cons k_168 (specsOk_cons k_169 (specsOk_nil)))) ⟨by kernel_rfl, by kernel_rfl, by kernel_rfl, by kernel_rfl⟩ ⟨by kernel_rfl, by kernel_rfl, rfl, by kernel_rfl⟩ (by kernel_rfl) (by kernel_rfl) rfl e_134
theorem e_87 (x : St ti_87) : (symF tbS (spOf [(134, S_134), (135, S_135), (1000089, S_1000089)]) 87 (anOf an_87) 1000 ti_87 to_87 x).sem = shape_Own x := by kernel_rfl
theorem k_87 : SpecOk KS 87 S_87 := plugK (f := 87) (an := an_87) (fuel := 1000) (ti := ti_87) (to := to_87) (F := shape_Own) (specsOk_cons k_134 (specsOk_cons k_135 (specsOk_cons k_1000089 (specsOk_nil)))) ⟨by kernel_rfl, by kernel_rfl, by kernel_rfl, by kernel_rfl⟩ ⟨by kernel_rfl, by kernel_rfl, rfl, by kernel_rfl⟩ (by kernel_rfl) (by kernel_rfl) rfl e_87
theorem e_47 (x : St ti_47) : (symF tbS (spOf [(65, S_65), (85, S_85), (86, S_86), (87, S_87)]) 47 (anOf an_47) 1000 ti_47 to_47 x).sem = shape_Apply x := by kernel_rfl
theorem k_47 : SpecOk KS 47 S_47 := plugO (f := 47) (an := anOf an_47) (fuel := 1000) (ti := ti_47) (to := to_47) (F := shape_Apply) (specsOk_cons k_65 (specsOk_cons k_85 (specsOk_cons k_86 (specsOk_cons k_87 (specsOk_nil))))) ⟨rfl, by kernel_rfl, by kernel_rfl, rfl, by kernel_rfl, by kernel_rfl⟩ (by kernel_rfl) rfl e_47
theorem e_45 (x : St ti_45) : (symF tbS (spOf [(42, S_42), (44, S_44), (47, S_47), (70, S_70)]) 45 (anOf an_45) 1000 ti_45 to_45 x).sem = arraslaw17_wakes x := by kernel_rfl
theorem k_45 : SpecOk KS 45 S_45 := plugO (f := 45) (an := anOf an_45) (fuel := 1000) (ti := ti_45) (to := to_45) (F := arraslaw17_wakes) (specsOk_cons k_42 (specsOk_cons k_44 (specsOk_cons k_47 (specsOk_cons k_70 (specsOk_nil))))) ⟨rfl, by kernel_rfl, by kernel_rfl, rfl, by kernel_rfl, by kernel_rfl⟩ (by kernel_rfl) rfl e_45
theorem e_8 (x : St ti_8) : (symF tbS (spOf [(15, S_15), (16, S_16), (41, S_41), (42, S_42), (43, S_43), (44, S_44), (45, S_45)]) 8 (anOf an_8) 1000 ti_8 to_8 x).sem = arraslaw17_ShapeSlots x := by kernel_rfl
theorem k_8 : SpecOk KS 8 S_8 := plugO (f := 8) (an := anOf an_8) (fuel := 1000) (ti := ti_8) (to := to_8) (F := arraslaw17_ShapeSlots) (specsOk_cons k_15 (specsOk_cons k_16 (specsOk_cons k_41 (specsOk_cons k_42 (specsOk_cons k_43 (specsOk_cons k_44 (specsOk_cons k_45 (specsOk_nil)))))))) ⟨rfl, by kernel_rfl, by kernel_rfl, rfl, by kernel_rfl, by kernel_rfl⟩ (by kernel_rfl) rfl e_8
end Go.Dv
